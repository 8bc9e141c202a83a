/- Walks, written by a program of mine (wip/tool); the kernel checks them. -/
import Derived.Test.YtcakdidcpoolcaaGreatDoorProg
import Derived.Test.YtcakdidcpoolcaaGreatDoorSqTexts
import Derived.Test.YtcakdidcpoolcaaGreatDoorF25
import Derived.Test.YtcakdidcpoolcaaGreatDoorPV
import Derived.Test.YtcakdidcpoolcaaGreatDoorWATexts
import Derived.Test.YtcakdidcpoolcaaGreatDoorWRTexts
import Derived.Test.YtcakdidcpoolcaaGreatDoorWBTexts
import Derived.Test.YtcakdidcpoolcaaGreatDoorWCTexts
import Derived.Test.YtcakdidcpoolcaaGreatDoorWITexts
import Derived.Test.YtcakdidcpoolcaaGreatDoorWSTexts
set_option maxRecDepth 100000
set_option maxHeartbeats 40000000
set_option linter.unusedVariables false
set_option linter.unusedSimpArgs false
namespace Go.Proofs.YtcakdidcpoolcaaGreatDoor.WV
open Go Go.RowKit Go.X Go.D Go.Proofs.YtcakdidcpoolcaaGreatDoor.WF Go.Proofs.YtcakdidcpoolcaaGreatDoor.WA Go.Proofs.YtcakdidcpoolcaaGreatDoor.WR Go.Proofs.YtcakdidcpoolcaaGreatDoor.WB Go.Proofs.YtcakdidcpoolcaaGreatDoor.WC Go.Proofs.YtcakdidcpoolcaaGreatDoor.WI Go.Proofs.YtcakdidcpoolcaaGreatDoor.WS
theorem pl87 : placesT Tryz.prog 87 = some [(0, 1), (1, 1)] := by kernel_rfl
theorem pl90 : placesT Tryz.prog 90 = some [(0, 1), (1, 1)] := by kernel_rfl
theorem pl92 : placesT Tryz.prog 92 = some [(0, 2), (2, 1)] := by kernel_rfl
theorem en39 : Go.X.Enters Tryz.prog 39 := ⟨Tryz.f39, Tryz.func39, by kernel_rfl, by kernel_rfl⟩
theorem en40 : Go.X.Enters Tryz.prog 40 := ⟨Tryz.f40, Tryz.func40, by kernel_rfl, by kernel_rfl⟩
theorem en41 : Go.X.Enters Tryz.prog 41 := ⟨Tryz.f41, Tryz.func41, by kernel_rfl, by kernel_rfl⟩
theorem en42 : Go.X.Enters Tryz.prog 42 := ⟨Tryz.f42, Tryz.func42, by kernel_rfl, by kernel_rfl⟩
theorem ti41 : TI Tryz.prog 41 5 120 (zar #[zN, zN, zN, zN, zN]) := zeo (by kernel_rfl)
theorem en91 : Go.X.Enters Tryz.prog 91 := ⟨Tryz.f91, Tryz.func91, by kernel_rfl, by kernel_rfl⟩
theorem en15 : Go.X.Enters Tryz.prog 15 := ⟨Tryz.f15, Tryz.func15, by kernel_rfl, by kernel_rfl⟩
theorem en12 : Go.X.Enters Tryz.prog 12 := ⟨Tryz.f12, Tryz.func12, by kernel_rfl, by kernel_rfl⟩
theorem en94 : Go.X.Enters Tryz.prog 94 := ⟨Tryz.f94, Tryz.func94, by kernel_rfl, by kernel_rfl⟩
theorem en93 : Go.X.Enters Tryz.prog 93 := ⟨Tryz.f93, Tryz.func93, by kernel_rfl, by kernel_rfl⟩
theorem ti71 : TI Tryz.prog 71 1 24 zN := zeo (by kernel_rfl)
theorem ti73 : TI Tryz.prog 73 9 152 (zar #[(zI 0), (zI 0), (zI 0), zN, zN, zF, zN, zN, zN]) := zeo (by kernel_rfl)
theorem en61 : Go.X.Enters Tryz.prog 61 := ⟨Tryz.f61, Tryz.func61, by kernel_rfl, by kernel_rfl⟩
theorem en60 : Go.X.Enters Tryz.prog 60 := ⟨Tryz.f60, Tryz.func60, by kernel_rfl, by kernel_rfl⟩
theorem en67 : Go.X.Enters Tryz.prog 67 := ⟨Tryz.f67, Tryz.func67, by kernel_rfl, by kernel_rfl⟩
theorem ti135 : TI Tryz.prog 135 2 32 (zar #[(zaj none), zN]) := zeo (by kernel_rfl)
theorem mky_3 : MKey Tryz.prog 3 (fun x : Int => zI x) := MKey.int zat
theorem cloneCoef_w (N : Nat) (s : (List Coef)) (s_v : Value) (w : World) (S : Nat → Prop) (s_h : Rs rCoef (vH w S [] w) s_v s) (r : (List Coef)) (h : cloneCoef N s = some r) :
  Calls Tryz.prog 42 #[s_v] w (Ret w (fun v w' => ∃ (ob0 : Option Nat) (cap0 : Nat) (cs0 : List Value) (sp0 : List Value), (zO ob0 r cap0) = v ∧ NewOwn w w' [ob0] [zac ([] ++ (cs0 ++ sp0))] ∧ Els rCoef (vH w None [ob0] w') cs0 r ∧ (cs0 ++ sp0).length = cap0 * rCoef.sz ∧ True)) := by
 unfold cloneCoef at h
 have hL : vL w w [] [] := Go.X.Loc.begin0 w
 refine calls_of (l := [s_v]) (rl := [.tmp 2]) (n := 8) Tryz.func42 rfl rfl rfl (zaf rfl) ?_
 refine zal (zah rfl (zag (zam (v := zN) rfl ?_)))
 refine zap (zal (zal (zah rfl (zag (zai (v := s_v) rfl ?_)))))
 refine zag (OpY.eqlNil (v := s_v) zbp rfl s_h.isSlice rfl (zap ?_))
 refine zdd (isNil s_v) rfl (fun hc1 => ?_) (fun hc1 => ?_)
 ·
  have hnil := (Sl.of_isNil s_h hc1).1
  replace h : some [] = some r := by rw [hnil] at h; simpa [apnd] using h
  refine zal (zah rfl (zag (zam (v := zN) rfl (zap ?_))))
  have hp2 := hL.addNil
  have hL3 : vL w w [none] [zac ([] ++ ([] ++ []))] := hp2.1
  have hE6 : Els rCoef (vH w None [none] w) [] [] := zcx
  refine zbl ?_
  obtain rfl := zae h
  refine ⟨[(osv none 0 (List.length ([] : (List Coef))) 0)], zrt, ⟨_, rfl, hL3.done, ?_⟩⟩
  exact ⟨none, 0, [], [], rfl, (hL3.newOwn [0] rfl rfl rfl), (hE6.mono (zdx [0] rfl)), (show ([] ++ [] : List Value).length = 0 * rCoef.sz by simp), trivial⟩
 refine zbk (zal (zah rfl (zag (OpY.litRow0 zbp ti87 hL ?_))))
 intro b7 w10 hL10 hS10
 have hE10 : Els rCoef (vH w None [] w) [] [] := zcx
 have K10 := ks w hS10
 refine zag (zai (v := s_v) rfl ?_)
 obtain ⟨x10, q10, h⟩ := zes h
 obtain ⟨q11, q12, q13⟩ := zfb q10
 have f10 := (s_h.mono (K10 S))
 obtain ⟨ds10, q14, q15⟩ := Rs.src f10
 have f11 := (hE10.mono (K10 None))
 refine zag (zdo (r := rCoef) (H := (vH w None [some b7] w10)) (cs := []) (sp := []) (xs := ([] : (List Coef))) (ys := s) (Y := x10) (n := (List.length ([] : (List Coef)))) (cap := 0) (i := 0) zbp ti87 rfl rfl rfl rfl hL10 rfl rfl f11 rfl (show ([] ++ [] : List Value).length = 0 * rCoef.sz by simp) q14 (zef (fun _ _ _ _ h => h) q15) q11 q12 q13 ?_)
 intro ob10 cap10 sp10 cs10 w11 hE11 hc10 (hL11 : vL w w11 [ob10] [zac ([] ++ (cs10 ++ sp10))]) hS11
 have K11 := ks w hS11
 refine zag (zam (v := (zO ob10 x10 cap10)) rfl ?_)
 refine zap (zbl ?_)
 obtain rfl := zae h
 refine ⟨[(zO ob10 x10 cap10)], zrt, ⟨_, rfl, hL11.done, ?_⟩⟩
 have f12 := (hE11.mono (K11 None))
 exact ⟨ob10, cap10, cs10, sp10, rfl, (hL11.newOwn [0] rfl rfl rfl), (f12.mono (zdx [0] rfl)), hc10, trivial⟩
theorem vfirst_w (N : Nat) (l : (List RVar)) (l_v : Value) (w : World) (S : Nat → Prop) (l_h : Rs rRVar (vH w S [] w) l_v l) (r : (List Arr2Int)) (h : vfirst N l = some r) :
  Calls Tryz.prog 61 #[l_v] w (Ret w (fun v w' => ∃ (ob0 : Option Nat) (cap0 : Nat) (cs0 : List Value) (sp0 : List Value), (osv ob0 0 r.length cap0) = v ∧ NewOwn w w' [ob0] [zac ([] ++ (cs0 ++ sp0))] ∧ Els rArr2Int (vH w None [ob0] w') cs0 r ∧ (cs0 ++ sp0).length = cap0 * rArr2Int.sz ∧ True)) := by
 unfold vfirst at h
 have hL : vL w w [] [] := Go.X.Loc.begin0 w
 refine calls_of (l := [l_v]) (rl := [.tmp 2]) (n := 27) Tryz.func61 rfl rfl rfl (zaf rfl) ?_
 refine zal (zah rfl (zag (zam (v := zN) rfl ?_)))
 refine zap (zal (zah rfl (zag (zai (v := l_v) rfl ?_))))
 refine zag (zbg (v := l_v) zbt rfl l_h ?_)
 obtain ⟨x2, q3, h⟩ := zes h
 obtain ⟨m1, q4, q5, q6, q7⟩ := mk1_some q3
 refine zag (OpY.mkRowX (r := rArr2Int) (H := (vH w None [] w)) (zc := [(zI 0), (zI 0)]) (x := (Arr2Int.mk 0 0)) zaz ti54 rfl (rArr2Int_close zrt) rfl rfl q4 q5 q6 q7 hL ?_)
 intro b8 w10 cs9 hE10 hc10 hL10 hS10
 have K10 := ks w hS10
 refine zag (zam (v := (osv (some b8) 0 x2.length m1)) rfl ?_)
 refine zap (zal (zal (zah rfl (zag (zai (v := l_v) rfl ?_)))))
 have f10 := (l_h.mono (K10 S))
 refine zag (zbg (v := l_v) zbt rfl f10 ?_)
 refine zag (zai (v := (zI 0)) rfl (zap ?_))
 obtain ⟨s10, hl10, g10⟩ := zes h
 refine zce (fun e w' => ∃ (out10 : (List Arr2Int)) (cs10 : List Value) (u : Env), out10 = s10 ∧ e = upds [(3, (osv (some b8) 0 x2.length m1))] u ∧ vL w w' [some b8] [zac ([] ++ (cs10 ++ []))] ∧ Keep w.heap.size [some b8] w10 [some b8] w' ∧ Els rArr2Int (vH w None [some b8] w') cs10 out10 ∧ x2.length = List.length out10 ∧ (cs10 ++ []).length = m1 * rArr2Int.sz ∧ True) ?_ ?_
 ·
  refine zbh ?_
  have f11 := (hE10.mono (K10 None))
  refine zcr hl10 (fun (ss : ((List Arr2Int) × Int)) (e : Env) (w' : World) => match ss with | (out11, x10) => ∃ (cs11 : List Value) (u : Env), e = upds [(3, (osv (some b8) 0 x2.length m1)), (9, l_v), (10, (zI (l.length : Int))), (11, (zI x10))] u ∧ vL w w' [some b8] [zac ([] ++ (cs11 ++ []))] ∧ Keep w.heap.size [some b8] w10 [some b8] w' ∧ Els rArr2Int (vH w None [some b8] w') cs11 out11 ∧ x2.length = List.length out11 ∧ (cs11 ++ []).length = m1 * rArr2Int.sz ∧ True) ⟨cs9, _, (zeu ⟨rfl, rfl, rfl, rfl, trivial⟩), hL10, zck, f11, rfl, hc10, trivial⟩ ?_
  rintro ⟨out11, x10⟩ oo _ w11 ⟨cs11, u, rfl, hL11, K11, hE11, hl11, hc11, -⟩ h hd10
  rw [vfirst_b1] at h
  refine zal (zah rfl (zag (zcp (x := x10) (y := (l.length : Int)) ((x10 : Int) < (l.length : Int)) rfl rfl zbd ?_)))
  refine zap (zal ?_)
  refine zbf ((x10 : Int) < (l.length : Int)) rfl (fun hc12 => ?_) (fun hc12 => ?_)
  ·
   replace h := ite_t hc12 h
   refine zbk (zal (zbh (zal (zah rfl (zag (zai (v := (zI x10)) rfl ?_))))))
   obtain ⟨x11, n10, q11, q12, -, h⟩ := zix h
   have f12 := (f10.mono (K11 S))
   obtain ⟨b10, o10, c10, vs10, q13, q14, f13, q15⟩ := zcw f12 q12
   obtain ⟨rfl, -⟩ := rRVar_open q15
   refine zag (zbj (r := rRVar) (v := l_v) (n := n10) (m := (o10 + n10 * rRVar.sz)) zbt ti83 rfl q13 rfl q11 q12 rfl ?_)
   refine zag (zds (vs := [(zI x11.Ty), (zI x11.Low), (zI x11.High), (zI x11.Max), (zab x11.Nullable)]) zcc rfl ti83 rfl rfl zex f13 ?_)
   refine zag (zcj (cs := [(zI 0), (zI 0), (zI 0), (zI 0), zF]) ti83 rfl hL11 ?_)
   intro b11 w12 hL12 hS11
   have K12 := ks w hS11
   refine zag (zam (v := (zI x10)) rfl ?_)
   refine zcq (zbq (vs := [(zI x11.Ty), (zI x11.Low), (zI x11.High), (zI x11.Max), (zab x11.Nullable)]) ti83 rfl rfl rfl rfl (zet rfl (zet rfl (zet rfl (zet rfl (zet rfl zew))))) hL12 0 rfl rfl (zaf rfl) ?_)
   intro w13 (hL13 : vL w w13 [some b11, some b8] [zac [(zI x11.Ty), (zI x11.Low), (zI x11.High), (zI x11.Max), (zab x11.Nullable)], zac ([] ++ (cs11 ++ []))]) hS12
   have K13 := ks w hS12
   refine zap (zal (zah rfl (zag (zak (q := 0) zcc rfl ti3 rfl rfl rfl ?_))))
   refine zag (zas (v := (zI x11.Ty)) zat rfl rfl (hL13.at 0 rfl rfl) rfl ?_)
   refine zag (zeb (x := x11.Ty) (y := 2) ((x11.Ty : Int) = 2) rfl rfl zbd (zap ?_))
   refine zbf ((x11.Ty : Int) = 2) rfl (fun hc13 => ?_) (fun hc13 => ?_)
   ·
    replace h := ite_t hc13 h
    obtain ⟨x12, n11, q17, q18, q19, h⟩ := zix h
    refine zcm 5 [] [] (fun W1 => [.det (osv (some b8) 0 x2.length m1), .det (zI x10), .det (zaj (some ⟨b11, 3, none⟩)), .det (zI x11.Max), .det (zaj (some ⟨b8, (0 + n11 * rArr2Int.sz), none⟩))]) mixed rfl rfl rfl (fun _ => rfl) (fun _ => rfl) ?_ ?_
    ·
     intro W1 _
     exact trivial
    intro w14 hE12
    obtain ⟨hL14, K14⟩ := zl hL13 hE12
    refine zao (fun _ _ => zau (zai rfl (er rfl))) ?_
    refine zao (fun _ _ => zau (zai rfl (er rfl))) ?_
    refine zao (fun _ _ => zau (zak zcc rfl ti3 rfl rfl rfl (er rfl))) ?_
    refine zao (fun _ hE16 => zau (zas zat rfl rfl ((hL14.ext hE16).at 0 rfl rfl) rfl (er rfl))) ?_
    refine zao (fun _ _ => zau (zel (r := rArr2Int) (b := b8) (o := 0) (n := n11) (m := x2.length) (xs := out11) (q := (0 + n11 * rArr2Int.sz)) zaz ti54 rfl hl11 rfl q17 q19 rfl (er rfl))) ?_
    refine zcy ?_
    rintro w20 Z24 hE18 hZ15 ⟨-⟩ ap10
    have hB10 := @zhb w14 Z24
    obtain ⟨hL16, K15⟩ := zl hL14 hE18
    refine zag (zcg (i := 1) (q := ((0 + n11 * rArr2Int.sz) + 1)) zbv ti3 rfl rfl (by decide) rfl ?_)
    have f14 := ((((hE11.mono (K12 None)).mono (K13 None)).mono (K14 None)).mono (K15 None))
    obtain ⟨vs11, q20, q21, q22⟩ := row_elem (pre := []) (sp := []) f14 q18
    obtain ⟨rfl, -⟩ := rArr2Int_open q21
    obtain ⟨x13, n12, q24, q25, q26, h⟩ := zux h
    obtain rfl := zin q17 q24
    refine zcq (OpY.stPart (pre := []) (r := rArr2Int) (off := 1) (us := [(zI x11.Max)]) (vs := [(zI x12.e0), (zI x12.e1)]) (vs' := [(zI x12.e0), (zI x11.Max)]) (a := (Arr2Int.mk x12.e0 x11.Max)) ti3 rfl rfl rfl rfl (zet rfl zew) q22 (zaf rfl) rfl (rArr2Int_close zrt) hL16 1 rfl rfl f14 q19 rfl q26 ?_)
    have hl12 : x2.length = List.length x13 := by rw [q26, List.length_set]; exact hl11
    intro w21 cs12 (hL17 : vL w w21 [some b11, some b8] [zac [(zI x11.Ty), (zI x11.Low), (zI x11.High), (zI x11.Max), (zab x11.Nullable)], zac ([] ++ (cs12 ++ []))]) hS13 hE19 q27
    have hc14 : (cs12 ++ []).length = m1 * rArr2Int.sz := zhc hc11 q27
    have K16 := ks w hS13
    refine zap (zbu (zah rfl (zag (zcl (x := x10) (y := 1) (z := (iw (x10 + 1))) rfl rfl rfl ?_))))
    refine zag (zai (v := (zI (iw (x10 + 1)))) rfl (zap ?_))
    have hp10 := hL17.pick [1] rfl rfl rfl
    have hL18 : vL w w21 [some b8] [zac ([] ++ (cs12 ++ []))] := hp10.1
    have K17 := ks w hp10.2
    have f15 := ((hE19.mono (K16 None)).mono (K17 None))
    obtain rfl := zae h
    refine zaq ⟨(x13, (iw (x10 + 1))), rfl, ?_⟩
    exact ⟨cs12, _, (zeu ⟨rfl, rfl, rfl, rfl, trivial⟩), hL18, (zan (zan (zan (zan (zan (zan K11 K12) K13) K14) K15) K16) K17), f15, hl12, hc14, trivial⟩
   replace h := ite_f hc13 h
   refine zbk (zbu (zah rfl (zag (zcl (x := x10) (y := 1) (z := (iw (x10 + 1))) rfl rfl rfl ?_))))
   refine zag (zai (v := (zI (iw (x10 + 1)))) rfl (zap ?_))
   have hp11 := hL13.pick [1] rfl rfl rfl
   have hL19 : vL w w13 [some b8] [zac ([] ++ (cs11 ++ []))] := hp11.1
   have K18 := ks w hp11.2
   have f16 := (((hE11.mono (K12 None)).mono (K13 None)).mono (K18 None))
   obtain rfl := zae h
   refine zaq ⟨(out11, (iw (x10 + 1))), rfl, ?_⟩
   exact ⟨cs11, _, (zeu ⟨rfl, rfl, rfl, rfl, trivial⟩), hL19, (zan (zan (zan K11 K12) K13) K18), f16, hl11, hc11, trivial⟩
  replace h := ite_f hc12 h
  refine zda rfl ?_
  obtain rfl := zae h
  obtain rfl := hd10 _ rfl
  replace h := g10
  try dsimp only at h
  refine zaq ?_
  exact ⟨out11, cs11, _, rfl, (zeu zrt), hL11, K11, hE11, hl11, hc11, trivial⟩
 rintro _ w22 ⟨out10, cs10, u, rfl, rfl, hL20, K19, hE20, hl13, hc15, -⟩
 replace h := g10
 try dsimp only at h
 refine zal (zah rfl (zag (zai (v := (osv (some b8) 0 x2.length m1)) rfl ?_)))
 refine zag (zam (v := (osv (some b8) 0 x2.length m1)) rfl ?_)
 refine zap (zbl ?_)
 obtain rfl := zae h
 refine ⟨[(osv (some b8) 0 x2.length m1)], zrt, ⟨_, rfl, hL20.done, ?_⟩⟩
 exact ⟨some b8, m1, cs10, [], (by rw [← hl13]; rfl), (hL20.newOwn [0] rfl rfl rfl), (hE20.mono (zdx [0] rfl)), hc15, trivial⟩
theorem vhigh_w (N : Nat) (l : (List RVar)) (ranges : (List Arr2Int)) (pc : Int) (l_v : Value) (ranges_v : Value) (w : World) (S : Nat → Prop) (l_h : Rs rRVar (vH w S [] w) l_v l) (ranges_h : Rs rArr2Int (vH w S [] w) ranges_v ranges) (r : Int) (h : vhigh N l ranges pc = some r) :
  Calls Tryz.prog 40 #[l_v, ranges_v, (zI pc)] w (Ret w (fun v w' => (zI r) = v ∧ True)) := by
 unfold vhigh at h
 have hL : vL w w [] [] := Go.X.Loc.begin0 w
 refine calls_of (l := [l_v, ranges_v, (zI pc)]) (rl := [.tmp 6]) (n := 18) Tryz.func40 rfl rfl rfl (zaf rfl) ?_
 refine zal (zah rfl (zag (zam (v := (zI 0)) rfl ?_)))
 refine zap (zal ?_)
 obtain ⟨x1, n3, q4, q5, -, h⟩ := zix h
 obtain ⟨b6, o7, c8, vs9, q10, q11, f10, q12⟩ := zcw ranges_h q5
 obtain ⟨rfl, -⟩ := rArr2Int_open q12
 have f11 := (f10.part (us := [(zI x1.e1)]) 1 rfl)
 obtain ⟨x10, n10, q14, q15, -, h⟩ := zix h
 obtain ⟨b10, o10, c10, vs10, q16, q17, f12, q18⟩ := zcw l_h q15
 obtain ⟨rfl, -⟩ := rRVar_open q18
 have f13 := (f12.part (us := [(zI x10.Max)]) 3 rfl)
 refine zcm 10 [] [] (fun W1 => [.det ranges_v, .det (zI pc), .det (zaj (some ⟨b6, (o7 + n3 * rArr2Int.sz), none⟩)), .det (zaj (some ⟨b6, (o7 + n3 * rArr2Int.sz) + 1, none⟩)), .det (zI x1.e1), .det l_v, .det (zI pc), .det (zaj (some ⟨b10, (o10 + n10 * rRVar.sz), none⟩)), .det (zaj (some ⟨b10, (o10 + n10 * rRVar.sz) + 3, none⟩)), .det (zI x10.Max)]) mixed rfl rfl rfl (fun _ => rfl) (fun _ => rfl) ?_ ?_
 ·
  intro W1 _
  exact trivial
 intro w10 hE10
 obtain ⟨hL10, K10⟩ := zl hL hE10
 refine zao (fun _ _ => zau (zai rfl (er rfl))) ?_
 refine zao (fun _ _ => zau (zai rfl (er rfl))) ?_
 refine zao (fun _ _ => zau (zbj (r := rArr2Int) (v := ranges_v) (n := n3) (m := (o7 + n3 * rArr2Int.sz)) zaz ti54 rfl q10 rfl q4 q5 rfl (er rfl))) ?_
 refine zao (fun _ _ => zau (zcg (i := 1) (q := (o7 + n3 * rArr2Int.sz) + 1) zbv ti3 rfl rfl (by decide) rfl (er rfl))) ?_
 refine zao (fun _ hE15 => zau (zby zat rfl rfl zex (zcd ((ke hL10 hE15) S) (zcd (K10 S) f11)) (er rfl))) ?_
 refine zao (fun _ _ => zau (zai rfl (er rfl))) ?_
 refine zao (fun _ _ => zau (zai rfl (er rfl))) ?_
 refine zao (fun _ _ => zau (zbj (r := rRVar) (v := l_v) (n := n10) (m := (o10 + n10 * rRVar.sz)) zbt ti83 rfl q16 rfl q14 q15 rfl (er rfl))) ?_
 refine zao (fun _ _ => zau (zak zcc rfl ti3 rfl rfl rfl (er rfl))) ?_
 refine zao (fun _ hE20 => zau (zby zat rfl rfl zex (zcd ((ke hL10 hE20) S) (zcd (K10 S) f13)) (er rfl))) ?_
 refine zcy ?_
 rintro w21 Z29 hE21 hZ20 ⟨-⟩ ap10
 have hB10 := @zhb w10 Z29
 have hL11 := hL10.ext hE21
 refine zag (OpY.min (x := x1.e1) (y := x10.Max) rfl rfl ?_)
 refine zag (zam (v := (zI (imin x1.e1 x10.Max))) rfl ?_)
 refine zap (zbl ?_)
 obtain rfl := zae h
 refine ⟨[(zI (imin x1.e1 x10.Max))], zrt, ⟨_, rfl, hL11.done, ?_⟩⟩
 exact zrt
theorem vbounds_w (N : Nat) (pa : Int) (low : Int) (high : Int)  (w : World) (S : Nat → Prop)  (r : (List Constraint)) (h : vbounds N pa low high = some r) :
  Calls Tryz.prog 39 #[(zI pa), (zI low), (zI high)] w (Ret w (fun v w' => ∃ (ob0 : Option Nat) (cap0 : Nat) (cs0 : List Value) (sp0 : List Value), (zO ob0 r cap0) = v ∧ NewOwn w w' [ob0] [zac ([] ++ (cs0 ++ sp0))] ∧ Els rConstraint (vH w None [ob0] w') cs0 r ∧ (cs0 ++ sp0).length = cap0 * rConstraint.sz ∧ True)) := by
 unfold vbounds at h
 have hL : vL w w [] [] := Go.X.Loc.begin0 w
 refine calls_of (l := [(zI pa), (zI low), (zI high)]) (rl := [.tmp 6]) (n := 21) Tryz.func39 rfl rfl rfl (zaf rfl) ?_
 refine zal (zah rfl (zag (zam (v := zN) rfl ?_)))
 refine zap (zal (zah rfl (zag (zai (v := (zI low)) rfl ?_))))
 refine zag (zai (v := (zI pa)) rfl ?_)
 refine zag (zcz (zc := [(zI 0), (zI 0)]) (cs := [(zI pa), (zI (-1))]) (is := [0, 1]) (vs := [(zI pa), (zI (-1))]) (css := [[(zI pa)], [(zI (-1))]]) pl87 ti87 rfl rfl rfl ⟨rfl, rfl, trivial⟩ rfl ?_)
 have hE2 : Els rCoef (vH w None [] w) [(zI pa), (zI (-1))] [(Coef.mk pa (-1))] := (zdg (a := [(zI pa), (zI (-1))]) (rCoef_close ⟨rfl, trivial⟩) zcx)
 refine zag (zcv (r := rCoef) (vs := [(zar #[(zI pa), (zI (-1))])]) (css := [[(zI pa), (zI (-1))]]) (xs := [(Coef.mk pa (-1))]) zbp ti87 (zaf rfl) rfl rfl ⟨rfl, rfl, trivial⟩ (zaf rfl) hE2 rfl hL ?_)
 intro b1 w5 hc3 hL6 hS8
 have K7 := ks w hS8
 refine zag (zcz (zc := [(zI 0), zN]) (cs := [(zI low), (osv (some b1) 0 1 1)]) (is := [0, 1]) (vs := [(zI low), (osv (some b1) 0 1 1)]) (css := [[(zI low)], [(osv (some b1) 0 1 1)]]) pl90 ti90 rfl rfl rfl ⟨rfl, ⟨(zfa (zez _ _ _ _)), trivial⟩⟩ rfl ?_)
 refine zag (zcz (zc := [(zI 0), zN, zF]) (cs := [(zI low), (osv (some b1) 0 1 1), zF]) (is := [0]) (vs := [(zar #[(zI low), (osv (some b1) 0 1 1)])]) (css := [[(zI low), (osv (some b1) 0 1 1)]]) pl92 ti92 rfl rfl rfl zrt rfl ?_)
 refine zag (zai (v := (zI high)) rfl ?_)
 refine zag (OpY.neg (x := high) (z := (iw (0 - high))) rfl rfl ?_)
 refine zag (zai (v := (zI pa)) rfl ?_)
 refine zag (zcz (zc := [(zI 0), (zI 0)]) (cs := [(zI pa), (zI 1)]) (is := [0, 1]) (vs := [(zI pa), (zI 1)]) (css := [[(zI pa)], [(zI 1)]]) pl87 ti87 rfl rfl rfl ⟨rfl, rfl, trivial⟩ rfl ?_)
 have hE10 : Els rCoef (vH w None [some b1] w5) [(zI pa), (zI 1)] [(Coef.mk pa 1)] := (zdg (a := [(zI pa), (zI 1)]) (rCoef_close ⟨rfl, trivial⟩) zcx)
 refine zag (zcv (r := rCoef) (vs := [(zar #[(zI pa), (zI 1)])]) (css := [[(zI pa), (zI 1)]]) (xs := [(Coef.mk pa 1)]) zbp ti87 (zaf rfl) rfl rfl ⟨rfl, rfl, trivial⟩ (zaf rfl) hE10 rfl hL6 ?_)
 intro b9 w10 hc10 hL10 hS10
 have K10 := ks w hS10
 refine zag (zcz (zc := [(zI 0), zN]) (cs := [(zI (iw (0 - high))), (osv (some b9) 0 1 1)]) (is := [0, 1]) (vs := [(zI (iw (0 - high))), (osv (some b9) 0 1 1)]) (css := [[(zI (iw (0 - high)))], [(osv (some b9) 0 1 1)]]) pl90 ti90 rfl rfl rfl ⟨rfl, ⟨(zfa (zez _ _ _ _)), trivial⟩⟩ rfl ?_)
 refine zag (zcz (zc := [(zI 0), zN, zF]) (cs := [(zI (iw (0 - high))), (osv (some b9) 0 1 1), zF]) (is := [0]) (vs := [(zar #[(zI (iw (0 - high))), (osv (some b9) 0 1 1)])]) (css := [[(zI (iw (0 - high))), (osv (some b9) 0 1 1)]]) pl92 ti92 rfl rfl rfl zrt rfl ?_)
 have f10 := ((hE2.mono (K7 None)).mono (K10 None))
 have f11 := hL10.freezeRow 1 rfl rfl f10 rfl rfl rfl hc3
 have hp10 := hL10.pick [0] rfl rfl rfl
 have hL11 : vL w w10 [some b9] [zac ([] ++ ([(zI pa), (zI 1)] ++ []))] := hp10.1
 have K11 := ks w hp10.2
 have f12 := ((hE10.mono (K10 None)).mono (K11 None))
 have f13 := hL11.freezeRow 0 rfl rfl f12 rfl rfl rfl hc10
 have hp11 := hL11.pick [] rfl rfl rfl
 have hL12 : vL w w10 [] [] := hp11.1
 have K12 := ks w hp11.2
 have f14 := (f11.mono (K12 None))
 have hE11 : Els rConstraint (vH w None [] w10) [(zI low), (osv (some b1) 0 1 1), zF, (zI (iw (0 - high))), (osv (some b9) 0 1 1), zF] [(Constraint.mk (Linear.mk low [(Coef.mk pa (-1))]) false), (Constraint.mk (Linear.mk (iw (0 - high)) [(Coef.mk pa 1)]) false)] := (zdg (a := [(zI low), (osv (some b1) 0 1 1), zF]) (rConstraint_close ⟨(osv (some b1) 0 1 1), rfl, f14, trivial⟩) (zdg (a := [(zI (iw (0 - high))), (osv (some b9) 0 1 1), zF]) (rConstraint_close ⟨(osv (some b9) 0 1 1), rfl, f13, trivial⟩) zcx))
 refine zag (zcv (r := rConstraint) (vs := [(zar #[(zI low), (osv (some b1) 0 1 1), zF]), (zar #[(zI (iw (0 - high))), (osv (some b9) 0 1 1), zF])]) (css := [[(zI low), (osv (some b1) 0 1 1), zF], [(zI (iw (0 - high))), (osv (some b9) 0 1 1), zF]]) (xs := [(Constraint.mk (Linear.mk low [(Coef.mk pa (-1))]) false), (Constraint.mk (Linear.mk (iw (0 - high)) [(Coef.mk pa 1)]) false)]) zco ti92 (zaf rfl) rfl rfl ⟨rfl, rfl, ⟨rfl, rfl, trivial⟩⟩ (zaf rfl) hE11 rfl hL12 ?_)
 intro b10 w11 hc11 hL13 hS11
 have K13 := ks w hS11
 refine zag (zam (v := (osv (some b10) 0 2 2)) rfl ?_)
 refine zap (zbl ?_)
 obtain rfl := zae h
 refine ⟨[(osv (some b10) 0 2 2)], zrt, ⟨_, rfl, hL13.done, ?_⟩⟩
 have f15 := (hE11.mono (K13 None))
 exact ⟨some b10, 2, [(zI low), (osv (some b1) 0 1 1), zF, (zI (iw (0 - high))), (osv (some b9) 0 1 1), zF], [], rfl, (hL13.newOwn [0] rfl rfl rfl), (f15.mono (zdx [0] rfl)), hc11, trivial⟩
theorem vquotient_w (N : Nat) (q : Int) (pb : Linear) (pc : Int) (pb_v : Value) (w : World) (S : Nat → Prop) (pb_h : Rs rCoef (vH w S [] w) pb_v pb.Coefs) (r : (List Constraint)) (h : vquotient N q pb pc = some r) :
  Calls Tryz.prog 41 #[(zI q), (zar #[(zI pb.Const), pb_v]), (zI pc)] w (Ret w (fun v w' => ∃ (ob0 : Option Nat) (cap0 : Nat) (cs0 : List Value) (sp0 : List Value), (zO ob0 r cap0) = v ∧ NewOwn w w' [ob0] [zac ([] ++ (cs0 ++ sp0))] ∧ Els rConstraint (vH w None [ob0] w') cs0 r ∧ (cs0 ++ sp0).length = cap0 * rConstraint.sz ∧ True)) := by
 unfold vquotient at h
 have hL : vL w w [] [] := Go.X.Loc.begin0 w
 refine calls_of (l := [(zI q), (zar #[(zI pb.Const), pb_v]), (zI pc)]) (rl := [.tmp 6]) (n := 68) Tryz.func41 rfl rfl rfl (zaf rfl) ?_
 refine zal (zah rfl (zag (zdu (cs := [(zI pb.Const), pb_v]) rfl rfl hL ?_)))
 intro b1 w2 hL3 hS5
 have K4 := ks w hS5
 refine zag (zam (v := zN) rfl ?_)
 refine zap (zal (zah rfl (zag (zak (q := 0) zca rfl ti2 rfl rfl rfl ?_))))
 refine zag (zas (v := (zI pb.Const)) zcf rfl rfl (hL3.at 0 rfl rfl) rfl ?_)
 refine zag (OpY.neg (x := pb.Const) (z := (iw (0 - pb.Const))) rfl rfl ?_)
 refine zag (zcz (zc := [(zI 0), zN]) (cs := [(zI (iw (0 - pb.Const))), zN]) (is := [0]) (vs := [(zI (iw (0 - pb.Const)))]) (css := [[(zI (iw (0 - pb.Const)))]]) pl90 ti90 rfl rfl rfl zrt rfl ?_)
 refine zag (zcj (cs := [(zI 0), zN]) ti90 rfl hL3 ?_)
 intro b6 w7 hL8 hS10
 have K9 := ks w hS10
 refine zcq (zbq (vs := [(zI (iw (0 - pb.Const))), zN]) ti90 rfl rfl rfl rfl (zet rfl (zet rfl zew)) hL8 0 rfl rfl (zaf rfl) ?_)
 intro w10 (hL10 : vL w w10 [some b6, some b1] [zac [(zI (iw (0 - pb.Const))), zN], zac [(zI pb.Const), pb_v]]) hS11
 have K10 := ks w hS11
 refine zap (zal (zah rfl (zag (zak (q := 0) zca rfl ti2 rfl rfl rfl ?_))))
 refine zag (zas (v := (zI pb.Const)) zcf rfl rfl (hL10.at 1 rfl rfl) rfl ?_)
 refine zag (zai (v := (zI pc)) rfl ?_)
 refine zag (OpY.sub (x := pc) (y := 1) (z := (iw (pc - 1))) rfl rfl rfl ?_)
 refine zag (OpY.sub (x := pb.Const) (y := (iw (pc - 1))) (z := (iw (pb.Const - (iw (pc - 1))))) rfl rfl rfl ?_)
 refine zag (zcz (zc := [(zI 0), zN]) (cs := [(zI (iw (pb.Const - (iw (pc - 1))))), zN]) (is := [0]) (vs := [(zI (iw (pb.Const - (iw (pc - 1)))))]) (css := [[(zI (iw (pb.Const - (iw (pc - 1)))))]]) pl90 ti90 rfl rfl rfl zrt rfl ?_)
 refine zag (zcj (cs := [(zI 0), zN]) ti90 rfl hL10 ?_)
 intro b10 w11 hL11 hS12
 have K11 := ks w hS12
 refine zcq (zbq (vs := [(zI (iw (pb.Const - (iw (pc - 1))))), zN]) ti90 rfl rfl rfl rfl (zet rfl (zet rfl zew)) hL11 0 rfl rfl (zaf rfl) ?_)
 intro w12 (hL12 : vL w w12 [some b10, some b6, some b1] [zac [(zI (iw (pb.Const - (iw (pc - 1))))), zN], zac [(zI (iw (0 - pb.Const))), zN], zac [(zI pb.Const), pb_v]]) hS13
 have K12 := ks w hS13
 refine zap (zal (zal (zah rfl (zag (zak (q := 1) zca rfl ti88 rfl rfl rfl ?_)))))
 refine zag (zas (v := pb_v) zbp rfl rfl (hL12.at 2 rfl rfl) rfl ?_)
 have f10 := (((((pb_h.mono (K4 S)).mono (K9 S)).mono (K10 S)).mono (K11 S)).mono (K12 S))
 refine zag (zbg (v := pb_v) zbp rfl f10 ?_)
 refine zag (zai (v := (zI 0)) rfl (zap ?_))
 obtain ⟨s10, hl10, g10⟩ := zes h
 refine zce (fun e w' => ∃ (coefs10 : (List Coef)) (coefs11 : (List Coef)) (ob10 : Option Nat) (cap10 : Nat) (sp10 : List Value) (cs10 : List Value) (ln10 : Nat) (ob11 : Option Nat) (cap11 : Nat) (sp11 : List Value) (cs11 : List Value) (ln11 : Nat) (u : Env), (coefs10, coefs11) = s10 ∧ e = upds [(0, (zI q)), (2, (zI pc)), (7, (zaj (some ⟨b6, 0, none⟩))), (8, (zaj (some ⟨b10, 0, none⟩)))] u ∧ vL w w' [some b6, ob10, some b10, ob11] [zac [(zI (iw (0 - pb.Const))), (osv ob10 0 ln10 cap10)], zac ([] ++ (cs10 ++ sp10)), zac [(zI (iw (pb.Const - (iw (pc - 1))))), (osv ob11 0 ln11 cap11)], zac ([] ++ (cs11 ++ sp11))] ∧ Keep w.heap.size [some b10, some b6, some b1] w12 [some b6, ob10, some b10, ob11] w' ∧ Els rCoef (vH w None [some b6, ob10, some b10, ob11] w') cs10 coefs10 ∧ ln10 = List.length coefs10 ∧ (cs10 ++ sp10).length = cap10 * rCoef.sz ∧ Els rCoef (vH w None [some b6, ob10, some b10, ob11] w') cs11 coefs11 ∧ ln11 = List.length coefs11 ∧ (cs11 ++ sp11).length = cap11 * rCoef.sz ∧ True) ?_ ?_
 ·
  refine zbh ?_
  have hp10 := hL12.addNil
  have hL13 : vL w w12 [none, some b10, some b6, some b1] [zac ([] ++ ([] ++ [])), zac [(zI (iw (pb.Const - (iw (pc - 1))))), zN], zac [(zI (iw (0 - pb.Const))), zN], zac [(zI pb.Const), pb_v]] := hp10.1
  have K13 := ks w hp10.2
  have hp11 := hL13.addNil
  have hL14 : vL w w12 [none, none, some b10, some b6, some b1] [zac ([] ++ ([] ++ [])), zac ([] ++ ([] ++ [])), zac [(zI (iw (pb.Const - (iw (pc - 1))))), zN], zac [(zI (iw (0 - pb.Const))), (osv none 0 (List.length ([] : (List Coef))) 0)], zac [(zI pb.Const), pb_v]] := hp11.1
  have K14 := ks w hp11.2
  have hp12 := hL14.pick [3, 1, 2, 0] rfl rfl rfl
  have hL15 : vL w w12 [some b6, none, some b10, none] [zac [(zI (iw (0 - pb.Const))), (osv none 0 (List.length ([] : (List Coef))) 0)], zac ([] ++ ([] ++ [])), zac [(zI (iw (pb.Const - (iw (pc - 1))))), (osv none 0 (List.length ([] : (List Coef))) 0)], zac ([] ++ ([] ++ []))] := hp12.1
  have K15 := ks w hp12.2
  have f11 := (((zcx (r := rCoef)).mono (K14 None)).mono (K15 None))
  have f12 := ((zcx (r := rCoef)).mono (K15 None))
  refine zcr hl10 (fun (ss : ((List Coef) × (List Coef) × Int)) (e : Env) (w' : World) => match ss with | (coefs12, coefs13, x10) => ∃ (ob12 : Option Nat) (cap12 : Nat) (sp12 : List Value) (cs12 : List Value) (ln12 : Nat) (ob13 : Option Nat) (cap13 : Nat) (sp13 : List Value) (cs13 : List Value) (ln13 : Nat) (u : Env), e = upds [(0, (zI q)), (2, (zI pc)), (7, (zaj (some ⟨b6, 0, none⟩))), (8, (zaj (some ⟨b10, 0, none⟩))), (22, pb_v), (23, (zI (pb.Coefs.length : Int))), (24, (zI x10))] u ∧ vL w w' [some b6, ob12, some b10, ob13] [zac [(zI (iw (0 - pb.Const))), (osv ob12 0 ln12 cap12)], zac ([] ++ (cs12 ++ sp12)), zac [(zI (iw (pb.Const - (iw (pc - 1))))), (osv ob13 0 ln13 cap13)], zac ([] ++ (cs13 ++ sp13))] ∧ Keep w.heap.size [some b10, some b6, some b1] w12 [some b6, ob12, some b10, ob13] w' ∧ Els rCoef (vH w None [some b6, ob12, some b10, ob13] w') cs12 coefs12 ∧ ln12 = List.length coefs12 ∧ (cs12 ++ sp12).length = cap12 * rCoef.sz ∧ Els rCoef (vH w None [some b6, ob12, some b10, ob13] w') cs13 coefs13 ∧ ln13 = List.length coefs13 ∧ (cs13 ++ sp13).length = cap13 * rCoef.sz ∧ True) ⟨none, 0, [], [], (List.length ([] : (List Coef))), none, 0, [], [], (List.length ([] : (List Coef))), _, (zeu ⟨rfl, rfl, rfl, rfl, rfl, rfl, rfl, trivial⟩), hL15, (zan (zan K13 K14) K15), f11, rfl, (show ([] ++ [] : List Value).length = 0 * rCoef.sz by simp), f12, rfl, (show ([] ++ [] : List Value).length = 0 * rCoef.sz by simp), trivial⟩ ?_
  rintro ⟨coefs12, coefs13, x10⟩ oo _ w13 ⟨ob12, cap12, sp12, cs12, ln12, ob13, cap13, sp13, cs13, ln13, u, rfl, hL16, K16, hE10, rfl, hc10, hE11, rfl, hc11, -⟩ h hd10
  rw [vquotient_b1] at h
  refine zal (zah rfl (zag (zcp (x := x10) (y := (pb.Coefs.length : Int)) ((x10 : Int) < (pb.Coefs.length : Int)) rfl rfl zbd ?_)))
  refine zap (zal ?_)
  refine zbf ((x10 : Int) < (pb.Coefs.length : Int)) rfl (fun hc12 => ?_) (fun hc12 => ?_)
  ·
   replace h := ite_t hc12 h
   refine zbk (zal (zbh (zal (zah rfl ?_))))
   obtain ⟨x11, n10, q11, q12, -, h⟩ := zix h
   have f13 := (f10.mono (K16 S))
   obtain ⟨b11, o10, c10, vs10, q13, q14, f14, q15⟩ := zcw f13 q12
   obtain ⟨rfl, -⟩ := rCoef_open q15
   refine zag (zbj (r := rCoef) (v := pb_v) (n := n10) (m := (o10 + n10 * rCoef.sz)) zbp ti87 rfl q13 rfl q11 q12 rfl ?_)
   refine zag (zds (vs := [(zI x11.Var), (zI x11.N)]) zcb rfl ti87 rfl rfl zex f14 ?_)
   refine zag (zcj (cs := [(zI 0), (zI 0)]) ti87 rfl hL16 ?_)
   intro b12 w14 hL17 hS14
   have K17 := ks w hS14
   refine zcq (zbq (vs := [(zI x11.Var), (zI x11.N)]) ti87 rfl rfl rfl rfl (zet rfl (zet rfl zew)) hL17 0 rfl rfl (zaf rfl) ?_)
   intro w15 (hL18 : vL w w15 [some b12, some b6, ob12, some b10, ob13] [zac [(zI x11.Var), (zI x11.N)], zac [(zI (iw (0 - pb.Const))), (zO ob12 coefs12 cap12)], zac ([] ++ (cs12 ++ sp12)), zac [(zI (iw (pb.Const - (iw (pc - 1))))), (zO ob13 coefs13 cap13)], zac ([] ++ (cs13 ++ sp13))]) hS15
   have K18 := ks w hS15
   refine zap (zal (zah rfl (zag (zak (q := 1) zca rfl ti88 rfl rfl rfl ?_))))
   refine zag (zas (v := (zO ob12 coefs12 cap12)) zbp rfl rfl (hL18.at 1 rfl rfl) rfl ?_)
   refine zag (zak (q := 0) zcb rfl ti3 rfl rfl rfl ?_)
   refine zag (zas (v := (zI x11.Var)) zat rfl rfl (hL18.at 0 rfl rfl) rfl ?_)
   refine zag (zak (q := 1) zcb rfl ti2 rfl rfl rfl ?_)
   refine zag (zas (v := (zI x11.N)) zcf rfl rfl (hL18.at 0 rfl rfl) rfl ?_)
   refine zag (OpY.neg (x := x11.N) (z := (iw (0 - x11.N))) rfl rfl ?_)
   refine zag (zcz (zc := [(zI 0), (zI 0)]) (cs := [(zI x11.Var), (zI (iw (0 - x11.N)))]) (is := [0, 1]) (vs := [(zI x11.Var), (zI (iw (0 - x11.N)))]) (css := [[(zI x11.Var)], [(zI (iw (0 - x11.N)))]]) pl87 ti87 rfl rfl rfl ⟨rfl, rfl, trivial⟩ rfl ?_)
   have hE12 : Els rCoef (vH w None [some b12, some b6, ob12, some b10, ob13] w15) [(zI x11.Var), (zI (iw (0 - x11.N)))] [(Coef.mk x11.Var (iw (0 - x11.N)))] := (zdg (a := [(zI x11.Var), (zI (iw (0 - x11.N)))]) (rCoef_close ⟨rfl, trivial⟩) zcx)
   refine zag (zcv (r := rCoef) (vs := [(zar #[(zI x11.Var), (zI (iw (0 - x11.N)))])]) (css := [[(zI x11.Var), (zI (iw (0 - x11.N)))]]) (xs := [(Coef.mk x11.Var (iw (0 - x11.N)))]) zbp ti87 (zaf rfl) rfl rfl ⟨rfl, rfl, trivial⟩ (zaf rfl) hE12 rfl hL18 ?_)
   intro b13 w16 hc13 hL19 hS16
   have K19 := ks w hS16
   obtain ⟨x12, q16, h⟩ := zes h
   obtain ⟨q17, q18, q19⟩ := zfb q16
   have f15 := (hE12.mono (K19 None))
   have f16 := (((hE10.mono (K17 None)).mono (K18 None)).mono (K19 None))
   refine zag (zdo (r := rCoef) (H := (vH w None [some b13, some b12, some b6, ob12, some b10, ob13] w16)) (cs := cs12) (sp := sp12) (xs := coefs12) (ys := [(Coef.mk x11.Var (iw (0 - x11.N)))]) (Y := x12) (n := coefs12.length) (cap := cap12) (i := 3) zbp ti87 rfl rfl rfl rfl hL19 rfl rfl f16 rfl hc10 (zeg (pre := []) (o := 0) (n := 1) (cap := 1) (hL19.at 0 rfl rfl) f15 rfl rfl rfl) (zef (fun _ _ _ _ h => h) f15) q17 q18 q19 ?_)
   intro ob14 cap14 sp14 cs14 w17 hE13 hc14 (hL20 : vL w w17 [some b13, some b12, some b6, ob14, some b10, ob13] [zac ([] ++ ([(zI x11.Var), (zI (iw (0 - x11.N)))] ++ [])), zac [(zI x11.Var), (zI x11.N)], zac [(zI (iw (0 - pb.Const))), (zO ob12 coefs12 cap12)], zac ([] ++ (cs14 ++ sp14)), zac [(zI (iw (pb.Const - (iw (pc - 1))))), (zO ob13 coefs13 cap13)], zac ([] ++ (cs13 ++ sp13))]) hS17
   have K20 := ks w hS17
   refine zag (zak (q := 1) zca rfl ti88 rfl rfl rfl ?_)
   refine zcq (zbq (vs := [(zO ob14 x12 cap14)]) ti88 rfl rfl (zfa (zez ob14 0 x12.length cap14)) rfl (zet (zez ob14 0 x12.length cap14) zew) hL20 2 rfl rfl (zaf rfl) ?_)
   intro w18 (hL21 : vL w w18 [some b13, some b12, some b6, ob14, some b10, ob13] [zac ([] ++ ([(zI x11.Var), (zI (iw (0 - x11.N)))] ++ [])), zac [(zI x11.Var), (zI x11.N)], zac [(zI (iw (0 - pb.Const))), (zO ob14 x12 cap14)], zac ([] ++ (cs14 ++ sp14)), zac [(zI (iw (pb.Const - (iw (pc - 1))))), (zO ob13 coefs13 cap13)], zac ([] ++ (cs13 ++ sp13))]) hS18
   have K21 := ks w hS18
   refine zap (zah rfl (zag (zak (q := 1) zca rfl ti88 rfl rfl rfl ?_)))
   refine zag (zas (v := (zO ob13 coefs13 cap13)) zbp rfl rfl (hL21.at 4 rfl rfl) rfl ?_)
   refine zag (zbr (vs := [(zI x11.Var), (zI x11.N)]) zcb rfl ti87 rfl (hL21.at 1 rfl rfl) rfl rfl ?_)
   have hE14 : Els rCoef (vH w None [some b13, some b12, some b6, ob14, some b10, ob13] w18) [(zI x11.Var), (zI x11.N)] [x11] := (zdg (a := [(zI x11.Var), (zI x11.N)]) (rCoef_close ⟨rfl, trivial⟩) zcx)
   refine zag (zcv (r := rCoef) (vs := [(zar #[(zI x11.Var), (zI x11.N)])]) (css := [[(zI x11.Var), (zI x11.N)]]) (xs := [x11]) zbp ti87 (zaf rfl) rfl rfl ⟨rfl, rfl, trivial⟩ (zaf rfl) hE14 rfl hL21 ?_)
   intro b14 w19 hc15 hL22 hS19
   have K22 := ks w hS19
   obtain ⟨x13, q20, h⟩ := zes h
   obtain ⟨q21, q22, q23⟩ := zfb q20
   have f17 := (hE14.mono (K22 None))
   have f18 := ((((((hE11.mono (K17 None)).mono (K18 None)).mono (K19 None)).mono (K20 None)).mono (K21 None)).mono (K22 None))
   refine zag (zdo (r := rCoef) (H := (vH w None [some b14, some b13, some b12, some b6, ob14, some b10, ob13] w19)) (cs := cs13) (sp := sp13) (xs := coefs13) (ys := [x11]) (Y := x13) (n := coefs13.length) (cap := cap13) (i := 6) zbp ti87 rfl rfl rfl rfl hL22 rfl rfl f18 rfl hc11 (zeg (pre := []) (o := 0) (n := 1) (cap := 1) (hL22.at 0 rfl rfl) f17 rfl rfl rfl) (zef (fun _ _ _ _ h => h) f17) q21 q22 q23 ?_)
   intro ob15 cap15 sp15 cs15 w20 hE15 hc16 (hL23 : vL w w20 [some b14, some b13, some b12, some b6, ob14, some b10, ob15] [zac ([] ++ ([(zI x11.Var), (zI x11.N)] ++ [])), zac ([] ++ ([(zI x11.Var), (zI (iw (0 - x11.N)))] ++ [])), zac [(zI x11.Var), (zI x11.N)], zac [(zI (iw (0 - pb.Const))), (zO ob14 x12 cap14)], zac ([] ++ (cs14 ++ sp14)), zac [(zI (iw (pb.Const - (iw (pc - 1))))), (zO ob13 coefs13 cap13)], zac ([] ++ (cs15 ++ sp15))]) hS20
   have K23 := ks w hS20
   refine zag (zak (q := 1) zca rfl ti88 rfl rfl rfl ?_)
   refine zcq (zbq (vs := [(zO ob15 x13 cap15)]) ti88 rfl rfl (zfa (zez ob15 0 x13.length cap15)) rfl (zet (zez ob15 0 x13.length cap15) zew) hL23 5 rfl rfl (zaf rfl) ?_)
   intro w21 (hL24 : vL w w21 [some b14, some b13, some b12, some b6, ob14, some b10, ob15] [zac ([] ++ ([(zI x11.Var), (zI x11.N)] ++ [])), zac ([] ++ ([(zI x11.Var), (zI (iw (0 - x11.N)))] ++ [])), zac [(zI x11.Var), (zI x11.N)], zac [(zI (iw (0 - pb.Const))), (zO ob14 x12 cap14)], zac ([] ++ (cs14 ++ sp14)), zac [(zI (iw (pb.Const - (iw (pc - 1))))), (zO ob15 x13 cap15)], zac ([] ++ (cs15 ++ sp15))]) hS21
   have K24 := ks w hS21
   refine zap (zbu (zah rfl (zag (zcl (x := x10) (y := 1) (z := (iw (x10 + 1))) rfl rfl rfl ?_))))
   refine zag (zai (v := (zI (iw (x10 + 1)))) rfl (zap ?_))
   have hp13 := hL24.pick [3, 4, 5, 6] rfl rfl rfl
   have hL25 : vL w w21 [some b6, ob14, some b10, ob15] [zac [(zI (iw (0 - pb.Const))), (zO ob14 x12 cap14)], zac ([] ++ (cs14 ++ sp14)), zac [(zI (iw (pb.Const - (iw (pc - 1))))), (zO ob15 x13 cap15)], zac ([] ++ (cs15 ++ sp15))] := hp13.1
   have K25 := ks w hp13.2
   have f19 := ((((((hE13.mono (K20 None)).mono (K21 None)).mono (K22 None)).mono (K23 None)).mono (K24 None)).mono (K25 None))
   have f20 := (((hE15.mono (K23 None)).mono (K24 None)).mono (K25 None))
   obtain rfl := zae h
   refine zaq ⟨(x12, x13, (iw (x10 + 1))), rfl, ?_⟩
   exact ⟨ob14, cap14, sp14, cs14, x12.length, ob15, cap15, sp15, cs15, x13.length, _, (zeu ⟨rfl, rfl, rfl, rfl, rfl, rfl, rfl, trivial⟩), hL25, (zan (zan (zan (zan (zan (zan (zan (zan (zan K16 K17) K18) K19) K20) K21) K22) K23) K24) K25), f19, rfl, hc14, f20, rfl, hc16, trivial⟩
  replace h := ite_f hc12 h
  refine zda rfl ?_
  obtain rfl := zae h
  obtain rfl := hd10 _ rfl
  replace h := g10
  try dsimp only at h
  refine zaq ?_
  exact ⟨coefs12, coefs13, ob12, cap12, sp12, cs12, coefs12.length, ob13, cap13, sp13, cs13, coefs13.length, _, rfl, (zeu ⟨rfl, rfl, rfl, rfl, trivial⟩), hL16, K16, hE10, rfl, hc10, hE11, rfl, hc11, trivial⟩
 rintro _ w22 ⟨coefs10, coefs11, ob10, cap10, sp10, cs10, ln10, ob11, cap11, sp11, cs11, ln11, u, rfl, rfl, hL26, K26, hE16, rfl, hc17, hE17, rfl, hc18, -⟩
 replace h := g10
 try dsimp only at h
 refine zal (zah rfl (zag (zak (q := 1) zca rfl ti88 rfl rfl rfl ?_)))
 refine zag (zas (v := (zO ob10 coefs10 cap10)) zbp rfl rfl (hL26.at 0 rfl rfl) rfl ?_)
 refine zag (zai (v := (zI q)) rfl ?_)
 refine zag (zai (v := (zI pc)) rfl ?_)
 refine zag (zcz (zc := [(zI 0), (zI 0)]) (cs := [(zI q), (zI pc)]) (is := [0, 1]) (vs := [(zI q), (zI pc)]) (css := [[(zI q)], [(zI pc)]]) pl87 ti87 rfl rfl rfl ⟨rfl, rfl, trivial⟩ rfl ?_)
 have hE18 : Els rCoef (vH w None [some b6, ob10, some b10, ob11] w22) [(zI q), (zI pc)] [(Coef.mk q pc)] := (zdg (a := [(zI q), (zI pc)]) (rCoef_close ⟨rfl, trivial⟩) zcx)
 refine zag (zcv (r := rCoef) (vs := [(zar #[(zI q), (zI pc)])]) (css := [[(zI q), (zI pc)]]) (xs := [(Coef.mk q pc)]) zbp ti87 (zaf rfl) rfl rfl ⟨rfl, rfl, trivial⟩ (zaf rfl) hE18 rfl hL26 ?_)
 intro b15 w23 hc19 hL27 hS22
 have K27 := ks w hS22
 obtain ⟨x14, q24, h⟩ := zes h
 obtain ⟨q25, q26, q27⟩ := zfb q24
 have f21 := (hE18.mono (K27 None))
 have f22 := (hE16.mono (K27 None))
 refine zag (zdo (r := rCoef) (H := (vH w None [some b15, some b6, ob10, some b10, ob11] w23)) (cs := cs10) (sp := sp10) (xs := coefs10) (ys := [(Coef.mk q pc)]) (Y := x14) (n := coefs10.length) (cap := cap10) (i := 2) zbp ti87 rfl rfl rfl rfl hL27 rfl rfl f22 rfl hc17 (zeg (pre := []) (o := 0) (n := 1) (cap := 1) (hL27.at 0 rfl rfl) f21 rfl rfl rfl) (zef (fun _ _ _ _ h => h) f21) q25 q26 q27 ?_)
 intro ob16 cap16 sp16 cs16 w24 hE19 hc20 (hL28 : vL w w24 [some b15, some b6, ob16, some b10, ob11] [zac ([] ++ ([(zI q), (zI pc)] ++ [])), zac [(zI (iw (0 - pb.Const))), (zO ob10 coefs10 cap10)], zac ([] ++ (cs16 ++ sp16)), zac [(zI (iw (pb.Const - (iw (pc - 1))))), (zO ob11 coefs11 cap11)], zac ([] ++ (cs11 ++ sp11))]) hS23
 have K28 := ks w hS23
 refine zag (zak (q := 1) zca rfl ti88 rfl rfl rfl ?_)
 refine zcq (zbq (vs := [(zO ob16 x14 cap16)]) ti88 rfl rfl (zfa (zez _ _ _ _)) rfl (zet (zez _ _ _ _) zew) hL28 1 rfl rfl (zaf rfl) ?_)
 intro w25 (hL29 : vL w w25 [some b15, some b6, ob16, some b10, ob11] [zac ([] ++ ([(zI q), (zI pc)] ++ [])), zac [(zI (iw (0 - pb.Const))), (zO ob16 x14 cap16)], zac ([] ++ (cs16 ++ sp16)), zac [(zI (iw (pb.Const - (iw (pc - 1))))), (zO ob11 coefs11 cap11)], zac ([] ++ (cs11 ++ sp11))]) hS24
 have K29 := ks w hS24
 refine zap (zal (zah rfl (zag (zak (q := 1) zca rfl ti88 rfl rfl rfl ?_))))
 refine zag (zas (v := (zO ob11 coefs11 cap11)) zbp rfl rfl (hL29.at 3 rfl rfl) rfl ?_)
 refine zag (zai (v := (zI q)) rfl ?_)
 refine zag (zai (v := (zI pc)) rfl ?_)
 refine zag (OpY.neg (x := pc) (z := (iw (0 - pc))) rfl rfl ?_)
 refine zag (zcz (zc := [(zI 0), (zI 0)]) (cs := [(zI q), (zI (iw (0 - pc)))]) (is := [0, 1]) (vs := [(zI q), (zI (iw (0 - pc)))]) (css := [[(zI q)], [(zI (iw (0 - pc)))]]) pl87 ti87 rfl rfl rfl ⟨rfl, rfl, trivial⟩ rfl ?_)
 have hE20 : Els rCoef (vH w None [some b15, some b6, ob16, some b10, ob11] w25) [(zI q), (zI (iw (0 - pc)))] [(Coef.mk q (iw (0 - pc)))] := (zdg (a := [(zI q), (zI (iw (0 - pc)))]) (rCoef_close ⟨rfl, trivial⟩) zcx)
 refine zag (zcv (r := rCoef) (vs := [(zar #[(zI q), (zI (iw (0 - pc)))])]) (css := [[(zI q), (zI (iw (0 - pc)))]]) (xs := [(Coef.mk q (iw (0 - pc)))]) zbp ti87 (zaf rfl) rfl rfl ⟨rfl, rfl, trivial⟩ (zaf rfl) hE20 rfl hL29 ?_)
 intro b16 w26 hc21 hL30 hS25
 have K30 := ks w hS25
 obtain ⟨x15, q28, h⟩ := zes h
 obtain ⟨q29, q30, q31⟩ := zfb q28
 have f23 := (hE20.mono (K30 None))
 have f24 := ((((hE17.mono (K27 None)).mono (K28 None)).mono (K29 None)).mono (K30 None))
 refine zag (zdo (r := rCoef) (H := (vH w None [some b16, some b15, some b6, ob16, some b10, ob11] w26)) (cs := cs11) (sp := sp11) (xs := coefs11) (ys := [(Coef.mk q (iw (0 - pc)))]) (Y := x15) (n := coefs11.length) (cap := cap11) (i := 5) zbp ti87 rfl rfl rfl rfl hL30 rfl rfl f24 rfl hc18 (zeg (pre := []) (o := 0) (n := 1) (cap := 1) (hL30.at 0 rfl rfl) f23 rfl rfl rfl) (zef (fun _ _ _ _ h => h) f23) q29 q30 q31 ?_)
 intro ob17 cap17 sp17 cs17 w27 hE21 hc22 (hL31 : vL w w27 [some b16, some b15, some b6, ob16, some b10, ob17] [zac ([] ++ ([(zI q), (zI (iw (0 - pc)))] ++ [])), zac ([] ++ ([(zI q), (zI pc)] ++ [])), zac [(zI (iw (0 - pb.Const))), (zO ob16 x14 cap16)], zac ([] ++ (cs16 ++ sp16)), zac [(zI (iw (pb.Const - (iw (pc - 1))))), (zO ob11 coefs11 cap11)], zac ([] ++ (cs17 ++ sp17))]) hS26
 have K31 := ks w hS26
 refine zag (zak (q := 1) zca rfl ti88 rfl rfl rfl ?_)
 refine zcq (zbq (vs := [(zO ob17 x15 cap17)]) ti88 rfl rfl (zfa (zez _ _ _ _)) rfl (zet (zez _ _ _ _) zew) hL31 4 rfl rfl (zaf rfl) ?_)
 intro w28 (hL32 : vL w w28 [some b16, some b15, some b6, ob16, some b10, ob17] [zac ([] ++ ([(zI q), (zI (iw (0 - pc)))] ++ [])), zac ([] ++ ([(zI q), (zI pc)] ++ [])), zac [(zI (iw (0 - pb.Const))), (zO ob16 x14 cap16)], zac ([] ++ (cs16 ++ sp16)), zac [(zI (iw (pb.Const - (iw (pc - 1))))), (zO ob17 x15 cap17)], zac ([] ++ (cs17 ++ sp17))]) hS27
 have K32 := ks w hS27
 refine zap (zal (zah rfl (zag (zbr (vs := [(zI (iw (0 - pb.Const))), (zO ob16 x14 cap16)]) zca rfl ti90 rfl (hL32.at 2 rfl rfl) rfl rfl ?_))))
 refine zag (zcz (zc := [(zI 0), zN, zF]) (cs := [(zI (iw (0 - pb.Const))), (zO ob16 x14 cap16), zF]) (is := [0]) (vs := [(zar #[(zI (iw (0 - pb.Const))), (zO ob16 x14 cap16)])]) (css := [[(zI (iw (0 - pb.Const))), (zO ob16 x14 cap16)]]) pl92 ti92 rfl rfl rfl zrt rfl ?_)
 refine zag (zbr (vs := [(zI (iw (pb.Const - (iw (pc - 1))))), (zO ob17 x15 cap17)]) zca rfl ti90 rfl (hL32.at 4 rfl rfl) rfl rfl ?_)
 refine zag (zcz (zc := [(zI 0), zN, zF]) (cs := [(zI (iw (pb.Const - (iw (pc - 1))))), (zO ob17 x15 cap17), zF]) (is := [0]) (vs := [(zar #[(zI (iw (pb.Const - (iw (pc - 1))))), (zO ob17 x15 cap17)])]) (css := [[(zI (iw (pb.Const - (iw (pc - 1))))), (zO ob17 x15 cap17)]]) pl92 ti92 rfl rfl rfl zrt rfl ?_)
 have f25 := (((((hE19.mono (K28 None)).mono (K29 None)).mono (K30 None)).mono (K31 None)).mono (K32 None))
 have f26 := hL32.freezeRow 3 rfl rfl f25 rfl rfl rfl hc20
 have hp14 := hL32.pick [0, 1, 2, 4, 5] rfl rfl rfl
 have hL33 : vL w w28 [some b16, some b15, some b6, some b10, ob17] [zac ([] ++ ([(zI q), (zI (iw (0 - pc)))] ++ [])), zac ([] ++ ([(zI q), (zI pc)] ++ [])), zac [(zI (iw (0 - pb.Const))), (zO ob16 x14 cap16)], zac [(zI (iw (pb.Const - (iw (pc - 1))))), (zO ob17 x15 cap17)], zac ([] ++ (cs17 ++ sp17))] := hp14.1
 have K33 := ks w hp14.2
 have f27 := (((hE21.mono (K31 None)).mono (K32 None)).mono (K33 None))
 have f28 := hL33.freezeRow 4 rfl rfl f27 rfl rfl rfl hc22
 have hp15 := hL33.pick [0, 1, 2, 3] rfl rfl rfl
 have hL34 : vL w w28 [some b16, some b15, some b6, some b10] [zac ([] ++ ([(zI q), (zI (iw (0 - pc)))] ++ [])), zac ([] ++ ([(zI q), (zI pc)] ++ [])), zac [(zI (iw (0 - pb.Const))), (zO ob16 x14 cap16)], zac [(zI (iw (pb.Const - (iw (pc - 1))))), (zO ob17 x15 cap17)]] := hp15.1
 have K34 := ks w hp15.2
 have f29 := (f26.mono (K34 None))
 have hE22 : Els rConstraint (vH w None [some b16, some b15, some b6, some b10] w28) [(zI (iw (0 - pb.Const))), (zO ob16 x14 cap16), zF, (zI (iw (pb.Const - (iw (pc - 1))))), (zO ob17 x15 cap17), zF] [(Constraint.mk (Linear.mk (iw (0 - pb.Const)) x14) false), (Constraint.mk (Linear.mk (iw (pb.Const - (iw (pc - 1)))) x15) false)] := (zdg (a := [(zI (iw (0 - pb.Const))), (zO ob16 x14 cap16), zF]) (rConstraint_close ⟨(zO ob16 x14 cap16), rfl, f29, trivial⟩) (zdg (a := [(zI (iw (pb.Const - (iw (pc - 1))))), (zO ob17 x15 cap17), zF]) (rConstraint_close ⟨(zO ob17 x15 cap17), rfl, f28, trivial⟩) zcx))
 refine zag (zcv (r := rConstraint) (vs := [(zar #[(zI (iw (0 - pb.Const))), (zO ob16 x14 cap16), zF]), (zar #[(zI (iw (pb.Const - (iw (pc - 1))))), (zO ob17 x15 cap17), zF])]) (css := [[(zI (iw (0 - pb.Const))), (zO ob16 x14 cap16), zF], [(zI (iw (pb.Const - (iw (pc - 1))))), (zO ob17 x15 cap17), zF]]) (xs := [(Constraint.mk (Linear.mk (iw (0 - pb.Const)) x14) false), (Constraint.mk (Linear.mk (iw (pb.Const - (iw (pc - 1)))) x15) false)]) zco ti92 (zaf rfl) rfl rfl ⟨rfl, rfl, ⟨rfl, rfl, trivial⟩⟩ (zaf rfl) hE22 rfl hL34 ?_)
 intro b17 w29 hc23 hL35 hS28
 have K35 := ks w hS28
 refine zag (zam (v := (osv (some b17) 0 2 2)) rfl ?_)
 refine zap (zbl ?_)
 obtain rfl := zae h
 refine ⟨[(osv (some b17) 0 2 2)], zrt, ⟨_, rfl, hL35.done, ?_⟩⟩
 have f30 := (hE22.mono (K35 None))
 exact ⟨some b17, 2, [(zI (iw (0 - pb.Const))), (zO ob16 x14 cap16), zF, (zI (iw (pb.Const - (iw (pc - 1))))), (zO ob17 x15 cap17), zF], [], rfl, (hL35.newOwn [0] rfl rfl rfl), (f30.mono (zdx [0] rfl)), hc23, trivial⟩
theorem vInts_w (N : Nat) (l : (List RVar)) (c : RClause) (ranges : (List Arr2Int)) (l_v : Value) (c_v : Value) (c_v1 : Value) (c_v2 : Value) (c_v3 : Value) (c_v4 : Value) (c_v5 : Value) (c_v6 : Value) (ranges_v : Value) (w : World) (S : Nat → Prop) (l_h : Rs rRVar (vH w S [] w) l_v l) (c_h : Rs rI (vH w S [] w) c_v c.Null) (c_h1 : Rs rI (vH w S [] w) c_v1 c.NotNull) (c_h2 : Rs rRAux (vH w S [] w) c_v2 c.Auxiliary) (c_h3 : Rs rConstraint (vH w S [] w) c_v3 c.Ints) (c_h4 : Rs rTTest (vH w S [] w) c_v4 c.Tests) (c_h5 : Rs rArr2Int (vH w S [] w) c_v5 c.Same) (c_h6 : Rs rArr2Int (vH w S [] w) c_v6 c.Different) (ranges_h : Rs rArr2Int (vH w S [] w) ranges_v ranges) (r : (Int × (List Constraint))) (h : vInts N l c ranges = some r) :
  Calls Tryz.prog 12 #[l_v, (zar #[c_v, c_v1, c_v2, c_v3, c_v4, c_v5, c_v6]), ranges_v] w (Ret w (fun v w' => ∃ (ob1 : Option Nat) (cap1 : Nat) (cs1 : List Value) (sp1 : List Value), .tuple #[(zI r.1), (zO ob1 r.2 cap1)] = v ∧ NewOwn w w' [ob1] [zac ([] ++ (cs1 ++ sp1))] ∧ Els rConstraint (vH w None [ob1] w') cs1 r.2 ∧ (cs1 ++ sp1).length = cap1 * rConstraint.sz ∧ True)) := by
 unfold vInts at h
 have hL : vL w w [] [] := Go.X.Loc.begin0 w
 refine calls_of (l := [l_v, (zar #[c_v, c_v1, c_v2, c_v3, c_v4, c_v5, c_v6]), ranges_v]) (rl := [.tmp 6, .tmp 7]) (n := 108) Tryz.func12 rfl rfl rfl (zaf rfl) ?_
 refine zal (zah rfl (zag (zdu (cs := [c_v, c_v1, c_v2, c_v3, c_v4, c_v5, c_v6]) rfl rfl hL ?_)))
 intro b1 w2 hL3 hS5
 have K4 := ks w hS5
 refine zag (zam (v := (zI 0)) rfl ?_)
 refine zag (zam (v := zN) rfl ?_)
 refine zap (zal (zah rfl (zag (zam (v := zN) rfl ?_))))
 refine zap (zal (zal (zah rfl (zag (zak (q := 1) zay rfl ti23 rfl rfl rfl ?_)))))
 refine zag (zas (v := c_v1) zaw rfl rfl (hL3.at 0 rfl rfl) rfl ?_)
 have f6 := (c_h1.mono (K4 S))
 refine zag (zbg (v := c_v1) zaw rfl f6 ?_)
 refine zag (zai (v := (zI 0)) rfl (zap ?_))
 obtain ⟨s10, hl10, g10⟩ := zes h
 refine zce (fun e w' => ∃ (out10 : (List Constraint)) (ob10 : Option Nat) (cap10 : Nat) (sp10 : List Value) (cs10 : List Value) (ln10 : Nat) (u : Env), out10 = s10 ∧ e = upds [(0, l_v), (2, ranges_v), (4, (zaj (some ⟨b1, 0, none⟩))), (8, (osv ob10 0 ln10 cap10))] u ∧ vL w w' [some b1, ob10] [zac [c_v, c_v1, c_v2, c_v3, c_v4, c_v5, c_v6], zac ([] ++ (cs10 ++ sp10))] ∧ Keep w.heap.size [some b1] w2 [some b1, ob10] w' ∧ Els rConstraint (vH w None [some b1, ob10] w') cs10 out10 ∧ ln10 = List.length out10 ∧ (cs10 ++ sp10).length = cap10 * rConstraint.sz ∧ True) ?_ ?_
 ·
  refine zbh ?_
  have hp10 := hL3.addNil
  have hL10 : vL w w2 [none, some b1] [zac ([] ++ ([] ++ [])), zac [c_v, c_v1, c_v2, c_v3, c_v4, c_v5, c_v6]] := hp10.1
  have K10 := ks w hp10.2
  have hp11 := hL10.pick [1, 0] rfl rfl rfl
  have hL11 : vL w w2 [some b1, none] [zac [c_v, c_v1, c_v2, c_v3, c_v4, c_v5, c_v6], zac ([] ++ ([] ++ []))] := hp11.1
  have K11 := ks w hp11.2
  have f10 := ((zcx (r := rConstraint)).mono (K11 None))
  refine zcr hl10 (fun (ss : ((List Constraint) × Int)) (e : Env) (w' : World) => match ss with | (out11, x10) => ∃ (ob11 : Option Nat) (cap11 : Nat) (sp11 : List Value) (cs11 : List Value) (ln11 : Nat) (u : Env), e = upds [(0, l_v), (2, ranges_v), (4, (zaj (some ⟨b1, 0, none⟩))), (8, (osv ob11 0 ln11 cap11)), (17, c_v1), (18, (zI (c.NotNull.length : Int))), (19, (zI x10))] u ∧ vL w w' [some b1, ob11] [zac [c_v, c_v1, c_v2, c_v3, c_v4, c_v5, c_v6], zac ([] ++ (cs11 ++ sp11))] ∧ Keep w.heap.size [some b1] w2 [some b1, ob11] w' ∧ Els rConstraint (vH w None [some b1, ob11] w') cs11 out11 ∧ ln11 = List.length out11 ∧ (cs11 ++ sp11).length = cap11 * rConstraint.sz ∧ True) ⟨none, 0, [], [], (List.length ([] : (List Constraint))), _, (zeu ⟨rfl, rfl, rfl, rfl, rfl, rfl, rfl, trivial⟩), hL11, (zan K10 K11), f10, rfl, (show ([] ++ [] : List Value).length = 0 * rConstraint.sz by simp), trivial⟩ ?_
  rintro ⟨out11, x10⟩ oo _ w10 ⟨ob11, cap11, sp11, cs11, ln11, u, rfl, hL12, K12, hE10, rfl, hc10, -⟩ h hd10
  rw [vInts_b1] at h
  refine zal (zah rfl (zag (zcp (x := x10) (y := (c.NotNull.length : Int)) ((x10 : Int) < (c.NotNull.length : Int)) rfl rfl zbd ?_)))
  refine zap (zal ?_)
  refine zbf ((x10 : Int) < (c.NotNull.length : Int)) rfl (fun hc11 => ?_) (fun hc11 => ?_)
  ·
   replace h := ite_t hc11 h
   refine zbk (zal (zbh (zal (zah rfl ?_))))
   obtain ⟨x11, n10, q11, q12, -, h⟩ := zix h
   have f11 := (f6.mono (K12 S))
   obtain ⟨b10, o10, c10, vs10, q13, q14, f12, q15⟩ := zcw f11 q12
   obtain rfl := q15
   refine zag (zbj (r := rI) (v := c_v1) (n := n10) (m := (o10 + n10 * rI.sz)) zaw ti3 rfl q13 rfl q11 q12 rfl ?_)
   refine zag (zby (v := (zI x11)) zat rfl rfl zex f12 ?_)
   refine zag (zam (v := (zI x11)) rfl ?_)
   refine zap (zal (zah rfl (zag (zai (v := l_v) rfl ?_))))
   refine zag (zai (v := (zI x11)) rfl ?_)
   obtain ⟨x12, n11, q17, q18, -, h⟩ := zix h
   have f13 := ((l_h.mono (K4 S)).mono (K12 S))
   obtain ⟨b11, o11, c11, vs11, q19, q20, f14, q21⟩ := zcw f13 q18
   obtain ⟨rfl, -⟩ := rRVar_open q21
   refine zag (zbj (r := rRVar) (v := l_v) (n := n11) (m := (o11 + n11 * rRVar.sz)) zbt ti83 rfl q19 rfl q17 q18 rfl ?_)
   have f15 := (f14.part (us := [(zI x12.Ty)]) 0 rfl)
   refine zag (zak (q := (o11 + n11 * rRVar.sz) + 0) zcc rfl ti3 rfl rfl rfl ?_)
   refine zag (zby (v := (zI x12.Ty)) zat rfl rfl zex f15 ?_)
   refine zag (zeb (x := x12.Ty) (y := 1) ((x12.Ty : Int) = 1) rfl rfl zbd (zap ?_))
   refine zbf ((x12.Ty : Int) = 1) rfl (fun hc12 => ?_) (fun hc12 => ?_)
   ·
    replace h := ite_t hc12 h
    obtain ⟨x13, n12, q23, q24, -, h⟩ := zix h
    obtain ⟨b12, o12, c12, vs12, q25, q26, f16, q27⟩ := zcw f13 q24
    obtain ⟨rfl, -⟩ := rRVar_open q27
    have f17 := (f16.part (us := [(zI x13.Low)]) 1 rfl)
    obtain ⟨x14, n13, q29, q30, -, h⟩ := zix h
    obtain ⟨b13, o13, c13, vs13, q31, q32, f18, q33⟩ := zcw f13 q30
    obtain ⟨rfl, -⟩ := rRVar_open q33
    have f19 := (f18.part (us := [(zI x14.High)]) 2 rfl)
    obtain ⟨r10, q34, h⟩ := zes h
    refine zcm 13 [] [] (fun W1 => [.det (zO ob11 out11 cap11), .det (zI x11), .det l_v, .det (zI x11), .det (zaj (some ⟨b12, (o12 + n12 * rRVar.sz), none⟩)), .det (zaj (some ⟨b12, (o12 + n12 * rRVar.sz) + 1, none⟩)), .det (zI x13.Low), .det l_v, .det (zI x11), .det (zaj (some ⟨b13, (o13 + n13 * rRVar.sz), none⟩)), .det (zaj (some ⟨b13, (o13 + n13 * rRVar.sz) + 2, none⟩)), .det (zI x14.High), .rel (fun v Z w' => ∃ ob12 cap12 cs12 sp12, (zO ob12 r10 cap12) = v ∧ OwnC w' ob12 (zac ([] ++ (cs12 ++ sp12))) ∧ Els rConstraint (vZ W1 w None [some b1, ob11] Z w') cs12 r10 ∧ (cs12 ++ sp12 : List Value).length = cap12 * rConstraint.sz ∧ True) footV]) mixed rfl rfl rfl (fun _ => rfl) (fun _ => rfl) ?_ ?_
    ·
     intro W1 _
     exact ⟨fun v Z Z' w w' hΦ hz _ _ hs => by obtain ⟨ob12, cap12, cs12, sp12, rfl, hO10, hE11, hc13, -⟩ := hΦ; exact ⟨ob12, cap12, cs12, sp12, rfl, (hO10.stay (fun b hb => (zfc (ob := ob12) (o := 0) (n := r10.length) (cap := cap12)).2 (by rw [hb]; exact zbi)) hs), (hE11.mono (zdt hz hs)), hc13, trivial⟩, trivial⟩
    intro w11 hE12
    obtain ⟨hL13, K13⟩ := zl hL12 hE12
    refine zao (fun _ _ => zau (zai rfl (er rfl))) ?_
    refine zao (fun _ _ => zau (zai rfl (er rfl))) ?_
    refine zao (fun _ _ => zau (zai rfl (er rfl))) ?_
    refine zao (fun _ _ => zau (zai rfl (er rfl))) ?_
    refine zao (fun _ _ => zau (zbj (r := rRVar) (v := l_v) (n := n12) (m := (o12 + n12 * rRVar.sz)) zbt ti83 rfl q25 rfl q23 q24 rfl (er rfl))) ?_
    refine zao (fun _ _ => zau (zak zcc rfl ti2 rfl rfl rfl (er rfl))) ?_
    refine zao (fun _ hE19 => zau (zby zcf rfl rfl zex (zcd ((ke hL13 hE19) S) (zcd (K13 S) f17)) (er rfl))) ?_
    refine zao (fun _ _ => zau (zai rfl (er rfl))) ?_
    refine zao (fun _ _ => zau (zai rfl (er rfl))) ?_
    refine zao (fun _ _ => zau (zbj (r := rRVar) (v := l_v) (n := n13) (m := (o13 + n13 * rRVar.sz)) zbt ti83 rfl q31 rfl q29 q30 rfl (er rfl))) ?_
    refine zao (fun _ _ => zau (zak zcc rfl ti2 rfl rfl rfl (er rfl))) ?_
    refine zao (fun _ hE24 => zau (zby zcf rfl rfl zex (zcd ((ke hL13 hE24) S) (zcd (K13 S) f19)) (er rfl))) ?_
    refine zdw ?_ ?_
    ·
     rintro w24 Z31 hE25 hZ22 ⟨-⟩
     refine zau (zbc en39 rfl rfl (vbounds_w N x11 x13.Low x14.High _ Any r10 q34) ?_)
     rintro _ w25 hE26 ⟨ob12, cap12, cs12, sp12, rfl, hN10, hE11, hc13, -⟩
     exact zdp hE26 hZ22 hN10 (fun b hb => footV_osv.1 hb) ⟨ob12, cap12, cs12, sp12, rfl, hN10.2.2.1, (hE11.mono zec), hc13, trivial⟩
    intro z10
    refine zcy ?_
    rintro w26 Z32 hE27 hZ23 ⟨⟨⟨ob12, cap12, cs12, sp12, rfl, hO10, hE11, hc13, -⟩, hB10⟩, -⟩ ap10
    have hB11 : ∀ b, some b ∈ ([ob12] : List (Option Nat)) → w11.heap.size ≤ b ∧ ¬ Z32 b := by
     intro b hb
     rcases List.mem_cons.1 hb with hb' | hb
     ·
      have := hB10 b ((zfc (ob := ob12) (o := 0) (n := r10.length) (cap := cap12)).2 (by rw [hb']; exact zbi)); exact ⟨this.1, this.2.2⟩
     cases hb
    replace hE11 := hE11.mono (zed hL13 hZ23 hB11)
    have hN11 : NewOwn w11 w26 [ob12] [zac ([] ++ (cs12 ++ sp12))] := (zdv zde hO10 (fun b hb => (hB11 b (by rw [← hb]; simp)).1) (fun b _ hb => by cases hb))
    have hp12 := hL13.adoptL hE27 hN11
    have hL14 := hp12.1
    have K16 := ks w hp12.2
    obtain ⟨x15, q35, h⟩ := zes h
    obtain ⟨q36, q37, q38⟩ := zfb q35
    have f20 := ((hE10.mono (K13 None)).mono (K16 None))
    refine zag (zdo (r := rConstraint) (H := (vH w None [ob12, some b1, ob11] w26)) (cs := cs11) (sp := sp11) (xs := out11) (ys := r10) (Y := x15) (n := out11.length) (cap := cap11) (i := 2) zco ti92 rfl rfl rfl rfl hL14 rfl rfl f20 rfl hc10 (zeg (pre := []) (o := 0) (n := r10.length) (cap := cap12) (hL14.at 0 rfl rfl) hE11 rfl rfl rfl) hE11 q36 q37 q38 ?_)
    intro ob13 cap13 sp13 cs13 w27 hE28 hc14 (hL15 : vL w w27 [ob12, some b1, ob13] [zac ([] ++ (cs12 ++ sp12)), zac [c_v, c_v1, c_v2, c_v3, c_v4, c_v5, c_v6], zac ([] ++ (cs13 ++ sp13))]) hS10
    have K17 := ks w hS10
    refine zag (zam (v := (zO ob13 x15 cap13)) rfl ?_)
    refine zap (zbu (zah rfl (zag (zcl (x := x10) (y := 1) (z := (iw (x10 + 1))) rfl rfl rfl ?_))))
    refine zag (zai (v := (zI (iw (x10 + 1)))) rfl (zap ?_))
    have hp13 := hL15.pick [1, 2] rfl rfl rfl
    have hL16 : vL w w27 [some b1, ob13] [zac [c_v, c_v1, c_v2, c_v3, c_v4, c_v5, c_v6], zac ([] ++ (cs13 ++ sp13))] := hp13.1
    have K18 := ks w hp13.2
    have f21 := ((hE28.mono (K17 None)).mono (K18 None))
    obtain rfl := zae h
    refine zaq ⟨(x15, (iw (x10 + 1))), rfl, ?_⟩
    exact ⟨ob13, cap13, sp13, cs13, x15.length, _, (zeu ⟨rfl, rfl, rfl, rfl, rfl, rfl, rfl, trivial⟩), hL16, (zan (zan (zan (zan K12 K13) K16) K17) K18), f21, rfl, hc14, trivial⟩
   replace h := ite_f hc12 h
   refine zbk (zbu (zah rfl (zag (zcl (x := x10) (y := 1) (z := (iw (x10 + 1))) rfl rfl rfl ?_))))
   refine zag (zai (v := (zI (iw (x10 + 1)))) rfl (zap ?_))
   obtain rfl := zae h
   refine zaq ⟨(out11, (iw (x10 + 1))), rfl, ?_⟩
   exact ⟨ob11, cap11, sp11, cs11, out11.length, _, (zeu ⟨rfl, rfl, rfl, rfl, rfl, rfl, rfl, trivial⟩), hL12, K12, hE10, rfl, hc10, trivial⟩
  replace h := ite_f hc11 h
  refine zda rfl ?_
  obtain rfl := zae h
  obtain rfl := hd10 _ rfl
  replace h := g10
  try dsimp only at h
  refine zaq ?_
  exact ⟨out11, ob11, cap11, sp11, cs11, out11.length, _, rfl, (zeu ⟨rfl, rfl, rfl, rfl, trivial⟩), hL12, K12, hE10, rfl, hc10, trivial⟩
 rintro _ w28 ⟨out10, ob10, cap10, sp10, cs10, ln10, u, rfl, rfl, hL17, K19, hE29, rfl, hc15, -⟩
 replace h := g10
 try dsimp only at h
 refine zal (zal (zah rfl (zag (zak (q := 2) zay rfl ti24 rfl rfl rfl ?_))))
 refine zag (zas (v := c_v2) zdm rfl rfl (hL17.at 0 rfl rfl) rfl ?_)
 have f22 := ((c_h2.mono (K4 S)).mono (K19 S))
 refine zag (zbg (v := c_v2) zdm rfl f22 ?_)
 refine zag (zai (v := (zI 0)) rfl (zap ?_))
 obtain ⟨s11, hl11, g11⟩ := zes h
 refine zce (fun e w' => ∃ (out12 : (List Constraint)) (ob14 : Option Nat) (cap14 : Nat) (sp14 : List Value) (cs14 : List Value) (ln12 : Nat) (u : Env), out12 = s11 ∧ e = upds [(0, l_v), (4, (zaj (some ⟨b1, 0, none⟩))), (8, (osv ob14 0 ln12 cap14))] u ∧ vL w w' [some b1, ob14] [zac [c_v, c_v1, c_v2, c_v3, c_v4, c_v5, c_v6], zac ([] ++ (cs14 ++ sp14))] ∧ Keep w.heap.size [some b1, ob10] w28 [some b1, ob14] w' ∧ Els rConstraint (vH w None [some b1, ob14] w') cs14 out12 ∧ ln12 = List.length out12 ∧ (cs14 ++ sp14).length = cap14 * rConstraint.sz ∧ True) ?_ ?_
 ·
  refine zbh ?_
  refine zcr hl11 (fun (ss : ((List Constraint) × Int)) (e : Env) (w' : World) => match ss with | (out13, x16) => ∃ (ob15 : Option Nat) (cap15 : Nat) (sp15 : List Value) (cs15 : List Value) (ln13 : Nat) (u : Env), e = upds [(0, l_v), (2, ranges_v), (4, (zaj (some ⟨b1, 0, none⟩))), (8, (osv ob15 0 ln13 cap15)), (45, c_v2), (46, (zI (c.Auxiliary.length : Int))), (47, (zI x16))] u ∧ vL w w' [some b1, ob15] [zac [c_v, c_v1, c_v2, c_v3, c_v4, c_v5, c_v6], zac ([] ++ (cs15 ++ sp15))] ∧ Keep w.heap.size [some b1, ob10] w28 [some b1, ob15] w' ∧ Els rConstraint (vH w None [some b1, ob15] w') cs15 out13 ∧ ln13 = List.length out13 ∧ (cs15 ++ sp15).length = cap15 * rConstraint.sz ∧ True) ⟨ob10, cap10, sp10, cs10, out10.length, _, (zeu ⟨rfl, rfl, rfl, rfl, rfl, rfl, rfl, trivial⟩), hL17, zck, hE29, rfl, hc15, trivial⟩ ?_
  rintro ⟨out13, x16⟩ oo _ w29 ⟨ob15, cap15, sp15, cs15, ln13, u, rfl, hL18, K20, hE30, rfl, hc16, -⟩ h hd11
  rw [vInts_b2] at h
  refine zal (zah rfl (zag (zcp (x := x16) (y := (c.Auxiliary.length : Int)) ((x16 : Int) < (c.Auxiliary.length : Int)) rfl rfl zbd ?_)))
  refine zap (zal ?_)
  refine zbf ((x16 : Int) < (c.Auxiliary.length : Int)) rfl (fun hc17 => ?_) (fun hc17 => ?_)
  ·
   replace h := ite_t hc17 h
   refine zbk (zal (zbh (zal (zah rfl (zag (zai (v := (zI x16)) rfl ?_))))))
   obtain ⟨x17, n14, q40, q41, -, h⟩ := zix h
   have f23 := (f22.mono (K20 S))
   obtain ⟨b14, o14, c14, vs14, q42, q43, f24, q44⟩ := zcw f23 q41
   obtain ⟨v10, rfl, k10, -⟩ := rRAux_open q44
   refine zag (zbj (r := rRAux) (v := c_v2) (n := n14) (m := (o14 + n14 * rRAux.sz)) zdm ti104 rfl q42 rfl q40 q41 rfl ?_)
   refine zag (zds (vs := [(zI x17.Of.Const), v10, (zI x17.By), (zI x17.Text)]) zdf rfl ti104 rfl rfl zex f24 ?_)
   refine zag (zcj (cs := [(zI 0), zN, (zI 0), (zI 0)]) ti104 rfl hL18 ?_)
   intro b15 w30 hL19 hS11
   have K21 := ks w hS11
   refine zag (zam (v := (zI x16)) rfl ?_)
   have f25 := (k10.mono (K21 S))
   refine zcq (zbq (vs := [(zI x17.Of.Const), v10, (zI x17.By), (zI x17.Text)]) ti104 rfl rfl rfl rfl (zet rfl (zet f25.one (zet rfl (zet rfl zew)))) hL19 0 rfl rfl (zaf rfl) ?_)
   intro w31 (hL20 : vL w w31 [some b15, some b1, ob15] [zac [(zI x17.Of.Const), v10, (zI x17.By), (zI x17.Text)], zac [c_v, c_v1, c_v2, c_v3, c_v4, c_v5, c_v6], zac ([] ++ (cs15 ++ sp15))]) hS12
   have K22 := ks w hS12
   refine zap (zal (zah rfl (zag (zai (v := l_v) rfl ?_))))
   have f26 := (((((l_h.mono (K4 S)).mono (K19 S)).mono (K20 S)).mono (K21 S)).mono (K22 S))
   refine zag (zbg (v := l_v) zbt rfl f26 ?_)
   refine zag (zai (v := (zI x16)) rfl ?_)
   refine zag (zcl (x := (l.length : Int)) (y := x16) (z := (iw ((l.length : Int) + x16))) rfl rfl rfl ?_)
   refine zag (zam (v := (zI (iw ((l.length : Int) + x16)))) rfl ?_)
   refine zap (zal (zah rfl (zag (zak (q := 2) zdf rfl ti2 rfl rfl rfl ?_))))
   refine zag (zas (v := (zI x17.By)) zcf rfl rfl (hL20.at 0 rfl rfl) rfl ?_)
   refine zag (zeb (x := x17.By) (y := 0) ((x17.By : Int) = 0) rfl rfl zbd (zap ?_))
   refine zbf ((x17.By : Int) = 0) rfl (fun hc18 => ?_) (fun hc18 => ?_)
   ·
    replace h := ite_t hc18 h
    obtain ⟨x18, n15, q46, q47, -, h⟩ := zix h
    have f27 := (((((ranges_h.mono (K4 S)).mono (K19 S)).mono (K20 S)).mono (K21 S)).mono (K22 S))
    obtain ⟨b16, o15, c15, vs15, q48, q49, f28, q50⟩ := zcw f27 q47
    obtain ⟨rfl, -⟩ := rArr2Int_open q50
    have f29 := (f28.part (us := [(zI x18.e0)]) 0 rfl)
    obtain ⟨r11, q51, h⟩ := zes h
    obtain ⟨r12, q52, h⟩ := zes h
    refine zcm 14 [] [] (fun W1 => [.det (zO ob15 out13 cap15), .det (zI (iw ((l.length : Int) + x16))), .det ranges_v, .det (zaj (some ⟨b15, 3, none⟩)), .det (zI x17.Text), .det (zaj (some ⟨b16, (o15 + n15 * rArr2Int.sz), none⟩)), .det (zaj (some ⟨b16, (o15 + n15 * rArr2Int.sz) + 0, none⟩)), .det (zI x18.e0), .det l_v, .det ranges_v, .det (zaj (some ⟨b15, 3, none⟩)), .det (zI x17.Text), .det (zI r11), .rel (fun v Z w' => ∃ ob16 cap16 cs16 sp16, (zO ob16 r12 cap16) = v ∧ OwnC w' ob16 (zac ([] ++ (cs16 ++ sp16))) ∧ Els rConstraint (vZ W1 w None [some b15, some b1, ob15] Z w') cs16 r12 ∧ (cs16 ++ sp16 : List Value).length = cap16 * rConstraint.sz ∧ True) footV]) mixed rfl rfl rfl (fun _ => rfl) (fun _ => rfl) ?_ ?_
    ·
     intro W1 _
     exact ⟨fun v Z Z' w w' hΦ hz _ _ hs => by obtain ⟨ob16, cap16, cs16, sp16, rfl, hO11, hE31, hc19, -⟩ := hΦ; exact ⟨ob16, cap16, cs16, sp16, rfl, (hO11.stay (fun b hb => (zfc (ob := ob16) (o := 0) (n := r12.length) (cap := cap16)).2 (by rw [hb]; exact zbi)) hs), (hE31.mono (zdt hz hs)), hc19, trivial⟩, trivial⟩
    intro w32 hE32
    obtain ⟨hL21, K23⟩ := zl hL20 hE32
    refine zao (fun _ _ => zau (zai rfl (er rfl))) ?_
    refine zao (fun _ _ => zau (zai rfl (er rfl))) ?_
    refine zao (fun _ _ => zau (zai rfl (er rfl))) ?_
    refine zao (fun _ _ => zau (zak zdf rfl ti3 rfl rfl rfl (er rfl))) ?_
    refine zao (fun _ hE37 => zau (zas zat rfl rfl ((hL21.ext hE37).at 0 rfl rfl) rfl (er rfl))) ?_
    refine zao (fun _ _ => zau (zbj (r := rArr2Int) (v := ranges_v) (n := n15) (m := (o15 + n15 * rArr2Int.sz)) zaz ti54 rfl q48 rfl q46 q47 rfl (er rfl))) ?_
    refine zao (fun _ _ => zau (zcg (i := 0) (q := (o15 + n15 * rArr2Int.sz) + 0) zbv ti3 rfl rfl (by decide) rfl (er rfl))) ?_
    refine zao (fun _ hE40 => zau (zby zat rfl rfl zex (zcd ((ke hL21 hE40) S) (zcd (K23 S) f29)) (er rfl))) ?_
    refine zao (fun _ _ => zau (zai rfl (er rfl))) ?_
    refine zao (fun _ _ => zau (zai rfl (er rfl))) ?_
    refine zao (fun _ _ => zau (zak zdf rfl ti3 rfl rfl rfl (er rfl))) ?_
    refine zao (fun _ hE44 => zau (zas zat rfl rfl ((hL21.ext hE44).at 0 rfl rfl) rfl (er rfl))) ?_
    refine zen ?_ ?_
    ·
     rintro w45 Z45 hE45 hZ36 ⟨-⟩
     have K25 := ke hL21 hE45
     refine zau (zbc en40 rfl rfl (vhigh_w N l ranges x17.Text l_v ranges_v _ Any (((f26.mono (K23 S)).mono (K25 S)).mono vw_any) (((f27.mono (K23 S)).mono (K25 S)).mono vw_any) r11 q51) ?_)
     rintro _ w46 hE46 ⟨rfl, -⟩
     exact ⟨hE46, rfl⟩
    refine zdw ?_ ?_
    ·
     rintro w47 Z46 hE47 hZ37 ⟨-⟩
     refine zau (zbc en39 rfl rfl (vbounds_w N (iw ((l.length : Int) + x16)) x18.e0 r11 _ Any r12 q52) ?_)
     rintro _ w48 hE48 ⟨ob16, cap16, cs16, sp16, rfl, hN12, hE31, hc19, -⟩
     exact zdp hE48 hZ37 hN12 (fun b hb => footV_osv.1 hb) ⟨ob16, cap16, cs16, sp16, rfl, hN12.2.2.1, (hE31.mono zec), hc19, trivial⟩
    intro z11
    refine zcy ?_
    rintro w49 Z47 hE49 hZ38 ⟨⟨⟨ob16, cap16, cs16, sp16, rfl, hO11, hE31, hc19, -⟩, hB12⟩, -⟩ ap11
    have hB13 : ∀ b, some b ∈ ([ob16] : List (Option Nat)) → w32.heap.size ≤ b ∧ ¬ Z47 b := by
     intro b hb
     rcases List.mem_cons.1 hb with hb' | hb
     ·
      have := hB12 b ((zfc (ob := ob16) (o := 0) (n := r12.length) (cap := cap16)).2 (by rw [hb']; exact zbi)); exact ⟨this.1, this.2.2⟩
     cases hb
    replace hE31 := hE31.mono (zed hL21 hZ38 hB13)
    have hN13 : NewOwn w32 w49 [ob16] [zac ([] ++ (cs16 ++ sp16))] := (zdv zde hO11 (fun b hb => (hB13 b (by rw [← hb]; simp)).1) (fun b _ hb => by cases hb))
    have hp14 := hL21.adoptL hE49 hN13
    have hL24 := hp14.1
    have K26 := ks w hp14.2
    obtain ⟨x19, q53, h⟩ := zes h
    obtain ⟨q54, q55, q56⟩ := zfb q53
    have f30 := ((((hE30.mono (K21 None)).mono (K22 None)).mono (K23 None)).mono (K26 None))
    refine zag (zdo (r := rConstraint) (H := (vH w None [ob16, some b15, some b1, ob15] w49)) (cs := cs15) (sp := sp15) (xs := out13) (ys := r12) (Y := x19) (n := out13.length) (cap := cap15) (i := 3) zco ti92 rfl rfl rfl rfl hL24 rfl rfl f30 rfl hc16 (zeg (pre := []) (o := 0) (n := r12.length) (cap := cap16) (hL24.at 0 rfl rfl) hE31 rfl rfl rfl) hE31 q54 q55 q56 ?_)
    intro ob17 cap17 sp17 cs17 w50 hE50 hc20 (hL25 : vL w w50 [ob16, some b15, some b1, ob17] [zac ([] ++ (cs16 ++ sp16)), zac [(zI x17.Of.Const), v10, (zI x17.By), (zI x17.Text)], zac [c_v, c_v1, c_v2, c_v3, c_v4, c_v5, c_v6], zac ([] ++ (cs17 ++ sp17))]) hS13
    have K27 := ks w hS13
    refine zag (zam (v := (zO ob17 x19 cap17)) rfl ?_)
    refine zap (zbu (zah rfl (zag (zcl (x := x16) (y := 1) (z := (iw (x16 + 1))) rfl rfl rfl ?_))))
    refine zag (zai (v := (zI (iw (x16 + 1)))) rfl (zap ?_))
    have hp15 := hL25.pick [2, 3] rfl rfl rfl
    have hL26 : vL w w50 [some b1, ob17] [zac [c_v, c_v1, c_v2, c_v3, c_v4, c_v5, c_v6], zac ([] ++ (cs17 ++ sp17))] := hp15.1
    have K28 := ks w hp15.2
    have f31 := ((hE50.mono (K27 None)).mono (K28 None))
    obtain rfl := zae h
    refine zaq ⟨(x19, (iw (x16 + 1))), rfl, ?_⟩
    exact ⟨ob17, cap17, sp17, cs17, x19.length, _, (zeu ⟨rfl, rfl, rfl, rfl, rfl, rfl, rfl, trivial⟩), hL26, (zan (zan (zan (zan (zan (zan K20 K21) K22) K23) K26) K27) K28), f31, rfl, hc20, trivial⟩
   replace h := ite_f hc18 h
   refine zah rfl (zag (zai (v := (zO ob15 out13 cap15)) rfl ?_))
   refine zag (zai (v := (zI (iw ((l.length : Int) + x16)))) rfl ?_)
   refine zag (zak (q := 0) zdf rfl ti90 rfl rfl rfl ?_)
   refine zag (zbr (vs := [(zI x17.Of.Const), v10]) zca rfl ti90 rfl (hL20.at 0 rfl rfl) rfl rfl ?_)
   refine zag (zak (q := 2) zdf rfl ti2 rfl rfl rfl ?_)
   refine zag (zas (v := (zI x17.By)) zcf rfl rfl (hL20.at 0 rfl rfl) rfl ?_)
   obtain ⟨r13, q57, h⟩ := zes h
   have f32 := (f25.mono (K22 S))
   refine zag (zbc en41 rfl rfl (vquotient_w N (iw ((l.length : Int) + x16)) x17.Of x17.By v10 _ Any (f32.mono vw_any) r13 q57) ?_)
   rintro _ w51 hE51 ⟨ob18, cap18, cs18, sp18, rfl, hN14, hE52, hc21, -⟩
   replace hE52 := hE52.mono (zch (S := None) hL20 [ob18])
   have hp16 := hL20.adoptL hE51 hN14
   have hL27 := hp16.1
   have K29 := ks w hp16.2
   obtain ⟨x20, q58, h⟩ := zes h
   obtain ⟨q59, q60, q61⟩ := zfb q58
   have f33 := (((hE30.mono (K21 None)).mono (K22 None)).mono (K29 None))
   refine zag (zdo (r := rConstraint) (H := (vH w None [ob18, some b15, some b1, ob15] w51)) (cs := cs15) (sp := sp15) (xs := out13) (ys := r13) (Y := x20) (n := out13.length) (cap := cap15) (i := 3) zco ti92 rfl rfl rfl rfl hL27 rfl rfl f33 rfl hc16 (zeg (pre := []) (o := 0) (n := r13.length) (cap := cap18) (hL27.at 0 rfl rfl) hE52 rfl rfl rfl) hE52 q59 q60 q61 ?_)
   intro ob19 cap19 sp19 cs19 w52 hE53 hc22 (hL28 : vL w w52 [ob18, some b15, some b1, ob19] [zac ([] ++ (cs18 ++ sp18)), zac [(zI x17.Of.Const), v10, (zI x17.By), (zI x17.Text)], zac [c_v, c_v1, c_v2, c_v3, c_v4, c_v5, c_v6], zac ([] ++ (cs19 ++ sp19))]) hS14
   have K30 := ks w hS14
   refine zag (zam (v := (zO ob19 x20 cap19)) rfl ?_)
   refine zap (zbu (zah rfl (zag (zcl (x := x16) (y := 1) (z := (iw (x16 + 1))) rfl rfl rfl ?_))))
   refine zag (zai (v := (zI (iw (x16 + 1)))) rfl (zap ?_))
   have hp17 := hL28.pick [2, 3] rfl rfl rfl
   have hL29 : vL w w52 [some b1, ob19] [zac [c_v, c_v1, c_v2, c_v3, c_v4, c_v5, c_v6], zac ([] ++ (cs19 ++ sp19))] := hp17.1
   have K31 := ks w hp17.2
   have f34 := ((hE53.mono (K30 None)).mono (K31 None))
   obtain rfl := zae h
   refine zaq ⟨(x20, (iw (x16 + 1))), rfl, ?_⟩
   exact ⟨ob19, cap19, sp19, cs19, x20.length, _, (zeu ⟨rfl, rfl, rfl, rfl, rfl, rfl, rfl, trivial⟩), hL29, (zan (zan (zan (zan (zan K20 K21) K22) K29) K30) K31), f34, rfl, hc22, trivial⟩
  replace h := ite_f hc17 h
  refine zda rfl ?_
  obtain rfl := zae h
  obtain rfl := hd11 _ rfl
  replace h := g11
  try dsimp only at h
  refine zaq ?_
  exact ⟨out13, ob15, cap15, sp15, cs15, out13.length, _, rfl, (zeu ⟨rfl, rfl, rfl, trivial⟩), hL18, K20, hE30, rfl, hc16, trivial⟩
 rintro _ w53 ⟨out12, ob14, cap14, sp14, cs14, ln12, u, rfl, rfl, hL30, K32, hE54, rfl, hc23, -⟩
 replace h := g11
 try dsimp only at h
 refine zal (zal (zah rfl (zag (zak (q := 3) zay rfl ti25 rfl rfl rfl ?_))))
 refine zag (zas (v := c_v3) zco rfl rfl (hL30.at 0 rfl rfl) rfl ?_)
 have f35 := (((c_h3.mono (K4 S)).mono (K19 S)).mono (K32 S))
 refine zag (zbg (v := c_v3) zco rfl f35 ?_)
 refine zag (zai (v := (zI 0)) rfl (zap ?_))
 obtain ⟨s12, hl12, g12⟩ := zes h
 refine zce (fun e w' => ∃ (out14 : (List Constraint)) (ob20 : Option Nat) (cap20 : Nat) (sp20 : List Value) (cs20 : List Value) (ln14 : Nat) (u : Env), out14 = s12 ∧ e = upds [(0, l_v), (4, (zaj (some ⟨b1, 0, none⟩))), (8, (osv ob20 0 ln14 cap20))] u ∧ vL w w' [some b1, ob20] [zac [c_v, c_v1, c_v2, c_v3, c_v4, c_v5, c_v6], zac ([] ++ (cs20 ++ sp20))] ∧ Keep w.heap.size [some b1, ob14] w53 [some b1, ob20] w' ∧ Els rConstraint (vH w None [some b1, ob20] w') cs20 out14 ∧ ln14 = List.length out14 ∧ (cs20 ++ sp20).length = cap20 * rConstraint.sz ∧ True) ?_ ?_
 ·
  refine zbh ?_
  refine zcr hl12 (fun (ss : ((List Constraint) × Int)) (e : Env) (w' : World) => match ss with | (out15, x21) => ∃ (ob21 : Option Nat) (cap21 : Nat) (sp21 : List Value) (cs21 : List Value) (ln15 : Nat) (u : Env), e = upds [(0, l_v), (4, (zaj (some ⟨b1, 0, none⟩))), (8, (osv ob21 0 ln15 cap21)), (84, c_v3), (85, (zI (c.Ints.length : Int))), (86, (zI x21))] u ∧ vL w w' [some b1, ob21] [zac [c_v, c_v1, c_v2, c_v3, c_v4, c_v5, c_v6], zac ([] ++ (cs21 ++ sp21))] ∧ Keep w.heap.size [some b1, ob14] w53 [some b1, ob21] w' ∧ Els rConstraint (vH w None [some b1, ob21] w') cs21 out15 ∧ ln15 = List.length out15 ∧ (cs21 ++ sp21).length = cap21 * rConstraint.sz ∧ True) ⟨ob14, cap14, sp14, cs14, out12.length, _, (zeu ⟨rfl, rfl, rfl, rfl, rfl, rfl, trivial⟩), hL30, zck, hE54, rfl, hc23, trivial⟩ ?_
  rintro ⟨out15, x21⟩ oo _ w54 ⟨ob21, cap21, sp21, cs21, ln15, u, rfl, hL31, K33, hE55, rfl, hc24, -⟩ h hd12
  rw [vInts_b3] at h
  refine zal (zah rfl (zag (zcp (x := x21) (y := (c.Ints.length : Int)) ((x21 : Int) < (c.Ints.length : Int)) rfl rfl zbd ?_)))
  refine zap (zal ?_)
  refine zbf ((x21 : Int) < (c.Ints.length : Int)) rfl (fun hc25 => ?_) (fun hc25 => ?_)
  ·
   replace h := ite_t hc25 h
   refine zbk (zal (zbh (zal (zah rfl ?_))))
   obtain ⟨x22, n16, q63, q64, -, h⟩ := zix h
   have f36 := (f35.mono (K33 S))
   obtain ⟨b17, o16, c16, vs16, q65, q66, f37, q67⟩ := zcw f36 q64
   obtain ⟨v11, rfl, k11, -⟩ := rConstraint_open q67
   refine zag (zbj (r := rConstraint) (v := c_v3) (n := n16) (m := (o16 + n16 * rConstraint.sz)) zco ti92 rfl q65 rfl q63 q64 rfl ?_)
   refine zag (zds (vs := [(zI x22.Linear.Const), v11, (zab x22.Equal)]) zdj rfl ti92 rfl rfl zex f37 ?_)
   refine zag (zcj (cs := [(zI 0), zN, zF]) ti92 rfl hL31 ?_)
   intro b18 w55 hL32 hS15
   have K34 := ks w hS15
   have f38 := (k11.mono (K34 S))
   refine zcq (zbq (vs := [(zI x22.Linear.Const), v11, (zab x22.Equal)]) ti92 rfl rfl rfl rfl (zet rfl (zet f38.one (zet rfl zew))) hL32 0 rfl rfl (zaf rfl) ?_)
   intro w56 (hL33 : vL w w56 [some b18, some b1, ob21] [zac [(zI x22.Linear.Const), v11, (zab x22.Equal)], zac [c_v, c_v1, c_v2, c_v3, c_v4, c_v5, c_v6], zac ([] ++ (cs21 ++ sp21))]) hS16
   have K35 := ks w hS16
   refine zap (zal (zah rfl (zag (zak (q := 0) zdj rfl ti90 rfl rfl rfl ?_))))
   refine zag (zak (q := 1) zca rfl ti88 rfl rfl rfl ?_)
   refine zag (zas (v := v11) zbp rfl rfl (hL33.at 0 rfl rfl) rfl ?_)
   obtain ⟨r14, q68, h⟩ := zes h
   have f39 := (f38.mono (K35 S))
   refine zag (zbc en42 rfl rfl (cloneCoef_w N x22.Linear.Coefs v11 _ Any (f39.mono vw_any) r14 q68) ?_)
   rintro _ w57 hE56 ⟨ob22, cap22, cs22, sp22, rfl, hN15, hE57, hc26, -⟩
   replace hE57 := hE57.mono (zch (S := None) hL33 [ob22])
   have hp18 := hL33.adoptL hE56 hN15
   have hL34 := hp18.1
   have K36 := ks w hp18.2
   refine zag (zak (q := 0) zdj rfl ti90 rfl rfl rfl ?_)
   refine zag (zak (q := 1) zca rfl ti88 rfl rfl rfl ?_)
   refine zcq (zbq (vs := [(zO ob22 r14 cap22)]) ti88 rfl rfl (zfa (zez _ _ _ _)) rfl (zet (zez _ _ _ _) zew) hL34 1 rfl rfl (zaf rfl) ?_)
   intro w58 (hL35 : vL w w58 [ob22, some b18, some b1, ob21] [zac ([] ++ (cs22 ++ sp22)), zac [(zI x22.Linear.Const), (zO ob22 r14 cap22), (zab x22.Equal)], zac [c_v, c_v1, c_v2, c_v3, c_v4, c_v5, c_v6], zac ([] ++ (cs21 ++ sp21))]) hS17
   have K37 := ks w hS17
   refine zap (zah rfl (zag (zai (v := (zO ob21 out15 cap21)) rfl ?_)))
   refine zag (zbr (vs := [(zI x22.Linear.Const), (zO ob22 r14 cap22), (zab x22.Equal)]) zdj rfl ti92 rfl (hL35.at 1 rfl rfl) rfl rfl ?_)
   have f40 := (hE57.mono (K37 None))
   have f41 := hL35.freezeRow 0 rfl rfl f40 rfl rfl rfl hc26
   have hp19 := hL35.pick [1, 2, 3] rfl rfl rfl
   have hL36 : vL w w58 [some b18, some b1, ob21] [zac [(zI x22.Linear.Const), (zO ob22 r14 cap22), (zab x22.Equal)], zac [c_v, c_v1, c_v2, c_v3, c_v4, c_v5, c_v6], zac ([] ++ (cs21 ++ sp21))] := hp19.1
   have K38 := ks w hp19.2
   have hE58 : Els rConstraint (vH w None [some b18, some b1, ob21] w58) [(zI x22.Linear.Const), (zO ob22 r14 cap22), (zab x22.Equal)] [(Constraint.mk (Linear.mk x22.Linear.Const r14) x22.Equal)] := (zdg (a := [(zI x22.Linear.Const), (zO ob22 r14 cap22), (zab x22.Equal)]) (rConstraint_close ⟨(zO ob22 r14 cap22), rfl, f41, trivial⟩) zcx)
   refine zag (zcv (r := rConstraint) (vs := [(zar #[(zI x22.Linear.Const), (zO ob22 r14 cap22), (zab x22.Equal)])]) (css := [[(zI x22.Linear.Const), (zO ob22 r14 cap22), (zab x22.Equal)]]) (xs := [(Constraint.mk (Linear.mk x22.Linear.Const r14) x22.Equal)]) zco ti92 (zaf rfl) rfl rfl ⟨rfl, rfl, trivial⟩ (zaf rfl) hE58 rfl hL36 ?_)
   intro b19 w59 hc27 hL37 hS18
   have K39 := ks w hS18
   obtain ⟨x23, q69, h⟩ := zes h
   obtain ⟨q70, q71, q72⟩ := zfb q69
   have f42 := (hE58.mono (K39 None))
   have f43 := ((((((hE55.mono (K34 None)).mono (K35 None)).mono (K36 None)).mono (K37 None)).mono (K38 None)).mono (K39 None))
   refine zag (zdo (r := rConstraint) (H := (vH w None [some b19, some b18, some b1, ob21] w59)) (cs := cs21) (sp := sp21) (xs := out15) (ys := [(Constraint.mk (Linear.mk x22.Linear.Const r14) x22.Equal)]) (Y := x23) (n := out15.length) (cap := cap21) (i := 3) zco ti92 rfl rfl rfl rfl hL37 rfl rfl f43 rfl hc24 (zeg (pre := []) (o := 0) (n := 1) (cap := 1) (hL37.at 0 rfl rfl) f42 rfl rfl rfl) f42 q70 q71 q72 ?_)
   intro ob23 cap23 sp23 cs23 w60 hE59 hc28 (hL38 : vL w w60 [some b19, some b18, some b1, ob23] [zac ([] ++ ([(zI x22.Linear.Const), (zO ob22 r14 cap22), (zab x22.Equal)] ++ [])), zac [(zI x22.Linear.Const), (zO ob22 r14 cap22), (zab x22.Equal)], zac [c_v, c_v1, c_v2, c_v3, c_v4, c_v5, c_v6], zac ([] ++ (cs23 ++ sp23))]) hS19
   have K40 := ks w hS19
   refine zag (zam (v := (zO ob23 x23 cap23)) rfl ?_)
   refine zap (zbu (zah rfl (zag (zcl (x := x21) (y := 1) (z := (iw (x21 + 1))) rfl rfl rfl ?_))))
   refine zag (zai (v := (zI (iw (x21 + 1)))) rfl (zap ?_))
   have hp20 := hL38.pick [2, 3] rfl rfl rfl
   have hL39 : vL w w60 [some b1, ob23] [zac [c_v, c_v1, c_v2, c_v3, c_v4, c_v5, c_v6], zac ([] ++ (cs23 ++ sp23))] := hp20.1
   have K41 := ks w hp20.2
   have f44 := ((hE59.mono (K40 None)).mono (K41 None))
   obtain rfl := zae h
   refine zaq ⟨(x23, (iw (x21 + 1))), rfl, ?_⟩
   exact ⟨ob23, cap23, sp23, cs23, x23.length, _, (zeu ⟨rfl, rfl, rfl, rfl, rfl, rfl, trivial⟩), hL39, (zan (zan (zan (zan (zan (zan (zan (zan K33 K34) K35) K36) K37) K38) K39) K40) K41), f44, rfl, hc28, trivial⟩
  replace h := ite_f hc25 h
  refine zda rfl ?_
  obtain rfl := zae h
  obtain rfl := hd12 _ rfl
  replace h := g12
  try dsimp only at h
  refine zaq ?_
  exact ⟨out15, ob21, cap21, sp21, cs21, out15.length, _, rfl, (zeu ⟨rfl, rfl, rfl, trivial⟩), hL31, K33, hE55, rfl, hc24, trivial⟩
 rintro _ w61 ⟨out14, ob20, cap20, sp20, cs20, ln14, u, rfl, rfl, hL40, K42, hE60, rfl, hc29, -⟩
 replace h := g12
 try dsimp only at h
 refine zal (zah rfl (zag (zai (v := l_v) rfl ?_)))
 have f45 := ((((l_h.mono (K4 S)).mono (K19 S)).mono (K32 S)).mono (K42 S))
 refine zag (zbg (v := l_v) zbt rfl f45 ?_)
 refine zag (zak (q := 2) zay rfl ti24 rfl rfl rfl ?_)
 refine zag (zas (v := c_v2) zdm rfl rfl (hL40.at 0 rfl rfl) rfl ?_)
 have f46 := ((f22.mono (K32 S)).mono (K42 S))
 refine zag (zbg (v := c_v2) zdm rfl f46 ?_)
 refine zag (zcl (x := (l.length : Int)) (y := (c.Auxiliary.length : Int)) (z := (iw ((l.length : Int) + (c.Auxiliary.length : Int)))) rfl rfl rfl ?_)
 refine zag (zai (v := (zO ob20 out14 cap20)) rfl ?_)
 refine zag (zam (v := (zI (iw ((l.length : Int) + (c.Auxiliary.length : Int))))) rfl ?_)
 refine zag (zam (v := (zO ob20 out14 cap20)) rfl ?_)
 refine zap (zbl ?_)
 obtain rfl := zae h
 refine ⟨[(zI (iw ((l.length : Int) + (c.Auxiliary.length : Int)))), (zO ob20 out14 cap20)], ⟨rfl, rfl, trivial⟩, ⟨_, rfl, hL40.done, ?_⟩⟩
 exact ⟨ob20, cap20, cs20, sp20, rfl, (hL40.newOwn [1] rfl rfl rfl), (hE60.mono (zdx [1] rfl)), hc29, trivial⟩
theorem vTexts_w (N : Nat) (l : (List RVar)) (c : RClause) (ranges : (List Arr2Int)) (l_v : Value) (c_v : Value) (c_v1 : Value) (c_v2 : Value) (c_v3 : Value) (c_v4 : Value) (c_v5 : Value) (c_v6 : Value) (ranges_v : Value) (w : World) (S : Nat → Prop) (l_h : Rs rRVar (vH w S [] w) l_v l) (c_h : Rs rI (vH w S [] w) c_v c.Null) (c_h1 : Rs rI (vH w S [] w) c_v1 c.NotNull) (c_h2 : Rs rRAux (vH w S [] w) c_v2 c.Auxiliary) (c_h3 : Rs rConstraint (vH w S [] w) c_v3 c.Ints) (c_h4 : Rs rTTest (vH w S [] w) c_v4 c.Tests) (c_h5 : Rs rArr2Int (vH w S [] w) c_v5 c.Same) (c_h6 : Rs rArr2Int (vH w S [] w) c_v6 c.Different) (ranges_h : Rs rArr2Int (vH w S [] w) ranges_v ranges) (r : (TProb × (List Int))) (h : vTexts N l c ranges = some r) :
  Calls Tryz.prog 15 #[l_v, (zar #[c_v, c_v1, c_v2, c_v3, c_v4, c_v5, c_v6]), ranges_v] w (Ret w (fun v w' => ∃ (v0_0 : Value) (v0_1 : Value) (v0_2 : Value) (v0_3 : Value) (v0_4 : Value) (ob1 : Option Nat) (cap1 : Nat) (cs1 : List Value) (sp1 : List Value), .tuple #[(zar #[v0_0, v0_1, v0_2, v0_3, v0_4]), (zO ob1 r.2 cap1)] = v ∧ NewOwn w w' [ob1] [zac ([] ++ (cs1 ++ sp1))] ∧ Rs rI (vH w None [ob1] w') v0_0 r.1.Min ∧ Rs rI (vH w None [ob1] w') v0_1 r.1.Max ∧ Rs rTTest (vH w None [ob1] w') v0_2 r.1.Tests ∧ Rs rArr2Int (vH w None [ob1] w') v0_3 r.1.Same ∧ Rs rArr2Int (vH w None [ob1] w') v0_4 r.1.Different ∧ Els rI (vH w None [ob1] w') cs1 r.2 ∧ (cs1 ++ sp1).length = cap1 * rI.sz ∧ True)) := by
 unfold vTexts at h
 have hL : vL w w [] [] := Go.X.Loc.begin0 w
 refine calls_of (l := [l_v, (zar #[c_v, c_v1, c_v2, c_v3, c_v4, c_v5, c_v6]), ranges_v]) (rl := [.cell 6 41, .tmp 7]) (n := 126) Tryz.func15 rfl rfl rfl (zaf rfl) ?_
 refine zal (zah rfl (zag (zdu (cs := [c_v, c_v1, c_v2, c_v3, c_v4, c_v5, c_v6]) rfl rfl hL ?_)))
 intro b1 w2 hL3 hS5
 have K4 := ks w hS5
 refine zag (zcj (cs := [zN, zN, zN, zN, zN]) ti41 rfl hL3 ?_)
 intro b6 w7 hL8 hS10
 have K9 := ks w hS10
 refine zag (zam (v := zN) rfl ?_)
 refine zap (zal (zah rfl (zag (zcj (cs := [zN, zN, zN, zN, zN]) ti41 rfl hL8 ?_))))
 intro b10 w10 hL10 hS11
 have K10 := ks w hS11
 refine zap (zal (zah rfl (zag (zam (v := zN) rfl ?_))))
 refine zap (zal (zah rfl (zag (OpY.makeMap (kf := (fun x : Int => zI x)) (vf := (fun x : Int => zI x)) hL10 ?_))))
 intro b11 w11 hL11 hS12
 have K11 := ks w hS12
 refine zag (zam (v := (Value.map (some b11))) rfl ?_)
 refine zap (zal (zal (zah rfl (zag (zak (q := 1) zay rfl ti23 rfl rfl rfl ?_)))))
 refine zag (zas (v := c_v1) zaw rfl rfl (hL11.at 3 rfl rfl) rfl ?_)
 have f10 := ((((c_h1.mono (K4 S)).mono (K9 S)).mono (K10 S)).mono (K11 S))
 refine zag (zbg (v := c_v1) zaw rfl f10 ?_)
 refine zag (zai (v := (zI 0)) rfl (zap ?_))
 obtain ⟨s10, hl10, g10⟩ := zes h
 refine zce (fun e w' => ∃ (min10 : (List Int)) (max10 : (List Int)) (numbers10 : (List Int)) (place10 : (List (Int × Int))) (ob10 : Option Nat) (cap10 : Nat) (sp10 : List Value) (cs10 : List Value) (ln10 : Nat) (ob11 : Option Nat) (cap11 : Nat) (sp11 : List Value) (cs11 : List Value) (ln11 : Nat) (ob12 : Option Nat) (cap12 : Nat) (sp12 : List Value) (cs12 : List Value) (ln12 : Nat) (u : Env), (min10, max10, numbers10, place10) = s10 ∧ e = upds [(4, (zaj (some ⟨b1, 0, none⟩))), (6, (zaj (some ⟨b6, 0, none⟩))), (8, (zaj (some ⟨b10, 0, none⟩))), (9, (osv ob12 0 ln12 cap12)), (10, (Value.map (some b11)))] u ∧ vL w w' [some b1, some b6, some b10, ob10, ob11, ob12, some b11] [zac [c_v, c_v1, c_v2, c_v3, c_v4, c_v5, c_v6], zac [zN, zN, zN, zN, zN], zac [(osv ob10 0 ln10 cap10), (osv ob11 0 ln11 cap11), zN, zN, zN], zac ([] ++ (cs10 ++ sp10)), zac ([] ++ (cs11 ++ sp11)), zac ([] ++ (cs12 ++ sp12)), (mcont (fun x : Int => zI x) (fun x : Int => zI x) place10)] ∧ Keep w.heap.size [some b11, some b10, some b6, some b1] w11 [some b1, some b6, some b10, ob10, ob11, ob12, some b11] w' ∧ Els rI (vH w None [some b1, some b6, some b10, ob10, ob11, ob12, some b11] w') cs10 min10 ∧ ln10 = List.length min10 ∧ (cs10 ++ sp10).length = cap10 * rI.sz ∧ Els rI (vH w None [some b1, some b6, some b10, ob10, ob11, ob12, some b11] w') cs11 max10 ∧ ln11 = List.length max10 ∧ (cs11 ++ sp11).length = cap11 * rI.sz ∧ Els rI (vH w None [some b1, some b6, some b10, ob10, ob11, ob12, some b11] w') cs12 numbers10 ∧ ln12 = List.length numbers10 ∧ (cs12 ++ sp12).length = cap12 * rI.sz ∧ True) ?_ ?_
 ·
  refine zbh ?_
  have hp10 := hL11.addNil
  have hL12 : vL w w11 [none, some b11, some b10, some b6, some b1] [zac ([] ++ ([] ++ [])), (mcont (fun x : Int => zI x) (fun x : Int => zI x) ([] : (List (Int × Int)))), zac [zN, zN, zN, zN, zN], zac [zN, zN, zN, zN, zN], zac [c_v, c_v1, c_v2, c_v3, c_v4, c_v5, c_v6]] := hp10.1
  have K12 := ks w hp10.2
  have hp11 := hL12.addNil
  have hL13 : vL w w11 [none, none, some b11, some b10, some b6, some b1] [zac ([] ++ ([] ++ [])), zac ([] ++ ([] ++ [])), (mcont (fun x : Int => zI x) (fun x : Int => zI x) ([] : (List (Int × Int)))), zac [zN, zN, zN, zN, zN], zac [zN, zN, zN, zN, zN], zac [c_v, c_v1, c_v2, c_v3, c_v4, c_v5, c_v6]] := hp11.1
  have K13 := ks w hp11.2
  have hp12 := hL13.addNil
  have hL14 : vL w w11 [none, none, none, some b11, some b10, some b6, some b1] [zac ([] ++ ([] ++ [])), zac ([] ++ ([] ++ [])), zac ([] ++ ([] ++ [])), (mcont (fun x : Int => zI x) (fun x : Int => zI x) ([] : (List (Int × Int)))), zac [(osv none 0 (List.length ([] : (List Int))) 0), (osv none 0 (List.length ([] : (List Int))) 0), zN, zN, zN], zac [zN, zN, zN, zN, zN], zac [c_v, c_v1, c_v2, c_v3, c_v4, c_v5, c_v6]] := hp12.1
  have K14 := ks w hp12.2
  have hp13 := hL14.pick [6, 5, 4, 2, 1, 0, 3] rfl rfl rfl
  have hL15 : vL w w11 [some b1, some b6, some b10, none, none, none, some b11] [zac [c_v, c_v1, c_v2, c_v3, c_v4, c_v5, c_v6], zac [zN, zN, zN, zN, zN], zac [(osv none 0 (List.length ([] : (List Int))) 0), (osv none 0 (List.length ([] : (List Int))) 0), zN, zN, zN], zac ([] ++ ([] ++ [])), zac ([] ++ ([] ++ [])), zac ([] ++ ([] ++ [])), (mcont (fun x : Int => zI x) (fun x : Int => zI x) ([] : (List (Int × Int))))] := hp13.1
  have K15 := ks w hp13.2
  have f11 := ((((zcx (r := rI)).mono (K13 None)).mono (K14 None)).mono (K15 None))
  have f12 := (((zcx (r := rI)).mono (K14 None)).mono (K15 None))
  have f13 := ((zcx (r := rI)).mono (K15 None))
  refine zcr hl10 (fun (ss : ((List Int) × (List Int) × (List Int) × (List (Int × Int)) × Int)) (e : Env) (w' : World) => match ss with | (min11, max11, numbers11, place11, x10) => ∃ (ob13 : Option Nat) (cap13 : Nat) (sp13 : List Value) (cs13 : List Value) (ln13 : Nat) (ob14 : Option Nat) (cap14 : Nat) (sp14 : List Value) (cs14 : List Value) (ln14 : Nat) (ob15 : Option Nat) (cap15 : Nat) (sp15 : List Value) (cs15 : List Value) (ln15 : Nat) (u : Env), e = upds [(0, l_v), (2, ranges_v), (4, (zaj (some ⟨b1, 0, none⟩))), (6, (zaj (some ⟨b6, 0, none⟩))), (8, (zaj (some ⟨b10, 0, none⟩))), (9, (osv ob15 0 ln15 cap15)), (10, (Value.map (some b11))), (21, c_v1), (22, (zI (c.NotNull.length : Int))), (23, (zI x10))] u ∧ vL w w' [some b1, some b6, some b10, ob13, ob14, ob15, some b11] [zac [c_v, c_v1, c_v2, c_v3, c_v4, c_v5, c_v6], zac [zN, zN, zN, zN, zN], zac [(osv ob13 0 ln13 cap13), (osv ob14 0 ln14 cap14), zN, zN, zN], zac ([] ++ (cs13 ++ sp13)), zac ([] ++ (cs14 ++ sp14)), zac ([] ++ (cs15 ++ sp15)), (mcont (fun x : Int => zI x) (fun x : Int => zI x) place11)] ∧ Keep w.heap.size [some b11, some b10, some b6, some b1] w11 [some b1, some b6, some b10, ob13, ob14, ob15, some b11] w' ∧ Els rI (vH w None [some b1, some b6, some b10, ob13, ob14, ob15, some b11] w') cs13 min11 ∧ ln13 = List.length min11 ∧ (cs13 ++ sp13).length = cap13 * rI.sz ∧ Els rI (vH w None [some b1, some b6, some b10, ob13, ob14, ob15, some b11] w') cs14 max11 ∧ ln14 = List.length max11 ∧ (cs14 ++ sp14).length = cap14 * rI.sz ∧ Els rI (vH w None [some b1, some b6, some b10, ob13, ob14, ob15, some b11] w') cs15 numbers11 ∧ ln15 = List.length numbers11 ∧ (cs15 ++ sp15).length = cap15 * rI.sz ∧ True) ⟨none, 0, [], [], (List.length ([] : (List Int))), none, 0, [], [], (List.length ([] : (List Int))), none, 0, [], [], (List.length ([] : (List Int))), _, (zeu ⟨rfl, rfl, rfl, rfl, rfl, rfl, rfl, rfl, rfl, rfl, trivial⟩), hL15, (zan (zan (zan K12 K13) K14) K15), f11, rfl, (show ([] ++ [] : List Value).length = 0 * rI.sz by simp), f12, rfl, (show ([] ++ [] : List Value).length = 0 * rI.sz by simp), f13, rfl, (show ([] ++ [] : List Value).length = 0 * rI.sz by simp), trivial⟩ ?_
  rintro ⟨min11, max11, numbers11, place11, x10⟩ oo _ w12 ⟨ob13, cap13, sp13, cs13, ln13, ob14, cap14, sp14, cs14, ln14, ob15, cap15, sp15, cs15, ln15, u, rfl, hL16, K16, hE10, rfl, hc10, hE11, rfl, hc11, hE12, rfl, hc12, -⟩ h hd10
  rw [vTexts_b1] at h
  refine zal (zah rfl (zag (zcp (x := x10) (y := (c.NotNull.length : Int)) ((x10 : Int) < (c.NotNull.length : Int)) rfl rfl zbd ?_)))
  refine zap (zal ?_)
  refine zbf ((x10 : Int) < (c.NotNull.length : Int)) rfl (fun hc13 => ?_) (fun hc13 => ?_)
  ·
   replace h := ite_t hc13 h
   refine zbk (zal (zbh (zal (zah rfl ?_))))
   obtain ⟨x11, n10, q11, q12, -, h⟩ := zix h
   have f14 := (f10.mono (K16 S))
   obtain ⟨b12, o10, c10, vs10, q13, q14, f15, q15⟩ := zcw f14 q12
   obtain rfl := q15
   refine zag (zbj (r := rI) (v := c_v1) (n := n10) (m := (o10 + n10 * rI.sz)) zaw ti3 rfl q13 rfl q11 q12 rfl ?_)
   refine zag (zby (v := (zI x11)) zat rfl rfl zex f15 ?_)
   refine zag (zam (v := (zI x11)) rfl ?_)
   refine zap (zal (zah rfl (zag (zai (v := l_v) rfl ?_))))
   refine zag (zai (v := (zI x11)) rfl ?_)
   obtain ⟨x12, n11, q17, q18, -, h⟩ := zix h
   have f16 := (((((l_h.mono (K4 S)).mono (K9 S)).mono (K10 S)).mono (K11 S)).mono (K16 S))
   obtain ⟨b13, o11, c11, vs11, q19, q20, f17, q21⟩ := zcw f16 q18
   obtain ⟨rfl, -⟩ := rRVar_open q21
   refine zag (zbj (r := rRVar) (v := l_v) (n := n11) (m := (o11 + n11 * rRVar.sz)) zbt ti83 rfl q19 rfl q17 q18 rfl ?_)
   have f18 := (f17.part (us := [(zI x12.Ty)]) 0 rfl)
   refine zag (zak (q := (o11 + n11 * rRVar.sz) + 0) zcc rfl ti3 rfl rfl rfl ?_)
   refine zag (zby (v := (zI x12.Ty)) zat rfl rfl zex f18 ?_)
   refine zag (zeb (x := x12.Ty) (y := 2) ((x12.Ty : Int) = 2) rfl rfl zbd (zap ?_))
   refine zbf ((x12.Ty : Int) = 2) rfl (fun hc14 => ?_) (fun hc14 => ?_)
   ·
    replace h := ite_t hc14 h
    refine zal (zah rfl (zag (zai (v := (Value.map (some b11))) rfl ?_)))
    refine zag (zai (v := (zI x11)) rfl ?_)
    refine zag (zai (v := (zO ob15 numbers11 cap15)) rfl ?_)
    refine zag (OpY.lenRow (pre := []) (r := rI) (xs := numbers11) zaw rfl (hL16.at 5 rfl rfl) hE12 rfl rfl ?_)
    refine zcq (OpY.mapPut (kf := (fun x : Int => zI x)) (vf := (fun x : Int => zI x)) (m := place11) (x := x11) (y := (numbers11.length : Int)) mky_3 Tryz.underlying110 rfl rfl rfl hL16 6 rfl rfl ?_)
    intro w13 (hL17 : vL w w13 [some b1, some b6, some b10, ob13, ob14, ob15, some b11] [zac [c_v, c_v1, c_v2, c_v3, c_v4, c_v5, c_v6], zac [zN, zN, zN, zN, zN], zac [(zO ob13 min11 cap13), (zO ob14 max11 cap14), zN, zN, zN], zac ([] ++ (cs13 ++ sp13)), zac ([] ++ (cs14 ++ sp14)), zac ([] ++ (cs15 ++ sp15)), (mcont (fun x : Int => zI x) (fun x : Int => zI x) (mput place11 x11 (numbers11.length : Int)))]) hS13
    have K17 := ks w hS13
    refine zap (zal (zah rfl (zag (zai (v := (zO ob15 numbers11 cap15)) rfl ?_))))
    refine zag (zai (v := (zI x11)) rfl ?_)
    have hE13 : Els rI (vH w None [some b1, some b6, some b10, ob13, ob14, ob15, some b11] w13) [(zI x11)] [x11] := (zdg (a := [(zI x11)]) rfl zcx)
    refine zag (zcv (r := rI) (vs := [(zI x11)]) (css := [[(zI x11)]]) (xs := [x11]) zaw ti3 (zaf rfl) rfl rfl ⟨rfl, rfl, trivial⟩ (zaf rfl) hE13 rfl hL17 ?_)
    intro b14 w14 hc15 hL18 hS14
    have K18 := ks w hS14
    obtain ⟨x13, q22, h⟩ := zes h
    obtain ⟨q23, q24, q25⟩ := zfb q22
    have f19 := (hE13.mono (K18 None))
    have f20 := ((hE12.mono (K17 None)).mono (K18 None))
    refine zag (zdo (r := rI) (H := (vH w None [some b14, some b1, some b6, some b10, ob13, ob14, ob15, some b11] w14)) (cs := cs15) (sp := sp15) (xs := numbers11) (ys := [x11]) (Y := x13) (n := numbers11.length) (cap := cap15) (i := 6) zaw ti3 rfl rfl rfl rfl hL18 rfl rfl f20 rfl hc12 (zeg (pre := []) (o := 0) (n := 1) (cap := 1) (hL18.at 0 rfl rfl) f19 rfl rfl rfl) (zef (fun _ _ _ _ h => h) f19) q23 q24 q25 ?_)
    intro ob16 cap16 sp16 cs16 w15 hE14 hc16 (hL19 : vL w w15 [some b14, some b1, some b6, some b10, ob13, ob14, ob16, some b11] [zac ([] ++ ([(zI x11)] ++ [])), zac [c_v, c_v1, c_v2, c_v3, c_v4, c_v5, c_v6], zac [zN, zN, zN, zN, zN], zac [(zO ob13 min11 cap13), (zO ob14 max11 cap14), zN, zN, zN], zac ([] ++ (cs13 ++ sp13)), zac ([] ++ (cs14 ++ sp14)), zac ([] ++ (cs16 ++ sp16)), (mcont (fun x : Int => zI x) (fun x : Int => zI x) (mput place11 x11 (numbers11.length : Int)))]) hS15
    have K19 := ks w hS15
    refine zag (zam (v := (zO ob16 x13 cap16)) rfl ?_)
    refine zap (zal ?_)
    obtain ⟨x14, n12, q27, q28, -, h⟩ := zix h
    have f21 := ((((((((ranges_h.mono (K4 S)).mono (K9 S)).mono (K10 S)).mono (K11 S)).mono (K16 S)).mono (K17 S)).mono (K18 S)).mono (K19 S))
    obtain ⟨b15, o12, c12, vs12, q29, q30, f22, q31⟩ := zcw f21 q28
    obtain ⟨rfl, -⟩ := rArr2Int_open q31
    have f23 := (f22.part (us := [(zI x14.e0)]) 0 rfl)
    refine zcm 8 [] [] (fun W1 => [.det (zaj (some ⟨b10, 0, none⟩)), .det (zO ob13 min11 cap13), .det ranges_v, .det (zI x11), .det (zaj (some ⟨b15, (o12 + n12 * rArr2Int.sz), none⟩)), .det (zaj (some ⟨b15, (o12 + n12 * rArr2Int.sz) + 0, none⟩)), .det (zI x14.e0), .rel (fun v Z w' => ∃ b16 cs17, (osv (some b16) 0 1 1) = v ∧ OwnC w' (some b16) (zac ([] ++ (cs17 ++ []))) ∧ Els rI (vZ W1 w None [some b14, some b1, some b6, some b10, ob13, ob14, ob16, some b11] Z w') cs17 [x14.e0] ∧ (cs17 ++ [] : List Value).length = 1 * rI.sz ∧ True) footV]) mixed rfl rfl rfl (fun _ => rfl) (fun _ => rfl) ?_ ?_
    ·
     intro W1 _
     exact ⟨fun v Z Z' w w' hΦ hz _ _ hs => by obtain ⟨b16, cs17, rfl, hO10, hE15, hc17, -⟩ := hΦ; exact ⟨b16, cs17, rfl, (hO10.stay (fun b hb => by cases hb; exact zbi) hs), (hE15.mono (zdt hz hs)), hc17, trivial⟩, trivial⟩
    intro w16 hE16
    obtain ⟨hL20, K20⟩ := zl hL19 hE16
    refine zao (fun _ _ => zau (zak zcu rfl ti23 rfl rfl rfl (er rfl))) ?_
    refine zao (fun _ hE18 => zau (zas zaw rfl rfl ((hL20.ext hE18).at 3 rfl rfl) rfl (er rfl))) ?_
    refine zao (fun _ _ => zau (zai rfl (er rfl))) ?_
    refine zao (fun _ _ => zau (zai rfl (er rfl))) ?_
    refine zao (fun _ _ => zau (zbj (r := rArr2Int) (v := ranges_v) (n := n12) (m := (o12 + n12 * rArr2Int.sz)) zaz ti54 rfl q29 rfl q27 q28 rfl (er rfl))) ?_
    refine zao (fun _ _ => zau (zcg (i := 0) (q := (o12 + n12 * rArr2Int.sz) + 0) zbv ti3 rfl rfl (by decide) rfl (er rfl))) ?_
    refine zao (fun _ hE23 => zau (zby zat rfl rfl zex (zcd ((ke hL20 hE23) S) (zcd (K20 S) f23)) (er rfl))) ?_
    refine zdw ?_ ?_
    ·
     rintro w24 Z26 hE24 hZ17 ⟨-⟩
     have hE25 : Els rI (vZ w16 w None [some b14, some b1, some b6, some b10, ob13, ob14, ob16, some b11] Z26 w24) [(zI x14.e0)] [x14.e0] := (zdg (a := [(zI x14.e0)]) rfl zcx)
     refine zau (zcv (r := rI) (vs := [(zI x14.e0)]) (css := [[(zI x14.e0)]]) (xs := [x14.e0]) zaw ti3 (zaf rfl) rfl rfl ⟨rfl, rfl, trivial⟩ (zaf rfl) hE25 rfl (Go.X.Loc.begin0 w24) ?_)
     intro b16 w25 hc18 hL22 hS16
     have hN10 : NewOwn w24 w25 [some b16] [zac ([] ++ ([(zI x14.e0)] ++ []))] := hL22.newOwn [0] rfl rfl rfl
     exact zdp hL22.done hZ17 hN10 (fun _ h => h) ⟨b16, [(zI x14.e0)], rfl, hN10.2.2.1, (hE25.mono (Zv.grow hL22.done)), hc18, trivial⟩
    intro z7
    refine zcy ?_
    rintro w26 Z27 hE26 hZ18 ⟨⟨⟨b16, cs17, rfl, hO10, hE15, hc17, -⟩, hB7⟩, -⟩ ap10
    have hB10 : ∀ b, some b ∈ ([some b16] : List (Option Nat)) → w16.heap.size ≤ b ∧ ¬ Z27 b := by
     intro b hb
     rcases List.mem_cons.1 hb with hb' | hb
     ·
      have := hB7 b (by rw [hb']; exact zbi); exact ⟨this.1, this.2.2⟩
     cases hb
    replace hE15 := hE15.mono (zed hL20 hZ18 hB10)
    have hN11 : NewOwn w16 w26 [some b16] [zac ([] ++ (cs17 ++ []))] := (zdv zde hO10 (fun b hb => (hB10 b (by rw [← hb]; simp)).1) (fun b _ hb => by cases hb))
    have hp14 := hL20.adoptL hE26 hN11
    have hL23 := hp14.1
    have K22 := ks w hp14.2
    obtain ⟨x15, q32, h⟩ := zes h
    obtain ⟨q33, q34, q35⟩ := zfb q32
    have f24 := (((((hE10.mono (K17 None)).mono (K18 None)).mono (K19 None)).mono (K20 None)).mono (K22 None))
    refine zag (zdo (r := rI) (H := (vH w None [some b16, some b14, some b1, some b6, some b10, ob13, ob14, ob16, some b11] w26)) (cs := cs13) (sp := sp13) (xs := min11) (ys := [x14.e0]) (Y := x15) (n := min11.length) (cap := cap13) (i := 5) zaw ti3 rfl rfl rfl rfl hL23 rfl rfl f24 rfl hc10 (zeg (pre := []) (o := 0) (n := 1) (cap := 1) (hL23.at 0 rfl rfl) hE15 rfl rfl rfl) (zef (fun _ _ _ _ h => h) hE15) q33 q34 q35 ?_)
    intro ob17 cap17 sp17 cs18 w27 hE27 hc19 (hL24 : vL w w27 [some b16, some b14, some b1, some b6, some b10, ob17, ob14, ob16, some b11] [zac ([] ++ (cs17 ++ [])), zac ([] ++ ([(zI x11)] ++ [])), zac [c_v, c_v1, c_v2, c_v3, c_v4, c_v5, c_v6], zac [zN, zN, zN, zN, zN], zac [(zO ob13 min11 cap13), (zO ob14 max11 cap14), zN, zN, zN], zac ([] ++ (cs18 ++ sp17)), zac ([] ++ (cs14 ++ sp14)), zac ([] ++ (cs16 ++ sp16)), (mcont (fun x : Int => zI x) (fun x : Int => zI x) (mput place11 x11 (numbers11.length : Int)))]) hS17
    have K23 := ks w hS17
    refine zag (zak (q := 0) zcu rfl ti23 rfl rfl rfl ?_)
    refine zcq (zbq (vs := [(zO ob17 x15 cap17)]) ti23 rfl rfl (zfa (zez ob17 0 x15.length cap17)) rfl (zet (zez ob17 0 x15.length cap17) zew) hL24 4 rfl rfl (zaf rfl) ?_)
    intro w28 (hL25 : vL w w28 [some b16, some b14, some b1, some b6, some b10, ob17, ob14, ob16, some b11] [zac ([] ++ (cs17 ++ [])), zac ([] ++ ([(zI x11)] ++ [])), zac [c_v, c_v1, c_v2, c_v3, c_v4, c_v5, c_v6], zac [zN, zN, zN, zN, zN], zac [(zO ob17 x15 cap17), (zO ob14 max11 cap14), zN, zN, zN], zac ([] ++ (cs18 ++ sp17)), zac ([] ++ (cs14 ++ sp14)), zac ([] ++ (cs16 ++ sp16)), (mcont (fun x : Int => zI x) (fun x : Int => zI x) (mput place11 x11 (numbers11.length : Int)))]) hS18
    have K24 := ks w hS18
    refine zap ?_
    obtain ⟨r10, q36, h⟩ := zes h
    refine zcm 7 [] [] (fun W1 => [.det (zaj (some ⟨b10, 1, none⟩)), .det (zO ob14 max11 cap14), .det l_v, .det ranges_v, .det (zI x11), .det (zI r10), .rel (fun v Z w' => ∃ b17 cs19, (osv (some b17) 0 1 1) = v ∧ OwnC w' (some b17) (zac ([] ++ (cs19 ++ []))) ∧ Els rI (vZ W1 w None [some b16, some b14, some b1, some b6, some b10, ob17, ob14, ob16, some b11] Z w') cs19 [r10] ∧ (cs19 ++ [] : List Value).length = 1 * rI.sz ∧ True) footV]) mixed rfl rfl rfl (fun _ => rfl) (fun _ => rfl) ?_ ?_
    ·
     intro W1 _
     exact ⟨fun v Z Z' w w' hΦ hz _ _ hs => by obtain ⟨b17, cs19, rfl, hO11, hE28, hc20, -⟩ := hΦ; exact ⟨b17, cs19, rfl, (hO11.stay (fun b hb => by cases hb; exact zbi) hs), (hE28.mono (zdt hz hs)), hc20, trivial⟩, trivial⟩
    intro w29 hE29
    obtain ⟨hL26, K25⟩ := zl hL25 hE29
    refine zao (fun _ _ => zau (zak zcu rfl ti23 rfl rfl rfl (er rfl))) ?_
    refine zao (fun _ hE31 => zau (zas zaw rfl rfl ((hL26.ext hE31).at 4 rfl rfl) rfl (er rfl))) ?_
    refine zao (fun _ _ => zau (zai rfl (er rfl))) ?_
    refine zao (fun _ _ => zau (zai rfl (er rfl))) ?_
    refine zao (fun _ _ => zau (zai rfl (er rfl))) ?_
    refine zen ?_ ?_
    ·
     rintro w35 Z33 hE35 hZ24 ⟨-⟩
     have K26 := ke hL26 hE35
     refine zau (zbc en40 rfl rfl (vhigh_w N l ranges x11 l_v ranges_v _ Any ((((((((((f16.mono (K17 S)).mono (K18 S)).mono (K19 S)).mono (K20 S)).mono (K22 S)).mono (K23 S)).mono (K24 S)).mono (K25 S)).mono (K26 S)).mono vw_any) (((((((f21.mono (K20 S)).mono (K22 S)).mono (K23 S)).mono (K24 S)).mono (K25 S)).mono (K26 S)).mono vw_any) r10 q36) ?_)
     rintro _ w36 hE36 ⟨rfl, -⟩
     exact ⟨hE36, rfl⟩
    refine zdw ?_ ?_
    ·
     rintro w37 Z34 hE37 hZ25 ⟨-⟩
     have hE38 : Els rI (vZ w29 w None [some b16, some b14, some b1, some b6, some b10, ob17, ob14, ob16, some b11] Z34 w37) [(zI r10)] [r10] := (zdg (a := [(zI r10)]) rfl zcx)
     refine zau (zcv (r := rI) (vs := [(zI r10)]) (css := [[(zI r10)]]) (xs := [r10]) zaw ti3 (zaf rfl) rfl rfl ⟨rfl, rfl, trivial⟩ (zaf rfl) hE38 rfl (Go.X.Loc.begin0 w37) ?_)
     intro b17 w38 hc21 hL28 hS19
     have hN12 : NewOwn w37 w38 [some b17] [zac ([] ++ ([(zI r10)] ++ []))] := hL28.newOwn [0] rfl rfl rfl
     exact zdp hL28.done hZ25 hN12 (fun _ h => h) ⟨b17, [(zI r10)], rfl, hN12.2.2.1, (hE38.mono (Zv.grow hL28.done)), hc21, trivial⟩
    intro z6
    refine zcy ?_
    rintro w39 Z35 hE39 hZ26 ⟨⟨⟨b17, cs19, rfl, hO11, hE28, hc20, -⟩, hB6⟩, -⟩ ap11
    have hB11 : ∀ b, some b ∈ ([some b17] : List (Option Nat)) → w29.heap.size ≤ b ∧ ¬ Z35 b := by
     intro b hb
     rcases List.mem_cons.1 hb with hb' | hb
     ·
      have := hB6 b (by rw [hb']; exact zbi); exact ⟨this.1, this.2.2⟩
     cases hb
    replace hE28 := hE28.mono (zed hL26 hZ26 hB11)
    have hN13 : NewOwn w29 w39 [some b17] [zac ([] ++ (cs19 ++ []))] := (zdv zde hO11 (fun b hb => (hB11 b (by rw [← hb]; simp)).1) (fun b _ hb => by cases hb))
    have hp15 := hL26.adoptL hE39 hN13
    have hL29 := hp15.1
    have K27 := ks w hp15.2
    obtain ⟨x16, q37, h⟩ := zes h
    obtain ⟨q38, q39, q40⟩ := zfb q37
    have f25 := (((((((((hE11.mono (K17 None)).mono (K18 None)).mono (K19 None)).mono (K20 None)).mono (K22 None)).mono (K23 None)).mono (K24 None)).mono (K25 None)).mono (K27 None))
    refine zag (zdo (r := rI) (H := (vH w None [some b17, some b16, some b14, some b1, some b6, some b10, ob17, ob14, ob16, some b11] w39)) (cs := cs14) (sp := sp14) (xs := max11) (ys := [r10]) (Y := x16) (n := max11.length) (cap := cap14) (i := 7) zaw ti3 rfl rfl rfl rfl hL29 rfl rfl f25 rfl hc11 (zeg (pre := []) (o := 0) (n := 1) (cap := 1) (hL29.at 0 rfl rfl) hE28 rfl rfl rfl) (zef (fun _ _ _ _ h => h) hE28) q38 q39 q40 ?_)
    intro ob18 cap18 sp18 cs20 w40 hE40 hc22 (hL30 : vL w w40 [some b17, some b16, some b14, some b1, some b6, some b10, ob17, ob18, ob16, some b11] [zac ([] ++ (cs19 ++ [])), zac ([] ++ (cs17 ++ [])), zac ([] ++ ([(zI x11)] ++ [])), zac [c_v, c_v1, c_v2, c_v3, c_v4, c_v5, c_v6], zac [zN, zN, zN, zN, zN], zac [(zO ob17 x15 cap17), (zO ob14 max11 cap14), zN, zN, zN], zac ([] ++ (cs18 ++ sp17)), zac ([] ++ (cs20 ++ sp18)), zac ([] ++ (cs16 ++ sp16)), (mcont (fun x : Int => zI x) (fun x : Int => zI x) (mput place11 x11 (numbers11.length : Int)))]) hS20
    have K28 := ks w hS20
    refine zag (zak (q := 1) zcu rfl ti23 rfl rfl rfl ?_)
    refine zcq (zbq (vs := [(zO ob18 x16 cap18)]) ti23 rfl rfl (zfa (zez ob18 0 x16.length cap18)) rfl (zet (zez ob18 0 x16.length cap18) zew) hL30 5 rfl rfl (zaf rfl) ?_)
    intro w41 (hL31 : vL w w41 [some b17, some b16, some b14, some b1, some b6, some b10, ob17, ob18, ob16, some b11] [zac ([] ++ (cs19 ++ [])), zac ([] ++ (cs17 ++ [])), zac ([] ++ ([(zI x11)] ++ [])), zac [c_v, c_v1, c_v2, c_v3, c_v4, c_v5, c_v6], zac [zN, zN, zN, zN, zN], zac [(zO ob17 x15 cap17), (zO ob18 x16 cap18), zN, zN, zN], zac ([] ++ (cs18 ++ sp17)), zac ([] ++ (cs20 ++ sp18)), zac ([] ++ (cs16 ++ sp16)), (mcont (fun x : Int => zI x) (fun x : Int => zI x) (mput place11 x11 (numbers11.length : Int)))]) hS21
    have K29 := ks w hS21
    refine zap (zbu (zah rfl (zag (zcl (x := x10) (y := 1) (z := (iw (x10 + 1))) rfl rfl rfl ?_))))
    refine zag (zai (v := (zI (iw (x10 + 1)))) rfl (zap ?_))
    have hp16 := hL31.pick [3, 4, 5, 6, 7, 8, 9] rfl rfl rfl
    have hL32 : vL w w41 [some b1, some b6, some b10, ob17, ob18, ob16, some b11] [zac [c_v, c_v1, c_v2, c_v3, c_v4, c_v5, c_v6], zac [zN, zN, zN, zN, zN], zac [(zO ob17 x15 cap17), (zO ob18 x16 cap18), zN, zN, zN], zac ([] ++ (cs18 ++ sp17)), zac ([] ++ (cs20 ++ sp18)), zac ([] ++ (cs16 ++ sp16)), (mcont (fun x : Int => zI x) (fun x : Int => zI x) (mput place11 x11 (numbers11.length : Int)))] := hp16.1
    have K30 := ks w hp16.2
    have f26 := (((((((hE27.mono (K23 None)).mono (K24 None)).mono (K25 None)).mono (K27 None)).mono (K28 None)).mono (K29 None)).mono (K30 None))
    have f27 := (((hE40.mono (K28 None)).mono (K29 None)).mono (K30 None))
    have f28 := ((((((((((hE14.mono (K19 None)).mono (K20 None)).mono (K22 None)).mono (K23 None)).mono (K24 None)).mono (K25 None)).mono (K27 None)).mono (K28 None)).mono (K29 None)).mono (K30 None))
    obtain rfl := zae h
    refine zaq ⟨(x15, x16, x13, (mput place11 x11 (numbers11.length : Int)), (iw (x10 + 1))), rfl, ?_⟩
    exact ⟨ob17, cap17, sp17, cs18, x15.length, ob18, cap18, sp18, cs20, x16.length, ob16, cap16, sp16, cs16, x13.length, _, (zeu ⟨rfl, rfl, rfl, rfl, rfl, rfl, rfl, rfl, rfl, rfl, trivial⟩), hL32, (zan (zan (zan (zan (zan (zan (zan (zan (zan (zan (zan (zan K16 K17) K18) K19) K20) K22) K23) K24) K25) K27) K28) K29) K30), f26, rfl, hc19, f27, rfl, hc22, f28, rfl, hc16, trivial⟩
   replace h := ite_f hc14 h
   refine zbk (zbu (zah rfl (zag (zcl (x := x10) (y := 1) (z := (iw (x10 + 1))) rfl rfl rfl ?_))))
   refine zag (zai (v := (zI (iw (x10 + 1)))) rfl (zap ?_))
   obtain rfl := zae h
   refine zaq ⟨(min11, max11, numbers11, place11, (iw (x10 + 1))), rfl, ?_⟩
   exact ⟨ob13, cap13, sp13, cs13, min11.length, ob14, cap14, sp14, cs14, max11.length, ob15, cap15, sp15, cs15, numbers11.length, _, (zeu ⟨rfl, rfl, rfl, rfl, rfl, rfl, rfl, rfl, rfl, rfl, trivial⟩), hL16, K16, hE10, rfl, hc10, hE11, rfl, hc11, hE12, rfl, hc12, trivial⟩
  replace h := ite_f hc13 h
  refine zda rfl ?_
  obtain rfl := zae h
  obtain rfl := hd10 _ rfl
  replace h := g10
  try dsimp only at h
  refine zaq ?_
  exact ⟨min11, max11, numbers11, place11, ob13, cap13, sp13, cs13, min11.length, ob14, cap14, sp14, cs14, max11.length, ob15, cap15, sp15, cs15, numbers11.length, _, rfl, (zeu ⟨rfl, rfl, rfl, rfl, rfl, trivial⟩), hL16, K16, hE10, rfl, hc10, hE11, rfl, hc11, hE12, rfl, hc12, trivial⟩
 rintro _ w42 ⟨min10, max10, numbers10, place10, ob10, cap10, sp10, cs10, ln10, ob11, cap11, sp11, cs11, ln11, ob12, cap12, sp12, cs12, ln12, u, rfl, rfl, hL33, K31, hE41, rfl, hc23, hE42, rfl, hc24, hE43, rfl, hc25, -⟩
 replace h := g10
 try dsimp only at h
 refine zal (zal (zah rfl (zag (zak (q := 4) zay rfl ti26 rfl rfl rfl ?_))))
 refine zag (zas (v := c_v4) zbs rfl rfl (hL33.at 0 rfl rfl) rfl ?_)
 have f29 := (((((c_h4.mono (K4 S)).mono (K9 S)).mono (K10 S)).mono (K11 S)).mono (K31 S))
 refine zag (zbg (v := c_v4) zbs rfl f29 ?_)
 refine zag (zai (v := (zI 0)) rfl (zap ?_))
 obtain ⟨s11, hl11, g11⟩ := zes h
 refine zce (fun e w' => ∃ (tests10 : (List TTest)) (ob19 : Option Nat) (cap19 : Nat) (sp19 : List Value) (cs21 : List Value) (ln16 : Nat) (u : Env), tests10 = s11 ∧ e = upds [(4, (zaj (some ⟨b1, 0, none⟩))), (6, (zaj (some ⟨b6, 0, none⟩))), (8, (zaj (some ⟨b10, 0, none⟩))), (9, (zO ob12 numbers10 cap12)), (10, (Value.map (some b11)))] u ∧ vL w w' [some b1, some b6, some b10, ob10, ob11, ob19, ob12, some b11] [zac [c_v, c_v1, c_v2, c_v3, c_v4, c_v5, c_v6], zac [zN, zN, zN, zN, zN], zac [(zO ob10 min10 cap10), (zO ob11 max10 cap11), (osv ob19 0 ln16 cap19), zN, zN], zac ([] ++ (cs10 ++ sp10)), zac ([] ++ (cs11 ++ sp11)), zac ([] ++ (cs21 ++ sp19)), zac ([] ++ (cs12 ++ sp12)), (mcont (fun x : Int => zI x) (fun x : Int => zI x) place10)] ∧ Keep w.heap.size [some b1, some b6, some b10, ob10, ob11, ob12, some b11] w42 [some b1, some b6, some b10, ob10, ob11, ob19, ob12, some b11] w' ∧ Els rTTest (vH w None [some b1, some b6, some b10, ob10, ob11, ob19, ob12, some b11] w') cs21 tests10 ∧ ln16 = List.length tests10 ∧ (cs21 ++ sp19).length = cap19 * rTTest.sz ∧ True) ?_ ?_
 ·
  refine zbh ?_
  have hp17 := hL33.addNil
  have hL34 : vL w w42 [none, some b1, some b6, some b10, ob10, ob11, ob12, some b11] [zac ([] ++ ([] ++ [])), zac [c_v, c_v1, c_v2, c_v3, c_v4, c_v5, c_v6], zac [zN, zN, zN, zN, zN], zac [(zO ob10 min10 cap10), (zO ob11 max10 cap11), zN, zN, zN], zac ([] ++ (cs10 ++ sp10)), zac ([] ++ (cs11 ++ sp11)), zac ([] ++ (cs12 ++ sp12)), (mcont (fun x : Int => zI x) (fun x : Int => zI x) place10)] := hp17.1
  have K32 := ks w hp17.2
  have hp18 := hL34.pick [1, 2, 3, 4, 5, 0, 6, 7] rfl rfl rfl
  have hL35 : vL w w42 [some b1, some b6, some b10, ob10, ob11, none, ob12, some b11] [zac [c_v, c_v1, c_v2, c_v3, c_v4, c_v5, c_v6], zac [zN, zN, zN, zN, zN], zac [(zO ob10 min10 cap10), (zO ob11 max10 cap11), (osv none 0 (List.length ([] : (List TTest))) 0), zN, zN], zac ([] ++ (cs10 ++ sp10)), zac ([] ++ (cs11 ++ sp11)), zac ([] ++ ([] ++ [])), zac ([] ++ (cs12 ++ sp12)), (mcont (fun x : Int => zI x) (fun x : Int => zI x) place10)] := hp18.1
  have K33 := ks w hp18.2
  have f30 := ((zcx (r := rTTest)).mono (K33 None))
  refine zcr hl11 (fun (ss : ((List TTest) × Int)) (e : Env) (w' : World) => match ss with | (tests11, x17) => ∃ (ob20 : Option Nat) (cap20 : Nat) (sp20 : List Value) (cs22 : List Value) (ln17 : Nat) (u : Env), e = upds [(4, (zaj (some ⟨b1, 0, none⟩))), (6, (zaj (some ⟨b6, 0, none⟩))), (8, (zaj (some ⟨b10, 0, none⟩))), (9, (zO ob12 numbers10 cap12)), (10, (Value.map (some b11))), (62, c_v4), (63, (zI (c.Tests.length : Int))), (64, (zI x17))] u ∧ vL w w' [some b1, some b6, some b10, ob10, ob11, ob20, ob12, some b11] [zac [c_v, c_v1, c_v2, c_v3, c_v4, c_v5, c_v6], zac [zN, zN, zN, zN, zN], zac [(zO ob10 min10 cap10), (zO ob11 max10 cap11), (osv ob20 0 ln17 cap20), zN, zN], zac ([] ++ (cs10 ++ sp10)), zac ([] ++ (cs11 ++ sp11)), zac ([] ++ (cs22 ++ sp20)), zac ([] ++ (cs12 ++ sp12)), (mcont (fun x : Int => zI x) (fun x : Int => zI x) place10)] ∧ Keep w.heap.size [some b1, some b6, some b10, ob10, ob11, ob12, some b11] w42 [some b1, some b6, some b10, ob10, ob11, ob20, ob12, some b11] w' ∧ Els rTTest (vH w None [some b1, some b6, some b10, ob10, ob11, ob20, ob12, some b11] w') cs22 tests11 ∧ ln17 = List.length tests11 ∧ (cs22 ++ sp20).length = cap20 * rTTest.sz ∧ True) ⟨none, 0, [], [], (List.length ([] : (List TTest))), _, (zeu ⟨rfl, rfl, rfl, rfl, rfl, rfl, rfl, rfl, trivial⟩), hL35, (zan K32 K33), f30, rfl, (show ([] ++ [] : List Value).length = 0 * rTTest.sz by simp), trivial⟩ ?_
  rintro ⟨tests11, x17⟩ oo _ w43 ⟨ob20, cap20, sp20, cs22, ln17, u, rfl, hL36, K34, hE44, rfl, hc26, -⟩ h hd11
  rw [vTexts_b2] at h
  refine zal (zah rfl (zag (zcp (x := x17) (y := (c.Tests.length : Int)) ((x17 : Int) < (c.Tests.length : Int)) rfl rfl zbd ?_)))
  refine zap (zal ?_)
  refine zbf ((x17 : Int) < (c.Tests.length : Int)) rfl (fun hc27 => ?_) (fun hc27 => ?_)
  ·
   replace h := ite_t hc27 h
   refine zbk (zal (zbh (zal (zah rfl ?_))))
   obtain ⟨x18, n13, q42, q43, -, h⟩ := zix h
   have f31 := (f29.mono (K34 S))
   obtain ⟨b18, o13, c13, vs13, q44, q45, f32, q46⟩ := zcw f31 q43
   obtain ⟨rfl, -⟩ := rTTest_open q46
   refine zag (zbj (r := rTTest) (v := c_v4) (n := n13) (m := (o13 + n13 * rTTest.sz)) zbs ti112 rfl q44 rfl q42 q43 rfl ?_)
   refine zag (zds (vs := [(zI x18.Var), (zI x18.Kind), (zab x18.Negated), (zS x18.Text)]) zct rfl ti112 rfl rfl zex f32 ?_)
   refine zag (zcj (cs := [(zI 0), (zI 0), zF, (zbo (s8 []))]) ti112 rfl hL36 ?_)
   intro b19 w44 hL37 hS22
   have K35 := ks w hS22
   refine zcq (zbq (vs := [(zI x18.Var), (zI x18.Kind), (zab x18.Negated), (zS x18.Text)]) ti112 rfl rfl rfl rfl (zet rfl (zet rfl (zet rfl (zet rfl zew)))) hL37 0 rfl rfl (zaf rfl) ?_)
   intro w45 (hL38 : vL w w45 [some b19, some b1, some b6, some b10, ob10, ob11, ob20, ob12, some b11] [zac [(zI x18.Var), (zI x18.Kind), (zab x18.Negated), (zS x18.Text)], zac [c_v, c_v1, c_v2, c_v3, c_v4, c_v5, c_v6], zac [zN, zN, zN, zN, zN], zac [(zO ob10 min10 cap10), (zO ob11 max10 cap11), (zO ob20 tests11 cap20), zN, zN], zac ([] ++ (cs10 ++ sp10)), zac ([] ++ (cs11 ++ sp11)), zac ([] ++ (cs22 ++ sp20)), zac ([] ++ (cs12 ++ sp12)), (mcont (fun x : Int => zI x) (fun x : Int => zI x) place10)]) hS23
   have K36 := ks w hS23
   refine zap (zal (zah rfl (zag (zai (v := (Value.map (some b11))) rfl ?_))))
   refine zag (zak (q := 0) zct rfl ti3 rfl rfl rfl ?_)
   refine zag (zas (v := (zI x18.Var)) zat rfl rfl (hL38.at 0 rfl rfl) rfl ?_)
   refine zag (OpY.look0 (kf := (fun x : Int => zI x)) (vf := (fun x : Int => zI x)) (m := place10) (x := x18.Var) (z := 0) mky_3 Tryz.underlying110 ti3 rfl (hL38.at 8 rfl rfl) rfl ?_)
   refine zag (zak (q := 0) zct rfl ti3 rfl rfl rfl ?_)
   refine zcq (zbq (vs := [(zI (mget place10 x18.Var 0).1)]) ti3 rfl rfl rfl rfl (zet rfl zew) hL38 0 rfl rfl (zaf rfl) ?_)
   intro w46 (hL39 : vL w w46 [some b19, some b1, some b6, some b10, ob10, ob11, ob20, ob12, some b11] [zac [(zI (mget place10 x18.Var 0).1), (zI x18.Kind), (zab x18.Negated), (zS x18.Text)], zac [c_v, c_v1, c_v2, c_v3, c_v4, c_v5, c_v6], zac [zN, zN, zN, zN, zN], zac [(zO ob10 min10 cap10), (zO ob11 max10 cap11), (zO ob20 tests11 cap20), zN, zN], zac ([] ++ (cs10 ++ sp10)), zac ([] ++ (cs11 ++ sp11)), zac ([] ++ (cs22 ++ sp20)), zac ([] ++ (cs12 ++ sp12)), (mcont (fun x : Int => zI x) (fun x : Int => zI x) place10)]) hS24
   have K37 := ks w hS24
   refine zap (zah rfl (zag (zak (q := 2) zcu rfl ti26 rfl rfl rfl ?_)))
   refine zag (zas (v := (zO ob20 tests11 cap20)) zbs rfl rfl (hL39.at 3 rfl rfl) rfl ?_)
   refine zag (zbr (vs := [(zI (mget place10 x18.Var 0).1), (zI x18.Kind), (zab x18.Negated), (zS x18.Text)]) zct rfl ti112 rfl (hL39.at 0 rfl rfl) rfl rfl ?_)
   have hE45 : Els rTTest (vH w None [some b19, some b1, some b6, some b10, ob10, ob11, ob20, ob12, some b11] w46) [(zI (mget place10 x18.Var 0).1), (zI x18.Kind), (zab x18.Negated), (zS x18.Text)] [(TTest.mk ((mget place10 x18.Var 0).1) x18.Kind x18.Negated x18.Text)] := (zdg (a := [(zI (mget place10 x18.Var 0).1), (zI x18.Kind), (zab x18.Negated), (zS x18.Text)]) (rTTest_close ⟨rfl, trivial⟩) zcx)
   refine zag (zcv (r := rTTest) (vs := [(zar #[(zI (mget place10 x18.Var 0).1), (zI x18.Kind), (zab x18.Negated), (zS x18.Text)])]) (css := [[(zI (mget place10 x18.Var 0).1), (zI x18.Kind), (zab x18.Negated), (zS x18.Text)]]) (xs := [(TTest.mk ((mget place10 x18.Var 0).1) x18.Kind x18.Negated x18.Text)]) zbs ti112 (zaf rfl) rfl rfl ⟨rfl, rfl, trivial⟩ (zaf rfl) hE45 rfl hL39 ?_)
   intro b20 w47 hc28 hL40 hS25
   have K38 := ks w hS25
   obtain ⟨x19, q47, h⟩ := zes h
   obtain ⟨q48, q49, q50⟩ := zfb q47
   have f33 := (hE45.mono (K38 None))
   have f34 := ((((hE44.mono (K35 None)).mono (K36 None)).mono (K37 None)).mono (K38 None))
   refine zag (zdo (r := rTTest) (H := (vH w None [some b20, some b19, some b1, some b6, some b10, ob10, ob11, ob20, ob12, some b11] w47)) (cs := cs22) (sp := sp20) (xs := tests11) (ys := [(TTest.mk ((mget place10 x18.Var 0).1) x18.Kind x18.Negated x18.Text)]) (Y := x19) (n := tests11.length) (cap := cap20) (i := 7) zbs ti112 rfl rfl rfl rfl hL40 rfl rfl f34 rfl hc26 (zeg (pre := []) (o := 0) (n := 1) (cap := 1) (hL40.at 0 rfl rfl) f33 rfl rfl rfl) (zef (fun _ _ _ _ h => h) f33) q48 q49 q50 ?_)
   intro ob21 cap21 sp21 cs23 w48 hE46 hc29 (hL41 : vL w w48 [some b20, some b19, some b1, some b6, some b10, ob10, ob11, ob21, ob12, some b11] [zac ([] ++ ([(zI (mget place10 x18.Var 0).1), (zI x18.Kind), (zab x18.Negated), (zS x18.Text)] ++ [])), zac [(zI (mget place10 x18.Var 0).1), (zI x18.Kind), (zab x18.Negated), (zS x18.Text)], zac [c_v, c_v1, c_v2, c_v3, c_v4, c_v5, c_v6], zac [zN, zN, zN, zN, zN], zac [(zO ob10 min10 cap10), (zO ob11 max10 cap11), (zO ob20 tests11 cap20), zN, zN], zac ([] ++ (cs10 ++ sp10)), zac ([] ++ (cs11 ++ sp11)), zac ([] ++ (cs23 ++ sp21)), zac ([] ++ (cs12 ++ sp12)), (mcont (fun x : Int => zI x) (fun x : Int => zI x) place10)]) hS26
   have K39 := ks w hS26
   refine zag (zak (q := 2) zcu rfl ti26 rfl rfl rfl ?_)
   refine zcq (zbq (vs := [(zO ob21 x19 cap21)]) ti26 rfl rfl (zfa (zez ob21 0 x19.length cap21)) rfl (zet (zez ob21 0 x19.length cap21) zew) hL41 4 rfl rfl (zaf rfl) ?_)
   intro w49 (hL42 : vL w w49 [some b20, some b19, some b1, some b6, some b10, ob10, ob11, ob21, ob12, some b11] [zac ([] ++ ([(zI (mget place10 x18.Var 0).1), (zI x18.Kind), (zab x18.Negated), (zS x18.Text)] ++ [])), zac [(zI (mget place10 x18.Var 0).1), (zI x18.Kind), (zab x18.Negated), (zS x18.Text)], zac [c_v, c_v1, c_v2, c_v3, c_v4, c_v5, c_v6], zac [zN, zN, zN, zN, zN], zac [(zO ob10 min10 cap10), (zO ob11 max10 cap11), (zO ob21 x19 cap21), zN, zN], zac ([] ++ (cs10 ++ sp10)), zac ([] ++ (cs11 ++ sp11)), zac ([] ++ (cs23 ++ sp21)), zac ([] ++ (cs12 ++ sp12)), (mcont (fun x : Int => zI x) (fun x : Int => zI x) place10)]) hS27
   have K40 := ks w hS27
   refine zap (zbu (zah rfl (zag (zcl (x := x17) (y := 1) (z := (iw (x17 + 1))) rfl rfl rfl ?_))))
   refine zag (zai (v := (zI (iw (x17 + 1)))) rfl (zap ?_))
   have hp19 := hL42.pick [2, 3, 4, 5, 6, 7, 8, 9] rfl rfl rfl
   have hL43 : vL w w49 [some b1, some b6, some b10, ob10, ob11, ob21, ob12, some b11] [zac [c_v, c_v1, c_v2, c_v3, c_v4, c_v5, c_v6], zac [zN, zN, zN, zN, zN], zac [(zO ob10 min10 cap10), (zO ob11 max10 cap11), (zO ob21 x19 cap21), zN, zN], zac ([] ++ (cs10 ++ sp10)), zac ([] ++ (cs11 ++ sp11)), zac ([] ++ (cs23 ++ sp21)), zac ([] ++ (cs12 ++ sp12)), (mcont (fun x : Int => zI x) (fun x : Int => zI x) place10)] := hp19.1
   have K41 := ks w hp19.2
   have f35 := (((hE46.mono (K39 None)).mono (K40 None)).mono (K41 None))
   obtain rfl := zae h
   refine zaq ⟨(x19, (iw (x17 + 1))), rfl, ?_⟩
   exact ⟨ob21, cap21, sp21, cs23, x19.length, _, (zeu ⟨rfl, rfl, rfl, rfl, rfl, rfl, rfl, rfl, trivial⟩), hL43, (zan (zan (zan (zan (zan (zan (zan K34 K35) K36) K37) K38) K39) K40) K41), f35, rfl, hc29, trivial⟩
  replace h := ite_f hc27 h
  refine zda rfl ?_
  obtain rfl := zae h
  obtain rfl := hd11 _ rfl
  replace h := g11
  try dsimp only at h
  refine zaq ?_
  exact ⟨tests11, ob20, cap20, sp20, cs22, tests11.length, _, rfl, (zeu ⟨rfl, rfl, rfl, rfl, rfl, trivial⟩), hL36, K34, hE44, rfl, hc26, trivial⟩
 rintro _ w50 ⟨tests10, ob19, cap19, sp19, cs21, ln16, u, rfl, rfl, hL44, K42, hE47, rfl, hc30, -⟩
 replace h := g11
 try dsimp only at h
 refine zal (zal (zah rfl (zag (zak (q := 5) zay rfl ti27 rfl rfl rfl ?_))))
 refine zag (zas (v := c_v5) zaz rfl rfl (hL44.at 0 rfl rfl) rfl ?_)
 have f36 := ((((((c_h5.mono (K4 S)).mono (K9 S)).mono (K10 S)).mono (K11 S)).mono (K31 S)).mono (K42 S))
 refine zag (zbg (v := c_v5) zaz rfl f36 ?_)
 refine zag (zai (v := (zI 0)) rfl (zap ?_))
 obtain ⟨s12, hl12, g12⟩ := zes h
 refine zce (fun e w' => ∃ (same10 : (List Arr2Int)) (ob22 : Option Nat) (cap22 : Nat) (sp22 : List Value) (cs24 : List Value) (ln18 : Nat) (u : Env), same10 = s12 ∧ e = upds [(4, (zaj (some ⟨b1, 0, none⟩))), (6, (zaj (some ⟨b6, 0, none⟩))), (8, (zaj (some ⟨b10, 0, none⟩))), (9, (zO ob12 numbers10 cap12)), (10, (Value.map (some b11)))] u ∧ vL w w' [some b1, some b6, some b10, ob10, ob11, ob19, ob22, ob12, some b11] [zac [c_v, c_v1, c_v2, c_v3, c_v4, c_v5, c_v6], zac [zN, zN, zN, zN, zN], zac [(zO ob10 min10 cap10), (zO ob11 max10 cap11), (zO ob19 tests10 cap19), (osv ob22 0 ln18 cap22), zN], zac ([] ++ (cs10 ++ sp10)), zac ([] ++ (cs11 ++ sp11)), zac ([] ++ (cs21 ++ sp19)), zac ([] ++ (cs24 ++ sp22)), zac ([] ++ (cs12 ++ sp12)), (mcont (fun x : Int => zI x) (fun x : Int => zI x) place10)] ∧ Keep w.heap.size [some b1, some b6, some b10, ob10, ob11, ob19, ob12, some b11] w50 [some b1, some b6, some b10, ob10, ob11, ob19, ob22, ob12, some b11] w' ∧ Els rArr2Int (vH w None [some b1, some b6, some b10, ob10, ob11, ob19, ob22, ob12, some b11] w') cs24 same10 ∧ ln18 = List.length same10 ∧ (cs24 ++ sp22).length = cap22 * rArr2Int.sz ∧ True) ?_ ?_
 ·
  refine zbh ?_
  have hp20 := hL44.addNil
  have hL45 : vL w w50 [none, some b1, some b6, some b10, ob10, ob11, ob19, ob12, some b11] [zac ([] ++ ([] ++ [])), zac [c_v, c_v1, c_v2, c_v3, c_v4, c_v5, c_v6], zac [zN, zN, zN, zN, zN], zac [(zO ob10 min10 cap10), (zO ob11 max10 cap11), (zO ob19 tests10 cap19), zN, zN], zac ([] ++ (cs10 ++ sp10)), zac ([] ++ (cs11 ++ sp11)), zac ([] ++ (cs21 ++ sp19)), zac ([] ++ (cs12 ++ sp12)), (mcont (fun x : Int => zI x) (fun x : Int => zI x) place10)] := hp20.1
  have K43 := ks w hp20.2
  have hp21 := hL45.pick [1, 2, 3, 4, 5, 6, 0, 7, 8] rfl rfl rfl
  have hL46 : vL w w50 [some b1, some b6, some b10, ob10, ob11, ob19, none, ob12, some b11] [zac [c_v, c_v1, c_v2, c_v3, c_v4, c_v5, c_v6], zac [zN, zN, zN, zN, zN], zac [(zO ob10 min10 cap10), (zO ob11 max10 cap11), (zO ob19 tests10 cap19), (osv none 0 (List.length ([] : (List Arr2Int))) 0), zN], zac ([] ++ (cs10 ++ sp10)), zac ([] ++ (cs11 ++ sp11)), zac ([] ++ (cs21 ++ sp19)), zac ([] ++ ([] ++ [])), zac ([] ++ (cs12 ++ sp12)), (mcont (fun x : Int => zI x) (fun x : Int => zI x) place10)] := hp21.1
  have K44 := ks w hp21.2
  have f37 := ((zcx (r := rArr2Int)).mono (K44 None))
  refine zcr hl12 (fun (ss : ((List Arr2Int) × Int)) (e : Env) (w' : World) => match ss with | (same11, x20) => ∃ (ob23 : Option Nat) (cap23 : Nat) (sp23 : List Value) (cs25 : List Value) (ln19 : Nat) (u : Env), e = upds [(4, (zaj (some ⟨b1, 0, none⟩))), (6, (zaj (some ⟨b6, 0, none⟩))), (8, (zaj (some ⟨b10, 0, none⟩))), (9, (zO ob12 numbers10 cap12)), (10, (Value.map (some b11))), (81, c_v5), (82, (zI (c.Same.length : Int))), (83, (zI x20))] u ∧ vL w w' [some b1, some b6, some b10, ob10, ob11, ob19, ob23, ob12, some b11] [zac [c_v, c_v1, c_v2, c_v3, c_v4, c_v5, c_v6], zac [zN, zN, zN, zN, zN], zac [(zO ob10 min10 cap10), (zO ob11 max10 cap11), (zO ob19 tests10 cap19), (osv ob23 0 ln19 cap23), zN], zac ([] ++ (cs10 ++ sp10)), zac ([] ++ (cs11 ++ sp11)), zac ([] ++ (cs21 ++ sp19)), zac ([] ++ (cs25 ++ sp23)), zac ([] ++ (cs12 ++ sp12)), (mcont (fun x : Int => zI x) (fun x : Int => zI x) place10)] ∧ Keep w.heap.size [some b1, some b6, some b10, ob10, ob11, ob19, ob12, some b11] w50 [some b1, some b6, some b10, ob10, ob11, ob19, ob23, ob12, some b11] w' ∧ Els rArr2Int (vH w None [some b1, some b6, some b10, ob10, ob11, ob19, ob23, ob12, some b11] w') cs25 same11 ∧ ln19 = List.length same11 ∧ (cs25 ++ sp23).length = cap23 * rArr2Int.sz ∧ True) ⟨none, 0, [], [], (List.length ([] : (List Arr2Int))), _, (zeu ⟨rfl, rfl, rfl, rfl, rfl, rfl, rfl, rfl, trivial⟩), hL46, (zan K43 K44), f37, rfl, (show ([] ++ [] : List Value).length = 0 * rArr2Int.sz by simp), trivial⟩ ?_
  rintro ⟨same11, x20⟩ oo _ w51 ⟨ob23, cap23, sp23, cs25, ln19, u, rfl, hL47, K45, hE48, rfl, hc31, -⟩ h hd12
  rw [vTexts_b3] at h
  refine zal (zah rfl (zag (zcp (x := x20) (y := (c.Same.length : Int)) ((x20 : Int) < (c.Same.length : Int)) rfl rfl zbd ?_)))
  refine zap (zal ?_)
  refine zbf ((x20 : Int) < (c.Same.length : Int)) rfl (fun hc32 => ?_) (fun hc32 => ?_)
  ·
   replace h := ite_t hc32 h
   refine zbk (zal (zbh (zal (zah rfl ?_))))
   obtain ⟨x21, n14, q52, q53, -, h⟩ := zix h
   have f38 := (f36.mono (K45 S))
   obtain ⟨b21, o14, c14, vs14, q54, q55, f39, q56⟩ := zcw f38 q53
   obtain ⟨rfl, -⟩ := rArr2Int_open q56
   refine zag (zbj (r := rArr2Int) (v := c_v5) (n := n14) (m := (o14 + n14 * rArr2Int.sz)) zaz ti54 rfl q54 rfl q52 q53 rfl ?_)
   refine zag (zds (vs := [(zI x21.e0), (zI x21.e1)]) zbv rfl ti54 rfl rfl zex f39 ?_)
   refine zag (zcj (cs := [(zI 0), (zI 0)]) ti54 rfl hL47 ?_)
   intro b22 w52 hL48 hS28
   have K46 := ks w hS28
   refine zcq (zbq (vs := [(zI x21.e0), (zI x21.e1)]) ti54 rfl rfl rfl rfl (zet rfl (zet rfl zew)) hL48 0 rfl rfl (zaf rfl) ?_)
   intro w53 (hL49 : vL w w53 [some b22, some b1, some b6, some b10, ob10, ob11, ob19, ob23, ob12, some b11] [zac [(zI x21.e0), (zI x21.e1)], zac [c_v, c_v1, c_v2, c_v3, c_v4, c_v5, c_v6], zac [zN, zN, zN, zN, zN], zac [(zO ob10 min10 cap10), (zO ob11 max10 cap11), (zO ob19 tests10 cap19), (zO ob23 same11 cap23), zN], zac ([] ++ (cs10 ++ sp10)), zac ([] ++ (cs11 ++ sp11)), zac ([] ++ (cs21 ++ sp19)), zac ([] ++ (cs25 ++ sp23)), zac ([] ++ (cs12 ++ sp12)), (mcont (fun x : Int => zI x) (fun x : Int => zI x) place10)]) hS29
   have K47 := ks w hS29
   refine zap (zah rfl (zag (zak (q := 3) zcu rfl ti27 rfl rfl rfl ?_)))
   refine zag (zas (v := (zO ob23 same11 cap23)) zaz rfl rfl (hL49.at 3 rfl rfl) rfl ?_)
   refine zag (zai (v := (Value.map (some b11))) rfl ?_)
   refine zag (zcg (i := 0) (q := 0) zbv ti3 rfl rfl (by decide) rfl ?_)
   refine zag (zas (v := (zI x21.e0)) zat rfl rfl (hL49.at 0 rfl rfl) rfl ?_)
   refine zag (OpY.look0 (kf := (fun x : Int => zI x)) (vf := (fun x : Int => zI x)) (m := place10) (x := x21.e0) (z := 0) mky_3 Tryz.underlying110 ti3 rfl (hL49.at 9 rfl rfl) rfl ?_)
   refine zag (zai (v := (Value.map (some b11))) rfl ?_)
   refine zag (zcg (i := 1) (q := 1) zbv ti3 rfl rfl (by decide) rfl ?_)
   refine zag (zas (v := (zI x21.e1)) zat rfl rfl (hL49.at 0 rfl rfl) rfl ?_)
   refine zag (OpY.look0 (kf := (fun x : Int => zI x)) (vf := (fun x : Int => zI x)) (m := place10) (x := x21.e1) (z := 0) mky_3 Tryz.underlying110 ti3 rfl (hL49.at 9 rfl rfl) rfl ?_)
   refine zag (OpY.buildArr (zc := [(zI 0), (zI 0)]) (vs := [(zI (mget place10 x21.e0 0).1), (zI (mget place10 x21.e1 0).1)]) (css := [[(zI (mget place10 x21.e0 0).1)], [(zI (mget place10 x21.e1 0).1)]]) zbv ti54 rfl ti3 rfl rfl ⟨rfl, rfl, ⟨rfl, rfl, trivial⟩⟩ ?_)
   have hE49 : Els rArr2Int (vH w None [some b22, some b1, some b6, some b10, ob10, ob11, ob19, ob23, ob12, some b11] w53) [(zI (mget place10 x21.e0 0).1), (zI (mget place10 x21.e1 0).1)] [(Arr2Int.mk ((mget place10 x21.e0 0).1) ((mget place10 x21.e1 0).1))] := (zdg (a := [(zI (mget place10 x21.e0 0).1), (zI (mget place10 x21.e1 0).1)]) (rArr2Int_close ⟨rfl, trivial⟩) zcx)
   refine zag (zcv (r := rArr2Int) (vs := [(zar #[(zI (mget place10 x21.e0 0).1), (zI (mget place10 x21.e1 0).1)])]) (css := [[(zI (mget place10 x21.e0 0).1), (zI (mget place10 x21.e1 0).1)]]) (xs := [(Arr2Int.mk ((mget place10 x21.e0 0).1) ((mget place10 x21.e1 0).1))]) zaz ti54 (zaf rfl) rfl rfl ⟨rfl, rfl, trivial⟩ (zaf rfl) hE49 rfl hL49 ?_)
   intro b23 w54 hc33 hL50 hS30
   have K48 := ks w hS30
   obtain ⟨x22, q57, h⟩ := zes h
   obtain ⟨q58, q59, q60⟩ := zfb q57
   have f40 := (hE49.mono (K48 None))
   have f41 := (((hE48.mono (K46 None)).mono (K47 None)).mono (K48 None))
   refine zag (zdo (r := rArr2Int) (H := (vH w None [some b23, some b22, some b1, some b6, some b10, ob10, ob11, ob19, ob23, ob12, some b11] w54)) (cs := cs25) (sp := sp23) (xs := same11) (ys := [(Arr2Int.mk ((mget place10 x21.e0 0).1) ((mget place10 x21.e1 0).1))]) (Y := x22) (n := same11.length) (cap := cap23) (i := 8) zaz ti54 rfl rfl rfl rfl hL50 rfl rfl f41 rfl hc31 (zeg (pre := []) (o := 0) (n := 1) (cap := 1) (hL50.at 0 rfl rfl) f40 rfl rfl rfl) (zef (fun _ _ _ _ h => h) f40) q58 q59 q60 ?_)
   intro ob24 cap24 sp24 cs26 w55 hE50 hc34 (hL51 : vL w w55 [some b23, some b22, some b1, some b6, some b10, ob10, ob11, ob19, ob24, ob12, some b11] [zac ([] ++ ([(zI (mget place10 x21.e0 0).1), (zI (mget place10 x21.e1 0).1)] ++ [])), zac [(zI x21.e0), (zI x21.e1)], zac [c_v, c_v1, c_v2, c_v3, c_v4, c_v5, c_v6], zac [zN, zN, zN, zN, zN], zac [(zO ob10 min10 cap10), (zO ob11 max10 cap11), (zO ob19 tests10 cap19), (zO ob23 same11 cap23), zN], zac ([] ++ (cs10 ++ sp10)), zac ([] ++ (cs11 ++ sp11)), zac ([] ++ (cs21 ++ sp19)), zac ([] ++ (cs26 ++ sp24)), zac ([] ++ (cs12 ++ sp12)), (mcont (fun x : Int => zI x) (fun x : Int => zI x) place10)]) hS31
   have K49 := ks w hS31
   refine zag (zak (q := 3) zcu rfl ti27 rfl rfl rfl ?_)
   refine zcq (zbq (vs := [(zO ob24 x22 cap24)]) ti27 rfl rfl (zfa (zez ob24 0 x22.length cap24)) rfl (zet (zez ob24 0 x22.length cap24) zew) hL51 4 rfl rfl (zaf rfl) ?_)
   intro w56 (hL52 : vL w w56 [some b23, some b22, some b1, some b6, some b10, ob10, ob11, ob19, ob24, ob12, some b11] [zac ([] ++ ([(zI (mget place10 x21.e0 0).1), (zI (mget place10 x21.e1 0).1)] ++ [])), zac [(zI x21.e0), (zI x21.e1)], zac [c_v, c_v1, c_v2, c_v3, c_v4, c_v5, c_v6], zac [zN, zN, zN, zN, zN], zac [(zO ob10 min10 cap10), (zO ob11 max10 cap11), (zO ob19 tests10 cap19), (zO ob24 x22 cap24), zN], zac ([] ++ (cs10 ++ sp10)), zac ([] ++ (cs11 ++ sp11)), zac ([] ++ (cs21 ++ sp19)), zac ([] ++ (cs26 ++ sp24)), zac ([] ++ (cs12 ++ sp12)), (mcont (fun x : Int => zI x) (fun x : Int => zI x) place10)]) hS32
   have K50 := ks w hS32
   refine zap (zbu (zah rfl (zag (zcl (x := x20) (y := 1) (z := (iw (x20 + 1))) rfl rfl rfl ?_))))
   refine zag (zai (v := (zI (iw (x20 + 1)))) rfl (zap ?_))
   have hp22 := hL52.pick [2, 3, 4, 5, 6, 7, 8, 9, 10] rfl rfl rfl
   have hL53 : vL w w56 [some b1, some b6, some b10, ob10, ob11, ob19, ob24, ob12, some b11] [zac [c_v, c_v1, c_v2, c_v3, c_v4, c_v5, c_v6], zac [zN, zN, zN, zN, zN], zac [(zO ob10 min10 cap10), (zO ob11 max10 cap11), (zO ob19 tests10 cap19), (zO ob24 x22 cap24), zN], zac ([] ++ (cs10 ++ sp10)), zac ([] ++ (cs11 ++ sp11)), zac ([] ++ (cs21 ++ sp19)), zac ([] ++ (cs26 ++ sp24)), zac ([] ++ (cs12 ++ sp12)), (mcont (fun x : Int => zI x) (fun x : Int => zI x) place10)] := hp22.1
   have K51 := ks w hp22.2
   have f42 := (((hE50.mono (K49 None)).mono (K50 None)).mono (K51 None))
   obtain rfl := zae h
   refine zaq ⟨(x22, (iw (x20 + 1))), rfl, ?_⟩
   exact ⟨ob24, cap24, sp24, cs26, x22.length, _, (zeu ⟨rfl, rfl, rfl, rfl, rfl, rfl, rfl, rfl, trivial⟩), hL53, (zan (zan (zan (zan (zan (zan K45 K46) K47) K48) K49) K50) K51), f42, rfl, hc34, trivial⟩
  replace h := ite_f hc32 h
  refine zda rfl ?_
  obtain rfl := zae h
  obtain rfl := hd12 _ rfl
  replace h := g12
  try dsimp only at h
  refine zaq ?_
  exact ⟨same11, ob23, cap23, sp23, cs25, same11.length, _, rfl, (zeu ⟨rfl, rfl, rfl, rfl, rfl, trivial⟩), hL47, K45, hE48, rfl, hc31, trivial⟩
 rintro _ w57 ⟨same10, ob22, cap22, sp22, cs24, ln18, u, rfl, rfl, hL54, K52, hE51, rfl, hc35, -⟩
 replace h := g12
 try dsimp only at h
 refine zal (zal (zah rfl (zag (zak (q := 6) zay rfl ti27 rfl rfl rfl ?_))))
 refine zag (zas (v := c_v6) zaz rfl rfl (hL54.at 0 rfl rfl) rfl ?_)
 have f43 := (((((((c_h6.mono (K4 S)).mono (K9 S)).mono (K10 S)).mono (K11 S)).mono (K31 S)).mono (K42 S)).mono (K52 S))
 refine zag (zbg (v := c_v6) zaz rfl f43 ?_)
 refine zag (zai (v := (zI 0)) rfl (zap ?_))
 obtain ⟨s13, hl13, g13⟩ := zes h
 refine zce (fun e w' => ∃ (different10 : (List Arr2Int)) (ob25 : Option Nat) (cap25 : Nat) (sp25 : List Value) (cs27 : List Value) (ln20 : Nat) (u : Env), different10 = s13 ∧ e = upds [(6, (zaj (some ⟨b6, 0, none⟩))), (8, (zaj (some ⟨b10, 0, none⟩))), (9, (zO ob12 numbers10 cap12))] u ∧ vL w w' [some b6, some b10, ob10, ob11, ob19, ob22, ob25, ob12] [zac [zN, zN, zN, zN, zN], zac [(zO ob10 min10 cap10), (zO ob11 max10 cap11), (zO ob19 tests10 cap19), (zO ob22 same10 cap22), (osv ob25 0 ln20 cap25)], zac ([] ++ (cs10 ++ sp10)), zac ([] ++ (cs11 ++ sp11)), zac ([] ++ (cs21 ++ sp19)), zac ([] ++ (cs24 ++ sp22)), zac ([] ++ (cs27 ++ sp25)), zac ([] ++ (cs12 ++ sp12))] ∧ Keep w.heap.size [some b1, some b6, some b10, ob10, ob11, ob19, ob22, ob12, some b11] w57 [some b6, some b10, ob10, ob11, ob19, ob22, ob25, ob12] w' ∧ Els rArr2Int (vH w None [some b6, some b10, ob10, ob11, ob19, ob22, ob25, ob12] w') cs27 different10 ∧ ln20 = List.length different10 ∧ (cs27 ++ sp25).length = cap25 * rArr2Int.sz ∧ True) ?_ ?_
 ·
  refine zbh ?_
  have hp23 := hL54.addNil
  have hL55 : vL w w57 [none, some b1, some b6, some b10, ob10, ob11, ob19, ob22, ob12, some b11] [zac ([] ++ ([] ++ [])), zac [c_v, c_v1, c_v2, c_v3, c_v4, c_v5, c_v6], zac [zN, zN, zN, zN, zN], zac [(zO ob10 min10 cap10), (zO ob11 max10 cap11), (zO ob19 tests10 cap19), (zO ob22 same10 cap22), zN], zac ([] ++ (cs10 ++ sp10)), zac ([] ++ (cs11 ++ sp11)), zac ([] ++ (cs21 ++ sp19)), zac ([] ++ (cs24 ++ sp22)), zac ([] ++ (cs12 ++ sp12)), (mcont (fun x : Int => zI x) (fun x : Int => zI x) place10)] := hp23.1
  have K53 := ks w hp23.2
  have hp24 := hL55.pick [2, 3, 4, 5, 6, 7, 0, 8, 9] rfl rfl rfl
  have hL56 : vL w w57 [some b6, some b10, ob10, ob11, ob19, ob22, none, ob12, some b11] [zac [zN, zN, zN, zN, zN], zac [(zO ob10 min10 cap10), (zO ob11 max10 cap11), (zO ob19 tests10 cap19), (zO ob22 same10 cap22), (osv none 0 (List.length ([] : (List Arr2Int))) 0)], zac ([] ++ (cs10 ++ sp10)), zac ([] ++ (cs11 ++ sp11)), zac ([] ++ (cs21 ++ sp19)), zac ([] ++ (cs24 ++ sp22)), zac ([] ++ ([] ++ [])), zac ([] ++ (cs12 ++ sp12)), (mcont (fun x : Int => zI x) (fun x : Int => zI x) place10)] := hp24.1
  have K54 := ks w hp24.2
  have f44 := ((zcx (r := rArr2Int)).mono (K54 None))
  refine zcr hl13 (fun (ss : ((List Arr2Int) × Int)) (e : Env) (w' : World) => match ss with | (different11, x23) => ∃ (ob26 : Option Nat) (cap26 : Nat) (sp26 : List Value) (cs28 : List Value) (ln21 : Nat) (u : Env), e = upds [(6, (zaj (some ⟨b6, 0, none⟩))), (8, (zaj (some ⟨b10, 0, none⟩))), (9, (zO ob12 numbers10 cap12)), (10, (Value.map (some b11))), (103, c_v6), (104, (zI (c.Different.length : Int))), (105, (zI x23))] u ∧ vL w w' [some b6, some b10, ob10, ob11, ob19, ob22, ob26, ob12, some b11] [zac [zN, zN, zN, zN, zN], zac [(zO ob10 min10 cap10), (zO ob11 max10 cap11), (zO ob19 tests10 cap19), (zO ob22 same10 cap22), (osv ob26 0 ln21 cap26)], zac ([] ++ (cs10 ++ sp10)), zac ([] ++ (cs11 ++ sp11)), zac ([] ++ (cs21 ++ sp19)), zac ([] ++ (cs24 ++ sp22)), zac ([] ++ (cs28 ++ sp26)), zac ([] ++ (cs12 ++ sp12)), (mcont (fun x : Int => zI x) (fun x : Int => zI x) place10)] ∧ Keep w.heap.size [some b1, some b6, some b10, ob10, ob11, ob19, ob22, ob12, some b11] w57 [some b6, some b10, ob10, ob11, ob19, ob22, ob26, ob12, some b11] w' ∧ Els rArr2Int (vH w None [some b6, some b10, ob10, ob11, ob19, ob22, ob26, ob12, some b11] w') cs28 different11 ∧ ln21 = List.length different11 ∧ (cs28 ++ sp26).length = cap26 * rArr2Int.sz ∧ True) ⟨none, 0, [], [], (List.length ([] : (List Arr2Int))), _, (zeu ⟨rfl, rfl, rfl, rfl, rfl, rfl, rfl, trivial⟩), hL56, (zan K53 K54), f44, rfl, (show ([] ++ [] : List Value).length = 0 * rArr2Int.sz by simp), trivial⟩ ?_
  rintro ⟨different11, x23⟩ oo _ w58 ⟨ob26, cap26, sp26, cs28, ln21, u, rfl, hL57, K55, hE52, rfl, hc36, -⟩ h hd13
  rw [vTexts_b4] at h
  refine zal (zah rfl (zag (zcp (x := x23) (y := (c.Different.length : Int)) ((x23 : Int) < (c.Different.length : Int)) rfl rfl zbd ?_)))
  refine zap (zal ?_)
  refine zbf ((x23 : Int) < (c.Different.length : Int)) rfl (fun hc37 => ?_) (fun hc37 => ?_)
  ·
   replace h := ite_t hc37 h
   refine zbk (zal (zbh (zal (zah rfl ?_))))
   obtain ⟨x24, n15, q62, q63, -, h⟩ := zix h
   have f45 := (f43.mono (K55 S))
   obtain ⟨b24, o15, c15, vs15, q64, q65, f46, q66⟩ := zcw f45 q63
   obtain ⟨rfl, -⟩ := rArr2Int_open q66
   refine zag (zbj (r := rArr2Int) (v := c_v6) (n := n15) (m := (o15 + n15 * rArr2Int.sz)) zaz ti54 rfl q64 rfl q62 q63 rfl ?_)
   refine zag (zds (vs := [(zI x24.e0), (zI x24.e1)]) zbv rfl ti54 rfl rfl zex f46 ?_)
   refine zag (zcj (cs := [(zI 0), (zI 0)]) ti54 rfl hL57 ?_)
   intro b25 w59 hL58 hS33
   have K56 := ks w hS33
   refine zcq (zbq (vs := [(zI x24.e0), (zI x24.e1)]) ti54 rfl rfl rfl rfl (zet rfl (zet rfl zew)) hL58 0 rfl rfl (zaf rfl) ?_)
   intro w60 (hL59 : vL w w60 [some b25, some b6, some b10, ob10, ob11, ob19, ob22, ob26, ob12, some b11] [zac [(zI x24.e0), (zI x24.e1)], zac [zN, zN, zN, zN, zN], zac [(zO ob10 min10 cap10), (zO ob11 max10 cap11), (zO ob19 tests10 cap19), (zO ob22 same10 cap22), (zO ob26 different11 cap26)], zac ([] ++ (cs10 ++ sp10)), zac ([] ++ (cs11 ++ sp11)), zac ([] ++ (cs21 ++ sp19)), zac ([] ++ (cs24 ++ sp22)), zac ([] ++ (cs28 ++ sp26)), zac ([] ++ (cs12 ++ sp12)), (mcont (fun x : Int => zI x) (fun x : Int => zI x) place10)]) hS34
   have K57 := ks w hS34
   refine zap (zah rfl (zag (zak (q := 4) zcu rfl ti27 rfl rfl rfl ?_)))
   refine zag (zas (v := (zO ob26 different11 cap26)) zaz rfl rfl (hL59.at 2 rfl rfl) rfl ?_)
   refine zag (zai (v := (Value.map (some b11))) rfl ?_)
   refine zag (zcg (i := 0) (q := 0) zbv ti3 rfl rfl (by decide) rfl ?_)
   refine zag (zas (v := (zI x24.e0)) zat rfl rfl (hL59.at 0 rfl rfl) rfl ?_)
   refine zag (OpY.look0 (kf := (fun x : Int => zI x)) (vf := (fun x : Int => zI x)) (m := place10) (x := x24.e0) (z := 0) mky_3 Tryz.underlying110 ti3 rfl (hL59.at 9 rfl rfl) rfl ?_)
   refine zag (zai (v := (Value.map (some b11))) rfl ?_)
   refine zag (zcg (i := 1) (q := 1) zbv ti3 rfl rfl (by decide) rfl ?_)
   refine zag (zas (v := (zI x24.e1)) zat rfl rfl (hL59.at 0 rfl rfl) rfl ?_)
   refine zag (OpY.look0 (kf := (fun x : Int => zI x)) (vf := (fun x : Int => zI x)) (m := place10) (x := x24.e1) (z := 0) mky_3 Tryz.underlying110 ti3 rfl (hL59.at 9 rfl rfl) rfl ?_)
   refine zag (OpY.buildArr (zc := [(zI 0), (zI 0)]) (vs := [(zI (mget place10 x24.e0 0).1), (zI (mget place10 x24.e1 0).1)]) (css := [[(zI (mget place10 x24.e0 0).1)], [(zI (mget place10 x24.e1 0).1)]]) zbv ti54 rfl ti3 rfl rfl ⟨rfl, rfl, ⟨rfl, rfl, trivial⟩⟩ ?_)
   have hE53 : Els rArr2Int (vH w None [some b25, some b6, some b10, ob10, ob11, ob19, ob22, ob26, ob12, some b11] w60) [(zI (mget place10 x24.e0 0).1), (zI (mget place10 x24.e1 0).1)] [(Arr2Int.mk ((mget place10 x24.e0 0).1) ((mget place10 x24.e1 0).1))] := (zdg (a := [(zI (mget place10 x24.e0 0).1), (zI (mget place10 x24.e1 0).1)]) (rArr2Int_close ⟨rfl, trivial⟩) zcx)
   refine zag (zcv (r := rArr2Int) (vs := [(zar #[(zI (mget place10 x24.e0 0).1), (zI (mget place10 x24.e1 0).1)])]) (css := [[(zI (mget place10 x24.e0 0).1), (zI (mget place10 x24.e1 0).1)]]) (xs := [(Arr2Int.mk ((mget place10 x24.e0 0).1) ((mget place10 x24.e1 0).1))]) zaz ti54 (zaf rfl) rfl rfl ⟨rfl, rfl, trivial⟩ (zaf rfl) hE53 rfl hL59 ?_)
   intro b26 w61 hc38 hL60 hS35
   have K58 := ks w hS35
   obtain ⟨x25, q67, h⟩ := zes h
   obtain ⟨q68, q69, q70⟩ := zfb q67
   have f47 := (hE53.mono (K58 None))
   have f48 := (((hE52.mono (K56 None)).mono (K57 None)).mono (K58 None))
   refine zag (zdo (r := rArr2Int) (H := (vH w None [some b26, some b25, some b6, some b10, ob10, ob11, ob19, ob22, ob26, ob12, some b11] w61)) (cs := cs28) (sp := sp26) (xs := different11) (ys := [(Arr2Int.mk ((mget place10 x24.e0 0).1) ((mget place10 x24.e1 0).1))]) (Y := x25) (n := different11.length) (cap := cap26) (i := 8) zaz ti54 rfl rfl rfl rfl hL60 rfl rfl f48 rfl hc36 (zeg (pre := []) (o := 0) (n := 1) (cap := 1) (hL60.at 0 rfl rfl) f47 rfl rfl rfl) (zef (fun _ _ _ _ h => h) f47) q68 q69 q70 ?_)
   intro ob27 cap27 sp27 cs29 w62 hE54 hc39 (hL61 : vL w w62 [some b26, some b25, some b6, some b10, ob10, ob11, ob19, ob22, ob27, ob12, some b11] [zac ([] ++ ([(zI (mget place10 x24.e0 0).1), (zI (mget place10 x24.e1 0).1)] ++ [])), zac [(zI x24.e0), (zI x24.e1)], zac [zN, zN, zN, zN, zN], zac [(zO ob10 min10 cap10), (zO ob11 max10 cap11), (zO ob19 tests10 cap19), (zO ob22 same10 cap22), (zO ob26 different11 cap26)], zac ([] ++ (cs10 ++ sp10)), zac ([] ++ (cs11 ++ sp11)), zac ([] ++ (cs21 ++ sp19)), zac ([] ++ (cs24 ++ sp22)), zac ([] ++ (cs29 ++ sp27)), zac ([] ++ (cs12 ++ sp12)), (mcont (fun x : Int => zI x) (fun x : Int => zI x) place10)]) hS36
   have K59 := ks w hS36
   refine zag (zak (q := 4) zcu rfl ti27 rfl rfl rfl ?_)
   refine zcq (zbq (vs := [(zO ob27 x25 cap27)]) ti27 rfl rfl (zfa (zez ob27 0 x25.length cap27)) rfl (zet (zez ob27 0 x25.length cap27) zew) hL61 3 rfl rfl (zaf rfl) ?_)
   intro w63 (hL62 : vL w w63 [some b26, some b25, some b6, some b10, ob10, ob11, ob19, ob22, ob27, ob12, some b11] [zac ([] ++ ([(zI (mget place10 x24.e0 0).1), (zI (mget place10 x24.e1 0).1)] ++ [])), zac [(zI x24.e0), (zI x24.e1)], zac [zN, zN, zN, zN, zN], zac [(zO ob10 min10 cap10), (zO ob11 max10 cap11), (zO ob19 tests10 cap19), (zO ob22 same10 cap22), (zO ob27 x25 cap27)], zac ([] ++ (cs10 ++ sp10)), zac ([] ++ (cs11 ++ sp11)), zac ([] ++ (cs21 ++ sp19)), zac ([] ++ (cs24 ++ sp22)), zac ([] ++ (cs29 ++ sp27)), zac ([] ++ (cs12 ++ sp12)), (mcont (fun x : Int => zI x) (fun x : Int => zI x) place10)]) hS37
   have K60 := ks w hS37
   refine zap (zbu (zah rfl (zag (zcl (x := x23) (y := 1) (z := (iw (x23 + 1))) rfl rfl rfl ?_))))
   refine zag (zai (v := (zI (iw (x23 + 1)))) rfl (zap ?_))
   have hp25 := hL62.pick [2, 3, 4, 5, 6, 7, 8, 9, 10] rfl rfl rfl
   have hL63 : vL w w63 [some b6, some b10, ob10, ob11, ob19, ob22, ob27, ob12, some b11] [zac [zN, zN, zN, zN, zN], zac [(zO ob10 min10 cap10), (zO ob11 max10 cap11), (zO ob19 tests10 cap19), (zO ob22 same10 cap22), (zO ob27 x25 cap27)], zac ([] ++ (cs10 ++ sp10)), zac ([] ++ (cs11 ++ sp11)), zac ([] ++ (cs21 ++ sp19)), zac ([] ++ (cs24 ++ sp22)), zac ([] ++ (cs29 ++ sp27)), zac ([] ++ (cs12 ++ sp12)), (mcont (fun x : Int => zI x) (fun x : Int => zI x) place10)] := hp25.1
   have K61 := ks w hp25.2
   have f49 := (((hE54.mono (K59 None)).mono (K60 None)).mono (K61 None))
   obtain rfl := zae h
   refine zaq ⟨(x25, (iw (x23 + 1))), rfl, ?_⟩
   exact ⟨ob27, cap27, sp27, cs29, x25.length, _, (zeu ⟨rfl, rfl, rfl, rfl, rfl, rfl, rfl, trivial⟩), hL63, (zan (zan (zan (zan (zan (zan K55 K56) K57) K58) K59) K60) K61), f49, rfl, hc39, trivial⟩
  replace h := ite_f hc37 h
  refine zda rfl ?_
  have hp26 := hL57.pick [0, 1, 2, 3, 4, 5, 6, 7] rfl rfl rfl
  have hL64 : vL w w58 [some b6, some b10, ob10, ob11, ob19, ob22, ob26, ob12] [zac [zN, zN, zN, zN, zN], zac [(zO ob10 min10 cap10), (zO ob11 max10 cap11), (zO ob19 tests10 cap19), (zO ob22 same10 cap22), (zO ob26 different11 cap26)], zac ([] ++ (cs10 ++ sp10)), zac ([] ++ (cs11 ++ sp11)), zac ([] ++ (cs21 ++ sp19)), zac ([] ++ (cs24 ++ sp22)), zac ([] ++ (cs28 ++ sp26)), zac ([] ++ (cs12 ++ sp12))] := hp26.1
  have K62 := ks w hp26.2
  have f50 := (hE52.mono (K62 None))
  obtain rfl := zae h
  obtain rfl := hd13 _ rfl
  replace h := g13
  try dsimp only at h
  refine zaq ?_
  exact ⟨different11, ob26, cap26, sp26, cs28, different11.length, _, rfl, (zeu ⟨rfl, rfl, rfl, trivial⟩), hL64, (zan K55 K62), f50, rfl, hc36, trivial⟩
 rintro _ w64 ⟨different10, ob25, cap25, sp25, cs27, ln20, u, rfl, rfl, hL65, K63, hE55, rfl, hc40, -⟩
 replace h := g13
 try dsimp only at h
 refine zal (zah rfl (zag (zbr (vs := [(zO ob10 min10 cap10), (zO ob11 max10 cap11), (zO ob19 tests10 cap19), (zO ob22 same10 cap22), (zO ob25 different10 cap25)]) zcu rfl ti41 rfl (hL65.at 1 rfl rfl) rfl rfl ?_)))
 refine zag (zai (v := (zO ob12 numbers10 cap12)) rfl ?_)
 refine zcq (zbq (vs := [(zO ob10 min10 cap10), (zO ob11 max10 cap11), (zO ob19 tests10 cap19), (zO ob22 same10 cap22), (zO ob25 different10 cap25)]) ti41 rfl rfl rfl rfl (zet (zez _ _ _ _) (zet (zez _ _ _ _) (zet (zez _ _ _ _) (zet (zez _ _ _ _) (zet (zez _ _ _ _) zew))))) hL65 0 rfl rfl (zaf rfl) ?_)
 intro w65 (hL66 : vL w w65 [some b6, some b10, ob10, ob11, ob19, ob22, ob25, ob12] [zac [(zO ob10 min10 cap10), (zO ob11 max10 cap11), (zO ob19 tests10 cap19), (zO ob22 same10 cap22), (zO ob25 different10 cap25)], zac [(zO ob10 min10 cap10), (zO ob11 max10 cap11), (zO ob19 tests10 cap19), (zO ob22 same10 cap22), (zO ob25 different10 cap25)], zac ([] ++ (cs10 ++ sp10)), zac ([] ++ (cs11 ++ sp11)), zac ([] ++ (cs21 ++ sp19)), zac ([] ++ (cs24 ++ sp22)), zac ([] ++ (cs27 ++ sp25)), zac ([] ++ (cs12 ++ sp12))]) hS38
 have K64 := ks w hS38
 refine zag (zam (v := (zO ob12 numbers10 cap12)) rfl (zap ?_))
 have f51 := ((((hE41.mono (K42 None)).mono (K52 None)).mono (K63 None)).mono (K64 None))
 have f52 := hL66.freezeRow 2 rfl rfl f51 rfl rfl rfl hc23
 have hp27 := hL66.pick [0, 1, 3, 4, 5, 6, 7] rfl rfl rfl
 have hL67 : vL w w65 [some b6, some b10, ob11, ob19, ob22, ob25, ob12] [zac [(zO ob10 min10 cap10), (zO ob11 max10 cap11), (zO ob19 tests10 cap19), (zO ob22 same10 cap22), (zO ob25 different10 cap25)], zac [(zO ob10 min10 cap10), (zO ob11 max10 cap11), (zO ob19 tests10 cap19), (zO ob22 same10 cap22), (zO ob25 different10 cap25)], zac ([] ++ (cs11 ++ sp11)), zac ([] ++ (cs21 ++ sp19)), zac ([] ++ (cs24 ++ sp22)), zac ([] ++ (cs27 ++ sp25)), zac ([] ++ (cs12 ++ sp12))] := hp27.1
 have K65 := ks w hp27.2
 have f53 := (((((hE42.mono (K42 None)).mono (K52 None)).mono (K63 None)).mono (K64 None)).mono (K65 None))
 have f54 := hL67.freezeRow 2 rfl rfl f53 rfl rfl rfl hc24
 have hp28 := hL67.pick [0, 1, 3, 4, 5, 6] rfl rfl rfl
 have hL68 : vL w w65 [some b6, some b10, ob19, ob22, ob25, ob12] [zac [(zO ob10 min10 cap10), (zO ob11 max10 cap11), (zO ob19 tests10 cap19), (zO ob22 same10 cap22), (zO ob25 different10 cap25)], zac [(zO ob10 min10 cap10), (zO ob11 max10 cap11), (zO ob19 tests10 cap19), (zO ob22 same10 cap22), (zO ob25 different10 cap25)], zac ([] ++ (cs21 ++ sp19)), zac ([] ++ (cs24 ++ sp22)), zac ([] ++ (cs27 ++ sp25)), zac ([] ++ (cs12 ++ sp12))] := hp28.1
 have K66 := ks w hp28.2
 have f55 := (((((hE47.mono (K52 None)).mono (K63 None)).mono (K64 None)).mono (K65 None)).mono (K66 None))
 have f56 := hL68.freezeRow 2 rfl rfl f55 rfl rfl rfl hc30
 have hp29 := hL68.pick [0, 1, 3, 4, 5] rfl rfl rfl
 have hL69 : vL w w65 [some b6, some b10, ob22, ob25, ob12] [zac [(zO ob10 min10 cap10), (zO ob11 max10 cap11), (zO ob19 tests10 cap19), (zO ob22 same10 cap22), (zO ob25 different10 cap25)], zac [(zO ob10 min10 cap10), (zO ob11 max10 cap11), (zO ob19 tests10 cap19), (zO ob22 same10 cap22), (zO ob25 different10 cap25)], zac ([] ++ (cs24 ++ sp22)), zac ([] ++ (cs27 ++ sp25)), zac ([] ++ (cs12 ++ sp12))] := hp29.1
 have K67 := ks w hp29.2
 have f57 := (((((hE51.mono (K63 None)).mono (K64 None)).mono (K65 None)).mono (K66 None)).mono (K67 None))
 have f58 := hL69.freezeRow 2 rfl rfl f57 rfl rfl rfl hc35
 have hp30 := hL69.pick [0, 1, 3, 4] rfl rfl rfl
 have hL70 : vL w w65 [some b6, some b10, ob25, ob12] [zac [(zO ob10 min10 cap10), (zO ob11 max10 cap11), (zO ob19 tests10 cap19), (zO ob22 same10 cap22), (zO ob25 different10 cap25)], zac [(zO ob10 min10 cap10), (zO ob11 max10 cap11), (zO ob19 tests10 cap19), (zO ob22 same10 cap22), (zO ob25 different10 cap25)], zac ([] ++ (cs27 ++ sp25)), zac ([] ++ (cs12 ++ sp12))] := hp30.1
 have K68 := ks w hp30.2
 have f59 := (((((hE55.mono (K64 None)).mono (K65 None)).mono (K66 None)).mono (K67 None)).mono (K68 None))
 have f60 := hL70.freezeRow 2 rfl rfl f59 rfl rfl rfl hc40
 have hp31 := hL70.pick [0, 1, 3] rfl rfl rfl
 have hL71 : vL w w65 [some b6, some b10, ob12] [zac [(zO ob10 min10 cap10), (zO ob11 max10 cap11), (zO ob19 tests10 cap19), (zO ob22 same10 cap22), (zO ob25 different10 cap25)], zac [(zO ob10 min10 cap10), (zO ob11 max10 cap11), (zO ob19 tests10 cap19), (zO ob22 same10 cap22), (zO ob25 different10 cap25)], zac ([] ++ (cs12 ++ sp12))] := hp31.1
 have K69 := ks w hp31.2
 refine zbl ?_
 obtain rfl := zae h
 refine ⟨[(zar #[(zO ob10 min10 cap10), (zO ob11 max10 cap11), (zO ob19 tests10 cap19), (zO ob22 same10 cap22), (zO ob25 different10 cap25)]), (zO ob12 numbers10 cap12)], ⟨⟨⟨b6, 0, none⟩, rfl, zfd zcu rfl ti41 (hL71.at 0 rfl rfl) rfl⟩, zrt⟩, ⟨_, rfl, hL71.done, ?_⟩⟩
 have f61 := ((((f52.mono (K66 None)).mono (K67 None)).mono (K68 None)).mono (K69 None))
 have f62 := (((f54.mono (K67 None)).mono (K68 None)).mono (K69 None))
 have f63 := ((f56.mono (K68 None)).mono (K69 None))
 have f64 := (f58.mono (K69 None))
 have f65 := (((((((((hE43.mono (K42 None)).mono (K52 None)).mono (K63 None)).mono (K64 None)).mono (K65 None)).mono (K66 None)).mono (K67 None)).mono (K68 None)).mono (K69 None))
 exact ⟨(zO ob10 min10 cap10), (zO ob11 max10 cap11), (zO ob19 tests10 cap19), (zO ob22 same10 cap22), (zO ob25 different10 cap25), ob12, cap12, cs12, sp12, rfl, (hL71.newOwn [2] rfl rfl rfl), (f61.mono (zdx [2] rfl)), (f62.mono (zdx [2] rfl)), (f63.mono (zdx [2] rfl)), (f64.mono (zdx [2] rfl)), (f60.mono (zdx [2] rfl)), (f65.mono (zdx [2] rfl)), hc25, trivial⟩
theorem vcheck_w (N : Nat) : ∀ (l : (List RVar)) (c : RClause) (pc : Refut) (ranges : (List Arr2Int)) (l_v : Value) (c_v : Value) (c_v1 : Value) (c_v2 : Value) (c_v3 : Value) (c_v4 : Value) (c_v5 : Value) (c_v6 : Value) (pc_v : Value) (pc_v1 : Value) (pc_v2 : Value) (pc_v3 : Value) (pc_v4 : Value) (ranges_v : Value) (w : World) (S : Nat → Prop) (l_h : Rs rRVar (vH w S [] w) l_v l) (c_h : Rs rI (vH w S [] w) c_v c.Null) (c_h1 : Rs rI (vH w S [] w) c_v1 c.NotNull) (c_h2 : Rs rRAux (vH w S [] w) c_v2 c.Auxiliary) (c_h3 : Rs rConstraint (vH w S [] w) c_v3 c.Ints) (c_h4 : Rs rTTest (vH w S [] w) c_v4 c.Tests) (c_h5 : Rs rArr2Int (vH w S [] w) c_v5 c.Same) (c_h6 : Rs rArr2Int (vH w S [] w) c_v6 c.Different) (pc_h : Rs rStep (vH w S [] w) pc_v pc.Proof.Steps) (pc_h1 : Rs rBig (vH w S [] w) pc_v1 pc.Proof.Form) (pc_h2 : Rs (rInt .u32) (vH w S [] w) pc_v2 pc.Proof.Bound.Digits) (pc_h3 : Rs rProof (vH w S [] w) pc_v3 pc.Proof.Children) (pc_h4 : Rs rRefut (vH w S [] w) pc_v4 pc.Children) (ranges_h : Rs rArr2Int (vH w S [] w) ranges_v ranges) (r : Bool) (h : vcheck N l c pc ranges = some r), Calls Tryz.prog 60 #[l_v, (zar #[c_v, c_v1, c_v2, c_v3, c_v4, c_v5, c_v6]), (zar #[(zI pc.Kind), (zI pc.Var), (zI pc.At), pc_v, pc_v1, (zab pc.Proof.Bound.Negative), pc_v2, pc_v3, pc_v4]), ranges_v] w (Ret w (fun v w' => (zab r) = v ∧ True)) := by
 induction N with
 | zero => intro l c pc ranges l_v c_v c_v1 c_v2 c_v3 c_v4 c_v5 c_v6 pc_v pc_v1 pc_v2 pc_v3 pc_v4 ranges_v w S l_h c_h c_h1 c_h2 c_h3 c_h4 c_h5 c_h6 pc_h pc_h1 pc_h2 pc_h3 pc_h4 ranges_h r h; cases (show (none : Option Bool) = some r from h)
 | succ N ih =>
  intro l c pc ranges l_v c_v c_v1 c_v2 c_v3 c_v4 c_v5 c_v6 pc_v pc_v1 pc_v2 pc_v3 pc_v4 ranges_v w S l_h c_h c_h1 c_h2 c_h3 c_h4 c_h5 c_h6 pc_h pc_h1 pc_h2 pc_h3 pc_h4 ranges_h r h
  replace h : vcheck_step N (vcheck N) l c pc ranges = some r := h
  unfold vcheck_step at h
  have hL : vL w w [] [] := Go.X.Loc.begin0 w
  refine calls_of (l := [l_v, (zar #[c_v, c_v1, c_v2, c_v3, c_v4, c_v5, c_v6]), (zar #[(zI pc.Kind), (zI pc.Var), (zI pc.At), pc_v, pc_v1, (zab pc.Proof.Bound.Negative), pc_v2, pc_v3, pc_v4]), ranges_v]) (rl := [.tmp 8]) (n := 152) Tryz.func60 rfl rfl rfl (zaf rfl) ?_
  refine zal (zah rfl (zag (zdu (cs := [c_v, c_v1, c_v2, c_v3, c_v4, c_v5, c_v6]) rfl rfl hL ?_)))
  intro b1 w2 hL3 hS5
  have K4 := ks w hS5
  refine zag (zdu (cs := [(zI pc.Kind), (zI pc.Var), (zI pc.At), pc_v, pc_v1, (zab pc.Proof.Bound.Negative), pc_v2, pc_v3, pc_v4]) rfl rfl hL3 ?_)
  intro b6 w7 hL8 hS10
  have K9 := ks w hS10
  refine zag (zam (v := zF) rfl ?_)
  refine zap (zal (zal (zah rfl (zag (zak (q := 0) zdb rfl ti3 rfl rfl rfl ?_)))))
  refine zag (zas (v := (zI pc.Kind)) zat rfl rfl (hL8.at 0 rfl rfl) rfl ?_)
  refine zap (zbh (zal (zah rfl (zag (zeb (x := pc.Kind) (y := 0) ((pc.Kind : Int) = 0) rfl rfl zbd ?_)))))
  refine zag (zam (v := (zab (decide ((pc.Kind : Int) = 0)))) rfl (zap ?_))
  refine zbf ((pc.Kind : Int) = 0) rfl (fun hc10 => ?_) (fun hc10 => ?_)
  ·
   replace h := ite_t hc10 h
   refine zal (zah rfl (zag (zak (q := 0) zay rfl ti23 rfl rfl rfl ?_)))
   refine zag (zas (v := c_v) zaw rfl rfl (hL8.at 1 rfl rfl) rfl ?_)
   refine zag (zak (q := 1) zdb rfl ti3 rfl rfl rfl ?_)
   refine zag (zas (v := (zI pc.Var)) zat rfl rfl (hL8.at 0 rfl rfl) rfl ?_)
   obtain ⟨r10, q10, h⟩ := zes h
   have f10 := ((c_h.mono (K4 S)).mono (K9 S))
   refine zag (zbc en91 rfl rfl (containsOf_w N c.Null pc.Var c_v _ Any (f10.mono vw_any) r10 q10) ?_)
   rintro _ w10 hE10 ⟨rfl, -⟩
   obtain ⟨hL10, K10⟩ := zl hL8 hE10
   refine zag (zai (v := (zab r10)) rfl ?_)
   by_cases hc11 : r10 = true
   ·
    replace h := ite_t hc11 h
    refine zba rfl rfl hc11 (zak (q := 1) zay rfl ti23 rfl rfl rfl ?_)
    refine zba rfl rfl hc11 (zas (v := c_v1) zaw rfl rfl (hL10.at 1 rfl rfl) rfl ?_)
    refine zba rfl rfl hc11 (zak (q := 1) zdb rfl ti3 rfl rfl rfl ?_)
    refine zba rfl rfl hc11 (zas (v := (zI pc.Var)) zat rfl rfl (hL10.at 0 rfl rfl) rfl ?_)
    obtain ⟨r11, q11, h⟩ := zes h
    have f11 := (((c_h1.mono (K4 S)).mono (K9 S)).mono (K10 S))
    refine zba rfl rfl hc11 (zbc en91 rfl rfl (containsOf_w N c.NotNull pc.Var c_v1 _ Any (f11.mono vw_any) r11 q11) ?_)
    rintro _ w11 hE11 ⟨rfl, -⟩
    obtain ⟨hL11, K11⟩ := zl hL10 hE11
    refine zba rfl rfl hc11 (zai (v := (zab r11)) rfl ?_)
    by_cases hc12 : r11 = true
    ·
     replace h := ite_t hc12 h
     refine zbb rfl rfl hc12 ?_
     refine zbb rfl rfl hc12 ?_
     refine zbb rfl rfl hc12 ?_
     refine zbb rfl rfl hc12 ?_
     refine zbb rfl rfl hc12 ?_
     refine zbb rfl rfl hc12 ?_
     refine zbb rfl rfl hc12 ?_
     refine zba rfl rfl hc11 (zbe (t := r11) (v := zT) rfl hc12 rfl ?_)
     refine zag (zbe (t := r10) (v := zT) rfl hc11 rfl ?_)
     refine zag (zam (v := zT) rfl ?_)
     refine zap (zbl ?_)
     obtain rfl := zae h
     refine ⟨[zT], zrt, ⟨_, rfl, hL11.done, ?_⟩⟩
     exact zrt
    replace h := ite_f hc12 h
    refine zba rfl rfl (zer hc12) (zai (v := l_v) rfl ?_)
    refine zba rfl rfl (zer hc12) (zak (q := 1) zdb rfl ti3 rfl rfl rfl ?_)
    refine zba rfl rfl (zer hc12) (zas (v := (zI pc.Var)) zat rfl rfl (hL11.at 0 rfl rfl) rfl ?_)
    obtain ⟨x10, n10, q13, q14, -, h⟩ := zix h
    have f12 := ((((l_h.mono (K4 S)).mono (K9 S)).mono (K10 S)).mono (K11 S))
    obtain ⟨b10, o10, c10, vs10, q15, q16, f13, q17⟩ := zcw f12 q14
    obtain ⟨rfl, -⟩ := rRVar_open q17
    refine zba rfl rfl (zer hc12) (zbj (r := rRVar) (v := l_v) (n := n10) (m := (o10 + n10 * rRVar.sz)) zbt ti83 rfl q15 rfl q13 q14 rfl ?_)
    have f14 := (f13.part (us := [(zab x10.Nullable)]) 4 rfl)
    refine zba rfl rfl (zer hc12) (zak (q := (o10 + n10 * rRVar.sz) + 4) zcc rfl ti4 rfl rfl rfl ?_)
    refine zba rfl rfl (zer hc12) (zby (v := (zab x10.Nullable)) zdc rfl rfl zex f14 ?_)
    refine zba rfl rfl (zer hc12) (zdy (x := x10.Nullable) rfl ?_)
    refine zba rfl rfl hc11 (zbn (t := r11) (v := (zab (!x10.Nullable))) rfl (zer hc12) rfl ?_)
    refine zag (zbe (t := r10) (v := (zab (!x10.Nullable))) rfl hc11 rfl ?_)
    refine zag (zam (v := (zab (!x10.Nullable))) rfl ?_)
    refine zap (zbl ?_)
    obtain rfl := zae h
    refine ⟨[(zab (!x10.Nullable))], zrt, ⟨_, rfl, hL11.done, ?_⟩⟩
    exact zrt
   replace h := ite_f hc11 h
   refine zbb rfl rfl (zer hc11) (zbb rfl rfl (zer hc11) (zbb rfl rfl (zer hc11) (zbb rfl rfl (zer hc11) (zbb rfl rfl (zer hc11) (zbb rfl rfl (zer hc11) ?_)))))
   refine zdi rfl rfl ?_
   refine zdi rfl rfl ?_
   refine zdi rfl rfl ?_
   refine zdi rfl rfl ?_
   refine zdi rfl rfl ?_
   refine zdi rfl rfl ?_
   refine zdi rfl rfl ?_
   refine zbb rfl rfl (zer hc11) ?_
   refine zag (zbn (t := r10) (v := zF) rfl (zer hc11) rfl ?_)
   refine zag (zam (v := zF) rfl ?_)
   refine zap (zbl ?_)
   obtain rfl := zae h
   refine ⟨[zF], zrt, ⟨_, rfl, hL10.done, ?_⟩⟩
   exact zrt
  replace h := ite_f hc10 h
  refine zal (zah rfl (zag (zeb (x := pc.Kind) (y := 1) ((pc.Kind : Int) = 1) rfl rfl zbd ?_)))
  refine zag (zam (v := (zab (decide ((pc.Kind : Int) = 1)))) rfl (zap ?_))
  refine zbf ((pc.Kind : Int) = 1) rfl (fun hc13 => ?_) (fun hc13 => ?_)
  ·
   replace h := ite_t hc13 h
   refine zal (zah rfl (zag (zai (v := l_v) rfl ?_)))
   refine zag (zbr (vs := [c_v, c_v1, c_v2, c_v3, c_v4, c_v5, c_v6]) zay rfl ti29 rfl (hL8.at 1 rfl rfl) rfl rfl ?_)
   refine zag (zai (v := ranges_v) rfl ?_)
   obtain ⟨r12, q18, h⟩ := zes h
   have f15 := ((l_h.mono (K4 S)).mono (K9 S))
   have f16 := ((c_h.mono (K4 S)).mono (K9 S))
   have f17 := ((c_h1.mono (K4 S)).mono (K9 S))
   have f18 := ((c_h2.mono (K4 S)).mono (K9 S))
   have f19 := ((c_h3.mono (K4 S)).mono (K9 S))
   have f20 := ((c_h4.mono (K4 S)).mono (K9 S))
   have f21 := ((c_h5.mono (K4 S)).mono (K9 S))
   have f22 := ((c_h6.mono (K4 S)).mono (K9 S))
   have f23 := ((ranges_h.mono (K4 S)).mono (K9 S))
   refine zag (zbc en15 rfl rfl (vTexts_w N l c ranges l_v c_v c_v1 c_v2 c_v3 c_v4 c_v5 c_v6 ranges_v _ Any (f15.mono vw_any) (f16.mono vw_any) (f17.mono vw_any) (f18.mono vw_any) (f19.mono vw_any) (f20.mono vw_any) (f21.mono vw_any) (f22.mono vw_any) (f23.mono vw_any) r12 q18) ?_)
   rintro _ w12 hE12 ⟨v10, v11, v12, v13, v14, ob10, cap10, cs10, sp10, rfl, hN10, k10, k11, k12, k13, k14, hE13, hc14, -⟩
   replace k10 := k10.mono (zch (S := None) hL8 [ob10])
   replace k11 := k11.mono (zch (S := None) hL8 [ob10])
   replace k12 := k12.mono (zch (S := None) hL8 [ob10])
   replace k13 := k13.mono (zch (S := None) hL8 [ob10])
   replace k14 := k14.mono (zch (S := None) hL8 [ob10])
   replace hE13 := hE13.mono (zch (S := None) hL8 [ob10])
   have hp10 := hL8.adoptL hE12 hN10
   have hL12 := hp10.1
   refine zag (zai (v := (Value.tuple #[(zar #[v10, v11, v12, v13, v14]), (zO ob10 r12.2 cap10)])) rfl ?_)
   refine zag (zdn (vs := [(zar #[v10, v11, v12, v13, v14]), (zO ob10 r12.2 cap10)]) (v := (zar #[v10, v11, v12, v13, v14])) rfl rfl ?_)
   refine zag (zdn (vs := [(zar #[v10, v11, v12, v13, v14]), (zO ob10 r12.2 cap10)]) (v := (zO ob10 r12.2 cap10)) rfl rfl ?_)
   refine zag (zcj (cs := [zN, zN, zN, zN, zN]) ti41 rfl hL12 ?_)
   intro b11 w13 hL13 hS11
   have K12 := ks w hS11
   have f24 := (k14.mono (K12 None))
   have f25 := (k13.mono (K12 None))
   have f26 := (k12.mono (K12 None))
   have f27 := (k11.mono (K12 None))
   have f28 := (k10.mono (K12 None))
   refine zcq (zbq (vs := [v10, v11, v12, v13, v14]) ti41 rfl rfl rfl rfl (zet f28.one (zet f27.one (zet f26.one (zet f25.one (zet f24.one zew))))) hL13 0 rfl rfl (zaf rfl) ?_)
   intro w14 (hL14 : vL w w14 [some b11, ob10, some b6, some b1] [zac [v10, v11, v12, v13, v14], zac ([] ++ (cs10 ++ sp10)), zac [(zI pc.Kind), (zI pc.Var), (zI pc.At), pc_v, pc_v1, (zab pc.Proof.Bound.Negative), pc_v2, pc_v3, pc_v4], zac [c_v, c_v1, c_v2, c_v3, c_v4, c_v5, c_v6]]) hS12
   refine zag (zam (v := (zO ob10 r12.2 cap10)) rfl ?_)
   refine zap (zal (zah rfl (zag (zbr (vs := [v10, v11, v12, v13, v14]) zcu rfl ti41 rfl (hL14.at 0 rfl rfl) rfl rfl ?_))))
   cases h
  replace h := ite_f hc13 h
  refine zal (zah rfl (zag (zeb (x := pc.Kind) (y := 2) ((pc.Kind : Int) = 2) rfl rfl zbd ?_)))
  refine zag (zam (v := (zab (decide ((pc.Kind : Int) = 2)))) rfl (zap ?_))
  refine zbf ((pc.Kind : Int) = 2) rfl (fun hc15 => ?_) (fun hc15 => ?_)
  ·
   replace h := ite_t hc15 h
   refine zal (zah rfl (zag (zai (v := l_v) rfl ?_)))
   refine zag (zbr (vs := [c_v, c_v1, c_v2, c_v3, c_v4, c_v5, c_v6]) zay rfl ti29 rfl (hL8.at 1 rfl rfl) rfl rfl ?_)
   refine zag (zai (v := ranges_v) rfl ?_)
   obtain ⟨r13, q19, h⟩ := zes h
   have f29 := ((l_h.mono (K4 S)).mono (K9 S))
   have f30 := ((c_h.mono (K4 S)).mono (K9 S))
   have f31 := ((c_h1.mono (K4 S)).mono (K9 S))
   have f32 := ((c_h2.mono (K4 S)).mono (K9 S))
   have f33 := ((c_h3.mono (K4 S)).mono (K9 S))
   have f34 := ((c_h4.mono (K4 S)).mono (K9 S))
   have f35 := ((c_h5.mono (K4 S)).mono (K9 S))
   have f36 := ((c_h6.mono (K4 S)).mono (K9 S))
   have f37 := ((ranges_h.mono (K4 S)).mono (K9 S))
   refine zag (zbc en12 rfl rfl (vInts_w N l c ranges l_v c_v c_v1 c_v2 c_v3 c_v4 c_v5 c_v6 ranges_v _ Any (f29.mono vw_any) (f30.mono vw_any) (f31.mono vw_any) (f32.mono vw_any) (f33.mono vw_any) (f34.mono vw_any) (f35.mono vw_any) (f36.mono vw_any) (f37.mono vw_any) r13 q19) ?_)
   rintro _ w15 hE14 ⟨ob11, cap11, cs11, sp11, rfl, hN11, hE15, hc16, -⟩
   replace hE15 := hE15.mono (zch (S := None) hL8 [ob11])
   have hp11 := hL8.adoptL hE14 hN11
   have hL15 := hp11.1
   have K13 := ks w hp11.2
   refine zag (zai (v := (Value.tuple #[(zI r13.1), (zO ob11 r13.2 cap11)])) rfl ?_)
   refine zag (zdn (vs := [(zI r13.1), (zO ob11 r13.2 cap11)]) (v := (zI r13.1)) rfl rfl ?_)
   refine zag (zdn (vs := [(zI r13.1), (zO ob11 r13.2 cap11)]) (v := (zO ob11 r13.2 cap11)) rfl rfl ?_)
   refine zag (zam (v := (zI r13.1)) rfl ?_)
   refine zag (zam (v := (zO ob11 r13.2 cap11)) rfl ?_)
   refine zap (zal ?_)
   obtain ⟨r14, q20, h⟩ := zes h
   refine zcm 5 [] [] (fun W1 => [.det (zO ob11 r13.2 cap11), .det (zI r13.1), .rel (fun v Z w' => ∃ ob12 cap12 cs12 sp12, (zO ob12 r14 cap12) = v ∧ OwnC w' ob12 (zac ([] ++ (cs12 ++ sp12))) ∧ Els rIneq (vZ W1 w None [ob11, some b6, some b1] Z w') cs12 r14 ∧ (cs12 ++ sp12 : List Value).length = cap12 * rIneq.sz ∧ True) footV, .det (zaj (some ⟨b6, 3, none⟩)), .det (zar #[pc_v, pc_v1, (zab pc.Proof.Bound.Negative), pc_v2, pc_v3])]) mixed rfl rfl rfl (fun _ => rfl) (fun _ => rfl) ?_ ?_
   ·
    intro W1 _
    exact ⟨fun v Z Z' w w' hΦ hz _ _ hs => by obtain ⟨ob12, cap12, cs12, sp12, rfl, hO10, hE16, hc17, -⟩ := hΦ; exact ⟨ob12, cap12, cs12, sp12, rfl, (hO10.stay (fun b hb => (zfc (ob := ob12) (o := 0) (n := r14.length) (cap := cap12)).2 (by rw [hb]; exact zbi)) hs), (hE16.mono (zdt hz hs)), hc17, trivial⟩, trivial⟩
   intro w16 hE17
   obtain ⟨hL16, K14⟩ := zl hL15 hE17
   refine zao (fun _ _ => zau (zai rfl (er rfl))) ?_
   refine zao (fun _ _ => zau (zai rfl (er rfl))) ?_
   refine zdw ?_ ?_
   ·
    rintro w19 Z21 hE20 hZ12 ⟨-⟩
    obtain ⟨hL17, K15⟩ := zl hL16 hE20
    refine zau (zbc en94 rfl rfl (cSystem_w N r13.2 r13.1 (zO ob11 r13.2 cap11) _ Any (zey (pre := []) (o := 0) (n := r13.2.length) (cap := cap11) (hL17.at 0 rfl rfl) ((hE15.mono (K14 None)).mono (K15 None)) vw_any rfl rfl rfl hc16) r14 q20) ?_)
    rintro _ w20 hE21 ⟨ob12, cap12, cs12, sp12, rfl, hN12, hE16, hc17, -⟩
    exact zdp hE21 hZ12 hN12 (fun b hb => footV_osv.1 hb) ⟨ob12, cap12, cs12, sp12, rfl, hN12.2.2.1, (hE16.mono zec), hc17, trivial⟩
   intro z2
   refine zao (fun _ _ => zau (zak zdb rfl ti70 rfl rfl rfl (er rfl))) ?_
   refine zao (fun _ hE23 => zau (zbr (vs := [pc_v, pc_v1, (zab pc.Proof.Bound.Negative), pc_v2, pc_v3]) zdk rfl ti70 rfl ((hL16.ext hE23).at 1 rfl rfl) rfl rfl (er rfl))) ?_
   refine zcy ?_
   rintro w23 Z24 hE24 hZ15 ⟨⟨⟨ob12, cap12, cs12, sp12, rfl, hO10, hE16, hc17, -⟩, hB2⟩, -⟩ ap10
   have hB10 : ∀ b, some b ∈ ([ob12] : List (Option Nat)) → w16.heap.size ≤ b ∧ ¬ Z24 b := by
    intro b hb
    rcases List.mem_cons.1 hb with hb' | hb
    ·
     have := hB2 b ((zfc (ob := ob12) (o := 0) (n := r14.length) (cap := cap12)).2 (by rw [hb']; exact zbi)); exact ⟨this.1, this.2.2⟩
    cases hb
   replace hE16 := hE16.mono (zed hL16 hZ15 hB10)
   have hN13 : NewOwn w16 w23 [ob12] [zac ([] ++ (cs12 ++ sp12))] := (zdv zde hO10 (fun b hb => (hB10 b (by rw [← hb]; simp)).1) (fun b _ hb => by cases hb))
   have hp12 := hL16.adoptL hE24 hN13
   have hL19 := hp12.1
   have K16 := ks w hp12.2
   obtain ⟨r15, q21, h⟩ := zes h
   have f38 := (((((pc_h.mono (K4 S)).mono (K9 S)).mono (K13 S)).mono (K14 S)).mono (K16 S))
   have f39 := (((((pc_h1.mono (K4 S)).mono (K9 S)).mono (K13 S)).mono (K14 S)).mono (K16 S))
   have f40 := (((((pc_h2.mono (K4 S)).mono (K9 S)).mono (K13 S)).mono (K14 S)).mono (K16 S))
   have f41 := (((((pc_h3.mono (K4 S)).mono (K9 S)).mono (K13 S)).mono (K14 S)).mono (K16 S))
   refine zag (zbc en93 rfl rfl (cCheck_w N r14 pc.Proof (zO ob12 r14 cap12) pc_v pc_v1 pc_v2 pc_v3 _ Any (zey (pre := []) (o := 0) (n := r14.length) (cap := cap12) (hL19.at 0 rfl rfl) hE16 vw_any rfl rfl rfl hc17) (f38.mono vw_any) (f39.mono vw_any) (f40.mono vw_any) (f41.mono vw_any) r15 q21) ?_)
   rintro _ w24 hE25 ⟨rfl, -⟩
   have hL20 := hL19.ext hE25
   refine zag (zam (v := (zab r15)) rfl ?_)
   refine zap (zbl ?_)
   obtain rfl := zae h
   refine ⟨[(zab r15)], zrt, ⟨_, rfl, hL20.done, ?_⟩⟩
   exact zrt
  replace h := ite_f hc15 h
  refine zal (zah rfl (zag (zeb (x := pc.Kind) (y := 3) ((pc.Kind : Int) = 3) rfl rfl zbd ?_)))
  refine zag (zam (v := (zab (decide ((pc.Kind : Int) = 3)))) rfl (zap ?_))
  refine zbf ((pc.Kind : Int) = 3) rfl (fun hc18 => ?_) (fun hc18 => ?_)
  ·
   replace h := ite_t hc18 h
   refine zal (zah rfl (zag (zak (q := 1) zdb rfl ti3 rfl rfl rfl ?_)))
   refine zag (zas (v := (zI pc.Var)) zat rfl rfl (hL8.at 0 rfl rfl) rfl ?_)
   refine zag (zam (v := (zI pc.Var)) rfl ?_)
   refine zap (zal (zal ?_))
   obtain ⟨s10, h, g10⟩ := zes h
   refine zce (fun e w' => ∃ (x11 : Bool) (u : Env), x11 = s10 ∧ e = upds [(0, l_v), (3, ranges_v), (5, (zaj (some ⟨b1, 0, none⟩))), (6, (zaj (some ⟨b6, 0, none⟩))), (15, (zI pc.Var)), (116, (zab x11))] u ∧ vL w w' [some b1, some b6] [zac [c_v, c_v1, c_v2, c_v3, c_v4, c_v5, c_v6], zac [(zI pc.Kind), (zI pc.Var), (zI pc.At), pc_v, pc_v1, (zab pc.Proof.Bound.Negative), pc_v2, pc_v3, pc_v4]] ∧ Keep w.heap.size [some b6, some b1] w7 [some b1, some b6] w' ∧ True) ?_ ?_
   ·
    obtain ⟨r16, q22, h⟩ := zes h
    by_cases hc19 : (!r16) = true
    ·
     replace h := ite_t hc19 h
     refine zcm 31 [] [] (fun W1 => [.det (zaj (some ⟨b1, 1, none⟩)), .det c_v1, .det (zI pc.Var), .det (zab r16), .det (zab (!r16)), .det (zab (!r16)), .det undef, .det undef, .det undef, .det undef, .det undef, .det undef, .det zT, .det zT, .det undef, .det undef, .det undef, .det undef, .det undef, .det undef, .det undef, .det undef, .det zT, .det zT, .det undef, .det undef, .det undef, .det undef, .det undef, .det undef, .det undef]) mixed rfl rfl rfl (fun _ => rfl) (fun _ => rfl) ?_ ?_
     ·
      intro W1 _
      exact trivial
     intro w25 hE26
     obtain ⟨hL21, K17⟩ := zl hL8 hE26
     refine zao (fun _ _ => zau (zak zay rfl ti23 rfl rfl rfl (er rfl))) ?_
     refine zao (fun _ hE28 => zau (zas zaw rfl rfl ((hL21.ext hE28).at 1 rfl rfl) rfl (er rfl))) ?_
     refine zao (fun _ _ => zau (zai rfl (er rfl))) ?_
     refine zen ?_ ?_
     ·
      rintro w29 Z28 hE30 hZ19 ⟨-⟩
      have K18 := ke hL21 hE30
      refine zau (zbc en91 rfl rfl (containsOf_w N c.NotNull pc.Var c_v1 _ Any (((((c_h1.mono (K4 S)).mono (K9 S)).mono (K17 S)).mono (K18 S)).mono vw_any) r16 q22) ?_)
      rintro _ w30 hE31 ⟨rfl, -⟩
      exact ⟨hE31, rfl⟩
     refine zao (fun _ _ => zau (zdy rfl (er rfl))) ?_
     refine zao (fun _ _ => zau (zai rfl (er rfl))) ?_
     refine zao (fun _ _ => zci rfl rfl hc19 (er rfl)) ?_
     refine zao (fun _ _ => zci rfl rfl hc19 (er rfl)) ?_
     refine zao (fun _ _ => zci rfl rfl hc19 (er rfl)) ?_
     refine zao (fun _ _ => zci rfl rfl hc19 (er rfl)) ?_
     refine zao (fun _ _ => zci rfl rfl hc19 (er rfl)) ?_
     refine zao (fun _ _ => zci rfl rfl hc19 (er rfl)) ?_
     refine zao (fun _ _ => zau (zbe rfl hc19 rfl (er rfl))) ?_
     refine zao (fun _ _ => zau (zai rfl (er rfl))) ?_
     refine zao (fun _ _ => zci rfl rfl rfl (er rfl)) ?_
     refine zao (fun _ _ => zci rfl rfl rfl (er rfl)) ?_
     refine zao (fun _ _ => zci rfl rfl rfl (er rfl)) ?_
     refine zao (fun _ _ => zci rfl rfl rfl (er rfl)) ?_
     refine zao (fun _ _ => zci rfl rfl rfl (er rfl)) ?_
     refine zao (fun _ _ => zci rfl rfl rfl (er rfl)) ?_
     refine zao (fun _ _ => zci rfl rfl rfl (er rfl)) ?_
     refine zao (fun _ _ => zci rfl rfl rfl (er rfl)) ?_
     refine zao (fun _ _ => zau (zbe rfl rfl rfl (er rfl))) ?_
     refine zao (fun _ _ => zau (zai rfl (er rfl))) ?_
     refine zao (fun _ _ => zci rfl rfl rfl (er rfl)) ?_
     refine zao (fun _ _ => zci rfl rfl rfl (er rfl)) ?_
     refine zao (fun _ _ => zci rfl rfl rfl (er rfl)) ?_
     refine zao (fun _ _ => zci rfl rfl rfl (er rfl)) ?_
     refine zao (fun _ _ => zci rfl rfl rfl (er rfl)) ?_
     refine zao (fun _ _ => zci rfl rfl rfl (er rfl)) ?_
     refine zao (fun _ _ => zci rfl rfl rfl (er rfl)) ?_
     refine zcy ?_
     rintro w58 Z56 hE59 hZ47 ⟨-⟩ ap11
     have hB11 := @zhb w25 Z56
     obtain ⟨hL23, K19⟩ := zl hL21 hE59
     refine zbb rfl rfl rfl ?_
     refine zag (zbe (t := true) (v := zT) rfl rfl rfl ?_)
     refine zag (zai (v := zT) rfl ?_)
     refine zbb rfl rfl rfl (zbb rfl rfl rfl (zbb rfl rfl rfl (zbb rfl rfl rfl ?_)))
     refine zag (zbe (t := true) (v := zT) rfl rfl rfl (zap ?_))
     have hp13 := hL23.pick [1, 0] rfl rfl rfl
     have hL24 : vL w w58 [some b1, some b6] [zac [c_v, c_v1, c_v2, c_v3, c_v4, c_v5, c_v6], zac [(zI pc.Kind), (zI pc.Var), (zI pc.At), pc_v, pc_v1, (zab pc.Proof.Bound.Negative), pc_v2, pc_v3, pc_v4]] := hp13.1
     have K20 := ks w hp13.2
     obtain rfl := zae h
     refine zaq ?_
     exact ⟨true, _, rfl, (zeu ⟨rfl, rfl, rfl, rfl, rfl, rfl, trivial⟩), hL24, (zan (zan K17 K19) K20), trivial⟩
    replace h := ite_f hc19 h
    obtain ⟨x12, n11, q24, q25, -, h⟩ := zix h
    have f42 := ((l_h.mono (K4 S)).mono (K9 S))
    obtain ⟨b12, o11, c11, vs11, q26, q27, f43, q28⟩ := zcw f42 q25
    obtain ⟨rfl, -⟩ := rRVar_open q28
    have f44 := (f43.part (us := [(zI x12.Ty)]) 0 rfl)
    by_cases hc20 : (x12.Ty : Int) ≠ 2
    ·
     replace h := ite_t hc20 h
     refine zcm 31 [] [] (fun W1 => [.det (zaj (some ⟨b1, 1, none⟩)), .det c_v1, .det (zI pc.Var), .det (zab r16), .det (zab (!r16)), .det (zab (!r16)), .det l_v, .det (zI pc.Var), .det (zaj (some ⟨b12, (o11 + n11 * rRVar.sz), none⟩)), .det (zaj (some ⟨b12, (o11 + n11 * rRVar.sz) + 0, none⟩)), .det (zI x12.Ty), .det (zab (decide ((x12.Ty : Int) ≠ 2))), .det (zab (decide ((x12.Ty : Int) ≠ 2))), .det (zab (decide ((x12.Ty : Int) ≠ 2))), .det undef, .det undef, .det undef, .det undef, .det undef, .det undef, .det undef, .det undef, .det zT, .det zT, .det undef, .det undef, .det undef, .det undef, .det undef, .det undef, .det undef]) mixed rfl rfl rfl (fun _ => rfl) (fun _ => rfl) ?_ ?_
     ·
      intro W1 _
      exact trivial
     intro w59 hE60
     obtain ⟨hL25, K21⟩ := zl hL8 hE60
     refine zao (fun _ _ => zau (zak zay rfl ti23 rfl rfl rfl (er rfl))) ?_
     refine zao (fun _ hE62 => zau (zas zaw rfl rfl ((hL25.ext hE62).at 1 rfl rfl) rfl (er rfl))) ?_
     refine zao (fun _ _ => zau (zai rfl (er rfl))) ?_
     refine zen ?_ ?_
     ·
      rintro w63 Z60 hE64 hZ51 ⟨-⟩
      have K22 := ke hL25 hE64
      refine zau (zbc en91 rfl rfl (containsOf_w N c.NotNull pc.Var c_v1 _ Any (((((c_h1.mono (K4 S)).mono (K9 S)).mono (K21 S)).mono (K22 S)).mono vw_any) r16 q22) ?_)
      rintro _ w64 hE65 ⟨rfl, -⟩
      exact ⟨hE65, rfl⟩
     refine zao (fun _ _ => zau (zdy rfl (er rfl))) ?_
     refine zao (fun _ _ => zau (zai rfl (er rfl))) ?_
     refine zao (fun _ _ => zbm rfl rfl (zer hc19) (zai rfl (er rfl))) ?_
     refine zao (fun _ _ => zbm rfl rfl (zer hc19) (zai rfl (er rfl))) ?_
     refine zao (fun _ _ => zbm rfl rfl (zer hc19) (zbj (r := rRVar) (v := l_v) (n := n11) (m := (o11 + n11 * rRVar.sz)) zbt ti83 rfl q26 rfl q24 q25 rfl (er rfl))) ?_
     refine zao (fun _ _ => zbm rfl rfl (zer hc19) (zak zcc rfl ti3 rfl rfl rfl (er rfl))) ?_
     refine zao (fun _ hE72 => zbm rfl rfl (zer hc19) (zby zat rfl rfl zex (zcd ((ke hL25 hE72) S) (zcd (K21 S) f44)) (er rfl))) ?_
     refine zao (fun _ _ => zbm rfl rfl (zer hc19) (zek (x := x12.Ty) (y := 2) ((x12.Ty : Int) ≠ 2) rfl rfl zbd (er rfl))) ?_
     refine zao (fun _ _ => zau (zbn rfl (zer hc19) rfl (er rfl))) ?_
     refine zao (fun _ _ => zau (zai rfl (er rfl))) ?_
     refine zao (fun _ _ => zci rfl rfl (zeq hc20) (er rfl)) ?_
     refine zao (fun _ _ => zci rfl rfl (zeq hc20) (er rfl)) ?_
     refine zao (fun _ _ => zci rfl rfl (zeq hc20) (er rfl)) ?_
     refine zao (fun _ _ => zci rfl rfl (zeq hc20) (er rfl)) ?_
     refine zao (fun _ _ => zci rfl rfl (zeq hc20) (er rfl)) ?_
     refine zao (fun _ _ => zci rfl rfl (zeq hc20) (er rfl)) ?_
     refine zao (fun _ _ => zci rfl rfl (zeq hc20) (er rfl)) ?_
     refine zao (fun _ _ => zci rfl rfl (zeq hc20) (er rfl)) ?_
     refine zao (fun _ _ => zau (zbe rfl (zeq hc20) rfl (er rfl))) ?_
     refine zao (fun _ _ => zau (zai rfl (er rfl))) ?_
     refine zao (fun _ _ => zci rfl rfl rfl (er rfl)) ?_
     refine zao (fun _ _ => zci rfl rfl rfl (er rfl)) ?_
     refine zao (fun _ _ => zci rfl rfl rfl (er rfl)) ?_
     refine zao (fun _ _ => zci rfl rfl rfl (er rfl)) ?_
     refine zao (fun _ _ => zci rfl rfl rfl (er rfl)) ?_
     refine zao (fun _ _ => zci rfl rfl rfl (er rfl)) ?_
     refine zao (fun _ _ => zci rfl rfl rfl (er rfl)) ?_
     refine zcy ?_
     rintro w92 Z88 hE93 hZ79 ⟨-⟩ ap12
     have hB12 := @zhb w59 Z88
     obtain ⟨hL27, K24⟩ := zl hL25 hE93
     refine zbb rfl rfl rfl ?_
     refine zag (zbe (t := true) (v := zT) rfl rfl rfl ?_)
     refine zag (zai (v := zT) rfl ?_)
     refine zbb rfl rfl rfl (zbb rfl rfl rfl (zbb rfl rfl rfl (zbb rfl rfl rfl ?_)))
     refine zag (zbe (t := true) (v := zT) rfl rfl rfl (zap ?_))
     have hp14 := hL27.pick [1, 0] rfl rfl rfl
     have hL28 : vL w w92 [some b1, some b6] [zac [c_v, c_v1, c_v2, c_v3, c_v4, c_v5, c_v6], zac [(zI pc.Kind), (zI pc.Var), (zI pc.At), pc_v, pc_v1, (zab pc.Proof.Bound.Negative), pc_v2, pc_v3, pc_v4]] := hp14.1
     have K25 := ks w hp14.2
     obtain rfl := zae h
     refine zaq ?_
     exact ⟨true, _, rfl, (zeu ⟨rfl, rfl, rfl, rfl, rfl, rfl, trivial⟩), hL28, (zan (zan K21 K24) K25), trivial⟩
    replace h := ite_f hc20 h
    obtain ⟨x13, n12, q30, q31, -, h⟩ := zix h
    have f45 := ((ranges_h.mono (K4 S)).mono (K9 S))
    obtain ⟨b13, o12, c12, vs12, q32, q33, f46, q34⟩ := zcw f45 q31
    obtain ⟨rfl, -⟩ := rArr2Int_open q34
    have f47 := (f46.part (us := [(zI x13.e0)]) 0 rfl)
    by_cases hc21 : (pc.At : Int) < x13.e0
    ·
     replace h := ite_t hc21 h
     refine zcm 31 [] [] (fun W1 => [.det (zaj (some ⟨b1, 1, none⟩)), .det c_v1, .det (zI pc.Var), .det (zab r16), .det (zab (!r16)), .det (zab (!r16)), .det l_v, .det (zI pc.Var), .det (zaj (some ⟨b12, (o11 + n11 * rRVar.sz), none⟩)), .det (zaj (some ⟨b12, (o11 + n11 * rRVar.sz) + 0, none⟩)), .det (zI x12.Ty), .det (zab (decide ((x12.Ty : Int) ≠ 2))), .det (zab (decide ((x12.Ty : Int) ≠ 2))), .det (zab (decide ((x12.Ty : Int) ≠ 2))), .det (zaj (some ⟨b6, 2, none⟩)), .det (zI pc.At), .det ranges_v, .det (zI pc.Var), .det (zaj (some ⟨b13, (o12 + n12 * rArr2Int.sz), none⟩)), .det (zaj (some ⟨b13, (o12 + n12 * rArr2Int.sz) + 0, none⟩)), .det (zI x13.e0), .det (zab (decide ((pc.At : Int) < x13.e0))), .det (zab (decide ((pc.At : Int) < x13.e0))), .det (zab (decide ((pc.At : Int) < x13.e0))), .det undef, .det undef, .det undef, .det undef, .det undef, .det undef, .det undef]) mixed rfl rfl rfl (fun _ => rfl) (fun _ => rfl) ?_ ?_
     ·
      intro W1 _
      exact trivial
     intro w93 hE94
     obtain ⟨hL29, K26⟩ := zl hL8 hE94
     refine zao (fun _ _ => zau (zak zay rfl ti23 rfl rfl rfl (er rfl))) ?_
     refine zao (fun _ hE96 => zau (zas zaw rfl rfl ((hL29.ext hE96).at 1 rfl rfl) rfl (er rfl))) ?_
     refine zao (fun _ _ => zau (zai rfl (er rfl))) ?_
     refine zen ?_ ?_
     ·
      rintro w97 Z92 hE98 hZ83 ⟨-⟩
      have K27 := ke hL29 hE98
      refine zau (zbc en91 rfl rfl (containsOf_w N c.NotNull pc.Var c_v1 _ Any (((((c_h1.mono (K4 S)).mono (K9 S)).mono (K26 S)).mono (K27 S)).mono vw_any) r16 q22) ?_)
      rintro _ w98 hE99 ⟨rfl, -⟩
      exact ⟨hE99, rfl⟩
     refine zao (fun _ _ => zau (zdy rfl (er rfl))) ?_
     refine zao (fun _ _ => zau (zai rfl (er rfl))) ?_
     refine zao (fun _ _ => zbm rfl rfl (zer hc19) (zai rfl (er rfl))) ?_
     refine zao (fun _ _ => zbm rfl rfl (zer hc19) (zai rfl (er rfl))) ?_
     refine zao (fun _ _ => zbm rfl rfl (zer hc19) (zbj (r := rRVar) (v := l_v) (n := n11) (m := (o11 + n11 * rRVar.sz)) zbt ti83 rfl q26 rfl q24 q25 rfl (er rfl))) ?_
     refine zao (fun _ _ => zbm rfl rfl (zer hc19) (zak zcc rfl ti3 rfl rfl rfl (er rfl))) ?_
     refine zao (fun _ hE106 => zbm rfl rfl (zer hc19) (zby zat rfl rfl zex (zcd ((ke hL29 hE106) S) (zcd (K26 S) f44)) (er rfl))) ?_
     refine zao (fun _ _ => zbm rfl rfl (zer hc19) (zek (x := x12.Ty) (y := 2) ((x12.Ty : Int) ≠ 2) rfl rfl zbd (er rfl))) ?_
     refine zao (fun _ _ => zau (zbn rfl (zer hc19) rfl (er rfl))) ?_
     refine zao (fun _ _ => zau (zai rfl (er rfl))) ?_
     refine zao (fun _ _ => zbm rfl rfl (zep hc20) (zak zdb rfl ti3 rfl rfl rfl (er rfl))) ?_
     refine zao (fun _ hE111 => zbm rfl rfl (zep hc20) (zas zat rfl rfl ((hL29.ext hE111).at 0 rfl rfl) rfl (er rfl))) ?_
     refine zao (fun _ _ => zbm rfl rfl (zep hc20) (zai rfl (er rfl))) ?_
     refine zao (fun _ _ => zbm rfl rfl (zep hc20) (zai rfl (er rfl))) ?_
     refine zao (fun _ _ => zbm rfl rfl (zep hc20) (zbj (r := rArr2Int) (v := ranges_v) (n := n12) (m := (o12 + n12 * rArr2Int.sz)) zaz ti54 rfl q32 rfl q30 q31 rfl (er rfl))) ?_
     refine zao (fun _ _ => zbm rfl rfl (zep hc20) (zcg (i := 0) (q := (o12 + n12 * rArr2Int.sz) + 0) zbv ti3 rfl rfl (by decide) rfl (er rfl))) ?_
     refine zao (fun _ hE116 => zbm rfl rfl (zep hc20) (zby zat rfl rfl zex (zcd ((ke hL29 hE116) S) (zcd (K26 S) f47)) (er rfl))) ?_
     refine zao (fun _ _ => zbm rfl rfl (zep hc20) (zcp ((pc.At : Int) < x13.e0) rfl rfl zbd (er rfl))) ?_
     refine zao (fun _ _ => zau (zbn rfl (zep hc20) rfl (er rfl))) ?_
     refine zao (fun _ _ => zau (zai rfl (er rfl))) ?_
     refine zao (fun _ _ => zci rfl rfl (zeq hc21) (er rfl)) ?_
     refine zao (fun _ _ => zci rfl rfl (zeq hc21) (er rfl)) ?_
     refine zao (fun _ _ => zci rfl rfl (zeq hc21) (er rfl)) ?_
     refine zao (fun _ _ => zci rfl rfl (zeq hc21) (er rfl)) ?_
     refine zao (fun _ _ => zci rfl rfl (zeq hc21) (er rfl)) ?_
     refine zao (fun _ _ => zci rfl rfl (zeq hc21) (er rfl)) ?_
     refine zao (fun _ _ => zci rfl rfl (zeq hc21) (er rfl)) ?_
     refine zcy ?_
     rintro w126 Z120 hE127 hZ111 ⟨-⟩ ap13
     have hB13 := @zhb w93 Z120
     obtain ⟨hL32, K30⟩ := zl hL29 hE127
     refine zbb rfl rfl (zeq hc21) ?_
     refine zag (zbe (t := (decide ((pc.At : Int) < x13.e0))) (v := zT) rfl (zeq hc21) rfl ?_)
     refine zag (zai (v := zT) rfl ?_)
     refine zbb rfl rfl rfl (zbb rfl rfl rfl (zbb rfl rfl rfl (zbb rfl rfl rfl ?_)))
     refine zag (zbe (t := true) (v := zT) rfl rfl rfl (zap ?_))
     have hp15 := hL32.pick [1, 0] rfl rfl rfl
     have hL33 : vL w w126 [some b1, some b6] [zac [c_v, c_v1, c_v2, c_v3, c_v4, c_v5, c_v6], zac [(zI pc.Kind), (zI pc.Var), (zI pc.At), pc_v, pc_v1, (zab pc.Proof.Bound.Negative), pc_v2, pc_v3, pc_v4]] := hp15.1
     have K31 := ks w hp15.2
     obtain rfl := zae h
     refine zaq ?_
     exact ⟨true, _, rfl, (zeu ⟨rfl, rfl, rfl, rfl, rfl, rfl, trivial⟩), hL33, (zan (zan K26 K30) K31), trivial⟩
    replace h := ite_f hc21 h
    obtain ⟨x14, n13, q36, q37, -, h⟩ := zix h
    obtain ⟨b14, o13, c13, vs13, q38, q39, f48, q40⟩ := zcw f45 q37
    obtain ⟨rfl, -⟩ := rArr2Int_open q40
    have f49 := (f48.part (us := [(zI x14.e1)]) 1 rfl)
    refine zcm 31 [] [] (fun W1 => [.det (zaj (some ⟨b1, 1, none⟩)), .det c_v1, .det (zI pc.Var), .det (zab r16), .det (zab (!r16)), .det (zab (!r16)), .det l_v, .det (zI pc.Var), .det (zaj (some ⟨b12, (o11 + n11 * rRVar.sz), none⟩)), .det (zaj (some ⟨b12, (o11 + n11 * rRVar.sz) + 0, none⟩)), .det (zI x12.Ty), .det (zab (decide ((x12.Ty : Int) ≠ 2))), .det (zab (decide ((x12.Ty : Int) ≠ 2))), .det (zab (decide ((x12.Ty : Int) ≠ 2))), .det (zaj (some ⟨b6, 2, none⟩)), .det (zI pc.At), .det ranges_v, .det (zI pc.Var), .det (zaj (some ⟨b13, (o12 + n12 * rArr2Int.sz), none⟩)), .det (zaj (some ⟨b13, (o12 + n12 * rArr2Int.sz) + 0, none⟩)), .det (zI x13.e0), .det (zab (decide ((pc.At : Int) < x13.e0))), .det (zab (decide ((pc.At : Int) < x13.e0))), .det (zab (decide ((pc.At : Int) < x13.e0))), .det (zaj (some ⟨b6, 2, none⟩)), .det (zI pc.At), .det ranges_v, .det (zI pc.Var), .det (zaj (some ⟨b14, (o13 + n13 * rArr2Int.sz), none⟩)), .det (zaj (some ⟨b14, (o13 + n13 * rArr2Int.sz) + 1, none⟩)), .det (zI x14.e1)]) mixed rfl rfl rfl (fun _ => rfl) (fun _ => rfl) ?_ ?_
    ·
     intro W1 _
     exact trivial
    intro w127 hE128
    obtain ⟨hL34, K32⟩ := zl hL8 hE128
    refine zao (fun _ _ => zau (zak zay rfl ti23 rfl rfl rfl (er rfl))) ?_
    refine zao (fun _ hE130 => zau (zas zaw rfl rfl ((hL34.ext hE130).at 1 rfl rfl) rfl (er rfl))) ?_
    refine zao (fun _ _ => zau (zai rfl (er rfl))) ?_
    refine zen ?_ ?_
    ·
     rintro w131 Z124 hE132 hZ115 ⟨-⟩
     have K33 := ke hL34 hE132
     refine zau (zbc en91 rfl rfl (containsOf_w N c.NotNull pc.Var c_v1 _ Any (((((c_h1.mono (K4 S)).mono (K9 S)).mono (K32 S)).mono (K33 S)).mono vw_any) r16 q22) ?_)
     rintro _ w132 hE133 ⟨rfl, -⟩
     exact ⟨hE133, rfl⟩
    refine zao (fun _ _ => zau (zdy rfl (er rfl))) ?_
    refine zao (fun _ _ => zau (zai rfl (er rfl))) ?_
    refine zao (fun _ _ => zbm rfl rfl (zer hc19) (zai rfl (er rfl))) ?_
    refine zao (fun _ _ => zbm rfl rfl (zer hc19) (zai rfl (er rfl))) ?_
    refine zao (fun _ _ => zbm rfl rfl (zer hc19) (zbj (r := rRVar) (v := l_v) (n := n11) (m := (o11 + n11 * rRVar.sz)) zbt ti83 rfl q26 rfl q24 q25 rfl (er rfl))) ?_
    refine zao (fun _ _ => zbm rfl rfl (zer hc19) (zak zcc rfl ti3 rfl rfl rfl (er rfl))) ?_
    refine zao (fun _ hE140 => zbm rfl rfl (zer hc19) (zby zat rfl rfl zex (zcd ((ke hL34 hE140) S) (zcd (K32 S) f44)) (er rfl))) ?_
    refine zao (fun _ _ => zbm rfl rfl (zer hc19) (zek (x := x12.Ty) (y := 2) ((x12.Ty : Int) ≠ 2) rfl rfl zbd (er rfl))) ?_
    refine zao (fun _ _ => zau (zbn rfl (zer hc19) rfl (er rfl))) ?_
    refine zao (fun _ _ => zau (zai rfl (er rfl))) ?_
    refine zao (fun _ _ => zbm rfl rfl (zep hc20) (zak zdb rfl ti3 rfl rfl rfl (er rfl))) ?_
    refine zao (fun _ hE145 => zbm rfl rfl (zep hc20) (zas zat rfl rfl ((hL34.ext hE145).at 0 rfl rfl) rfl (er rfl))) ?_
    refine zao (fun _ _ => zbm rfl rfl (zep hc20) (zai rfl (er rfl))) ?_
    refine zao (fun _ _ => zbm rfl rfl (zep hc20) (zai rfl (er rfl))) ?_
    refine zao (fun _ _ => zbm rfl rfl (zep hc20) (zbj (r := rArr2Int) (v := ranges_v) (n := n12) (m := (o12 + n12 * rArr2Int.sz)) zaz ti54 rfl q32 rfl q30 q31 rfl (er rfl))) ?_
    refine zao (fun _ _ => zbm rfl rfl (zep hc20) (zcg (i := 0) (q := (o12 + n12 * rArr2Int.sz) + 0) zbv ti3 rfl rfl (by decide) rfl (er rfl))) ?_
    refine zao (fun _ hE150 => zbm rfl rfl (zep hc20) (zby zat rfl rfl zex (zcd ((ke hL34 hE150) S) (zcd (K32 S) f47)) (er rfl))) ?_
    refine zao (fun _ _ => zbm rfl rfl (zep hc20) (zcp ((pc.At : Int) < x13.e0) rfl rfl zbd (er rfl))) ?_
    refine zao (fun _ _ => zau (zbn rfl (zep hc20) rfl (er rfl))) ?_
    refine zao (fun _ _ => zau (zai rfl (er rfl))) ?_
    refine zao (fun _ _ => zbm rfl rfl (zep hc21) (zak zdb rfl ti3 rfl rfl rfl (er rfl))) ?_
    refine zao (fun _ hE155 => zbm rfl rfl (zep hc21) (zas zat rfl rfl ((hL34.ext hE155).at 0 rfl rfl) rfl (er rfl))) ?_
    refine zao (fun _ _ => zbm rfl rfl (zep hc21) (zai rfl (er rfl))) ?_
    refine zao (fun _ _ => zbm rfl rfl (zep hc21) (zai rfl (er rfl))) ?_
    refine zao (fun _ _ => zbm rfl rfl (zep hc21) (zbj (r := rArr2Int) (v := ranges_v) (n := n13) (m := (o13 + n13 * rArr2Int.sz)) zaz ti54 rfl q38 rfl q36 q37 rfl (er rfl))) ?_
    refine zao (fun _ _ => zbm rfl rfl (zep hc21) (zcg (i := 1) (q := (o13 + n13 * rArr2Int.sz) + 1) zbv ti3 rfl rfl (by decide) rfl (er rfl))) ?_
    refine zao (fun _ hE160 => zbm rfl rfl (zep hc21) (zby zat rfl rfl zex (zcd ((ke hL34 hE160) S) (zcd (K32 S) f49)) (er rfl))) ?_
    refine zcy ?_
    rintro w160 Z152 hE161 hZ143 ⟨-⟩ ap14
    have hB14 := @zhb w127 Z152
    obtain ⟨hL38, K37⟩ := zl hL34 hE161
    refine zba rfl rfl (zep hc21) (zem (x := pc.At) (y := x14.e1) ((pc.At : Int) ≥ x14.e1) rfl rfl zbd ?_)
    refine zag (zbn (t := (decide ((pc.At : Int) < x13.e0))) (v := (zab (decide ((pc.At : Int) ≥ x14.e1)))) rfl (zep hc21) rfl ?_)
    refine zag (zai (v := (zab (decide ((pc.At : Int) ≥ x14.e1)))) rfl ?_)
    by_cases hc22 : (pc.At : Int) ≥ x14.e1
    ·
     replace h := ite_t hc22 h
     refine zbb rfl rfl (zeq hc22) (zbb rfl rfl (zeq hc22) (zbb rfl rfl (zeq hc22) (zbb rfl rfl (zeq hc22) ?_)))
     refine zag (zbe (t := (decide ((pc.At : Int) ≥ x14.e1))) (v := zT) rfl (zeq hc22) rfl (zap ?_))
     have hp16 := hL38.pick [1, 0] rfl rfl rfl
     have hL39 : vL w w160 [some b1, some b6] [zac [c_v, c_v1, c_v2, c_v3, c_v4, c_v5, c_v6], zac [(zI pc.Kind), (zI pc.Var), (zI pc.At), pc_v, pc_v1, (zab pc.Proof.Bound.Negative), pc_v2, pc_v3, pc_v4]] := hp16.1
     have K38 := ks w hp16.2
     obtain rfl := zae h
     refine zaq ?_
     exact ⟨true, _, rfl, (zeu ⟨rfl, rfl, rfl, rfl, rfl, rfl, trivial⟩), hL39, (zan (zan K32 K37) K38), trivial⟩
    replace h := ite_f hc22 h
    refine zba rfl rfl (zep hc22) (zak (q := 8) zdb rfl ti71 rfl rfl rfl ?_)
    refine zba rfl rfl (zep hc22) (zas (v := pc_v4) Tryz.underlying71 rfl rfl (hL38.at 0 rfl rfl) rfl ?_)
    have f50 := ((((pc_h4.mono (K4 S)).mono (K9 S)).mono (K32 S)).mono (K37 S))
    refine zba rfl rfl (zep hc22) (zbg (v := pc_v4) Tryz.underlying71 rfl f50 ?_)
    refine zba rfl rfl (zep hc22) (zek (x := (pc.Children.length : Int)) (y := 2) (((pc.Children.length : Int) : Int) ≠ 2) rfl rfl zbd ?_)
    refine zag (zbn (t := (decide ((pc.At : Int) ≥ x14.e1))) (v := (zab (decide (((pc.Children.length : Int) : Int) ≠ 2)))) rfl (zep hc22) rfl (zap ?_))
    have hp17 := hL38.pick [1, 0] rfl rfl rfl
    have hL40 : vL w w160 [some b1, some b6] [zac [c_v, c_v1, c_v2, c_v3, c_v4, c_v5, c_v6], zac [(zI pc.Kind), (zI pc.Var), (zI pc.At), pc_v, pc_v1, (zab pc.Proof.Bound.Negative), pc_v2, pc_v3, pc_v4]] := hp17.1
    have K39 := ks w hp17.2
    obtain rfl := zae h
    refine zaq ?_
    exact ⟨(decide (((pc.Children.length : Int) : Int) ≠ 2)), _, rfl, (zeu ⟨rfl, rfl, rfl, rfl, rfl, rfl, trivial⟩), hL40, (zan (zan K32 K37) K39), trivial⟩
   rintro _ w161 ⟨x11, u, rfl, rfl, hL41, K40, -⟩
   replace h := g10
   try dsimp only at h
   refine zdd x11 rfl (fun hc23 => ?_) (fun hc23 => ?_)
   ·
    replace h := ite_t hc23 h
    refine zal (zah rfl (zag (zam (v := zF) rfl ?_)))
    refine zap (zbl ?_)
    obtain rfl := zae h
    refine ⟨[zF], zrt, ⟨_, rfl, hL41.done, ?_⟩⟩
    exact zrt
   replace h := ite_f hc23 h
   refine zbk (zal (zah rfl (zag (zai (v := ranges_v) rfl ?_))))
   cases h
  replace h := ite_f hc18 h
  refine zbk (zbu (zal (zah rfl (zag (zam (v := zF) rfl ?_)))))
  refine zap (zbl ?_)
  obtain rfl := zae h
  refine ⟨[zF], zrt, ⟨_, rfl, hL8.done, ?_⟩⟩
  exact zrt
end Go.Proofs.YtcakdidcpoolcaaGreatDoor.WV

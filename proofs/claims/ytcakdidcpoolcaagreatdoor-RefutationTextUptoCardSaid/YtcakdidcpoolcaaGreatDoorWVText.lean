/- Walks, written by a program of mine (wip/tool); the kernel checks them. -/
import Derived.Test.YtcakdidcpoolcaaGreatDoorProg
import Derived.Test.YtcakdidcpoolcaaGreatDoorSqText
import Derived.Test.YtcakdidcpoolcaaGreatDoorBl25
import Derived.Test.YtcakdidcpoolcaaGreatDoorF25
import Derived.Test.YtcakdidcpoolcaaGreatDoorPV
import Derived.Test.YtcakdidcpoolcaaGreatDoorWAText
import Derived.Test.YtcakdidcpoolcaaGreatDoorWRText
import Derived.Test.YtcakdidcpoolcaaGreatDoorWBText
import Derived.Test.YtcakdidcpoolcaaGreatDoorWCText
import Derived.Test.YtcakdidcpoolcaaGreatDoorWDText
import Derived.Test.YtcakdidcpoolcaaGreatDoorWIText
set_option maxRecDepth 100000
set_option maxHeartbeats 40000000
set_option linter.unusedVariables false
set_option linter.unusedSimpArgs false
namespace Go.Proofs.YtcakdidcpoolcaaGreatDoor.WV
open Go Go.RowKit Go.X Go.D Go.Proofs.YtcakdidcpoolcaaGreatDoor.WF Go.Proofs.YtcakdidcpoolcaaGreatDoor.WA Go.Proofs.YtcakdidcpoolcaaGreatDoor.WR Go.Proofs.YtcakdidcpoolcaaGreatDoor.WB Go.Proofs.YtcakdidcpoolcaaGreatDoor.WC Go.Proofs.YtcakdidcpoolcaaGreatDoor.WD Go.Proofs.YtcakdidcpoolcaaGreatDoor.WI
theorem ti54 : TI Tryz.prog 54 2 16 (zap #[(zI 0), (zI 0)]) := TI.mk (by kernel_rfl)
theorem ti83 : TI Tryz.prog 83 5 40 (zap #[(zI 0), (zI 0), (zI 0), (zI 0), zF]) := TI.mk (by kernel_rfl)
theorem pl87 : placesT Tryz.prog 87 = some [(0, 1), (1, 1)] := by kernel_rfl
theorem pl90 : placesT Tryz.prog 90 = some [(0, 1), (1, 1)] := by kernel_rfl
theorem pl92 : placesT Tryz.prog 92 = some [(0, 2), (2, 1)] := by kernel_rfl
theorem ti23 : TI Tryz.prog 23 1 24 zN := TI.mk (by kernel_rfl)
theorem en39 : Go.X.Enters Tryz.prog 39 := ⟨Tryz.f39, Tryz.func39, by kernel_rfl, by kernel_rfl⟩
theorem ti24 : TI Tryz.prog 24 1 24 zN := TI.mk (by kernel_rfl)
theorem ti104 : TI Tryz.prog 104 4 48 (zap #[(zI 0), zN, (zI 0), (zI 0)]) := TI.mk (by kernel_rfl)
theorem en40 : Go.X.Enters Tryz.prog 40 := ⟨Tryz.f40, Tryz.func40, by kernel_rfl, by kernel_rfl⟩
theorem en41 : Go.X.Enters Tryz.prog 41 := ⟨Tryz.f41, Tryz.func41, by kernel_rfl, by kernel_rfl⟩
theorem ti25 : TI Tryz.prog 25 1 24 zN := TI.mk (by kernel_rfl)
theorem en42 : Go.X.Enters Tryz.prog 42 := ⟨Tryz.f42, Tryz.func42, by kernel_rfl, by kernel_rfl⟩
theorem en91 : Go.X.Enters Tryz.prog 91 := ⟨Tryz.f91, Tryz.func91, by kernel_rfl, by kernel_rfl⟩
theorem ti29 : TI Tryz.prog 29 7 168 (zap #[zN, zN, zN, zN, zN, zN, zN]) := TI.mk (by kernel_rfl)
theorem en12 : Go.X.Enters Tryz.prog 12 := ⟨Tryz.f12, Tryz.func12, by kernel_rfl, by kernel_rfl⟩
theorem en94 : Go.X.Enters Tryz.prog 94 := ⟨Tryz.f94, Tryz.func94, by kernel_rfl, by kernel_rfl⟩
theorem en93 : Go.X.Enters Tryz.prog 93 := ⟨Tryz.f93, Tryz.func93, by kernel_rfl, by kernel_rfl⟩
theorem ti71 : TI Tryz.prog 71 1 24 zN := TI.mk (by kernel_rfl)
theorem ti73 : TI Tryz.prog 73 9 152 (zap #[(zI 0), (zI 0), (zI 0), zN, zN, zF, zN, zN, zN]) := TI.mk (by kernel_rfl)
theorem en61 : Go.X.Enters Tryz.prog 61 := ⟨Tryz.f61, Tryz.func61, by kernel_rfl, by kernel_rfl⟩
theorem en60 : Go.X.Enters Tryz.prog 60 := ⟨Tryz.f60, Tryz.func60, by kernel_rfl, by kernel_rfl⟩
theorem en31 : Go.X.Enters Tryz.prog 31 := ⟨Tryz.f31, Tryz.func31, by kernel_rfl, by kernel_rfl⟩
theorem en67 : Go.X.Enters Tryz.prog 67 := ⟨Tryz.f67, Tryz.func67, by kernel_rfl, by kernel_rfl⟩
theorem en68 : Go.X.Enters Tryz.prog 68 := ⟨Tryz.f68, Tryz.func68, by kernel_rfl, by kernel_rfl⟩
theorem en69 : Go.X.Enters Tryz.prog 69 := ⟨Tryz.f69, Tryz.func69, by kernel_rfl, by kernel_rfl⟩
theorem en33 : Go.X.Enters Tryz.prog 33 := ⟨Tryz.f33, Tryz.func33, by kernel_rfl, by kernel_rfl⟩
theorem cloneCoef_w (N : Nat) (s : (List Coef)) (s_v : Value) (w : World) (S : Nat → Prop) (s_h : Rs rCoef (vH w S [] w) s_v s) (r : (List Coef)) (h : cloneCoef N s = some r) :
  Calls Tryz.prog 42 #[s_v] w (Ret w (fun v w' => ∃ (ob0 : Option Nat) (cap0 : Nat) (cs0 : List Value) (sp0 : List Value), (zO ob0 r cap0) = v ∧ NewOwn w w' [ob0] [zac ([] ++ (cs0 ++ sp0))] ∧ Els rCoef (vH w None [ob0] w') cs0 r ∧ (cs0 ++ sp0).length = cap0 * rCoef.sz ∧ True)) := by
 unfold cloneCoef at h
 have hL : vL w w [] [] := Go.X.Loc.begin0 w
 refine calls_of (l := [s_v]) (rl := [.tmp 2]) (n := 8) Tryz.func42 rfl rfl rfl (zae rfl) ?_
 refine zaj (zaf rfl (zag (zak (v := zN) rfl ?_)))
 refine zan (zaj (zaj (zaf rfl (zag (zai (v := s_v) rfl ?_)))))
 refine zag (OpY.eqlNil (v := s_v) zbr rfl s_h.isSlice rfl (zan ?_))
 refine zcq (isNil s_v) rfl (fun hc1 => ?_) (fun hc1 => ?_)
 ·
  have hnil := (Sl.of_isNil s_h hc1).1
  replace h : some [] = some r := by rw [hnil] at h; simpa [apnd] using h
  refine zaj (zaf rfl (zag (zak (v := zN) rfl (zan ?_))))
  have hp2 := hL.addNil
  have hL3 : vL w w [none] [zac ([] ++ ([] ++ []))] := hp2.1
  have hE6 : Els rCoef (vH w None [none] w) [] [] := zcm
  refine zbi ?_
  obtain rfl := zah h
  refine ⟨[(osv none 0 (List.length ([] : (List Coef))) 0)], zrt, ⟨_, rfl, hL3.done, ?_⟩⟩
  exact ⟨none, 0, [], [], rfl, (hL3.newOwn [0] rfl rfl rfl), (hE6.mono (zdx [0] rfl)), (show ([] ++ [] : List Value).length = 0 * rCoef.sz by simp), trivial⟩
 refine zbf (zaj (zaf rfl (zag (OpY.litRow0 zbr ti87 hL ?_))))
 intro b7 w10 hL10 hS10
 have hE10 : Els rCoef (vH w None [] w) [] [] := zcm
 have K10 := ks w hS10
 refine zag (zai (v := s_v) rfl ?_)
 obtain ⟨x10, q10, h⟩ := zec h
 obtain ⟨q11, q12, q13⟩ := zeq q10
 have f10 := (s_h.mono (K10 S))
 obtain ⟨ds10, q14, q15⟩ := Rs.src f10
 have f11 := (hE10.mono (K10 None))
 refine zag (zdn (r := rCoef) (H := (vH w None [some b7] w10)) (cs := []) (sp := []) (xs := ([] : (List Coef))) (ys := s) (Y := x10) (n := (List.length ([] : (List Coef)))) (cap := 0) (i := 0) zbr ti87 rfl rfl rfl rfl hL10 rfl rfl f11 rfl (show ([] ++ [] : List Value).length = 0 * rCoef.sz by simp) q14 (Els.anyH (fun _ _ _ _ h => h) q15) q11 q12 q13 ?_)
 intro ob10 cap10 sp10 cs10 w11 hE11 hc10 (hL11 : vL w w11 [ob10] [zac ([] ++ (cs10 ++ sp10))]) hS11
 have K11 := ks w hS11
 refine zag (zak (v := (zO ob10 x10 cap10)) rfl ?_)
 refine zan (zbi ?_)
 obtain rfl := zah h
 refine ⟨[(zO ob10 x10 cap10)], zrt, ⟨_, rfl, hL11.done, ?_⟩⟩
 have f12 := (hE11.mono (K11 None))
 exact ⟨ob10, cap10, cs10, sp10, rfl, (hL11.newOwn [0] rfl rfl rfl), (f12.mono (zdx [0] rfl)), hc10, trivial⟩
theorem vfirst_w (N : Nat) (l : (List RVar)) (l_v : Value) (w : World) (S : Nat → Prop) (l_h : Rs rRVar (vH w S [] w) l_v l) (r : (List Arr2Int)) (h : vfirst N l = some r) :
  Calls Tryz.prog 61 #[l_v] w (Ret w (fun v w' => ∃ (ob0 : Option Nat) (cap0 : Nat) (cs0 : List Value) (sp0 : List Value), (osv ob0 0 r.length cap0) = v ∧ NewOwn w w' [ob0] [zac ([] ++ (cs0 ++ sp0))] ∧ Els rArr2Int (vH w None [ob0] w') cs0 r ∧ (cs0 ++ sp0).length = cap0 * rArr2Int.sz ∧ True)) := by
 unfold vfirst at h
 have hL : vL w w [] [] := Go.X.Loc.begin0 w
 refine calls_of (l := [l_v]) (rl := [.tmp 2]) (n := 27) Tryz.func61 rfl rfl rfl (zae rfl) ?_
 refine zaj (zaf rfl (zag (zak (v := zN) rfl ?_)))
 refine zan (zaj (zaf rfl (zag (zai (v := l_v) rfl ?_))))
 refine zag (zbc (v := l_v) zcu rfl l_h ?_)
 obtain ⟨x2, q3, h⟩ := zec h
 obtain ⟨m1, q4, q5, q6, q7⟩ := mk1_some q3
 refine zag (OpY.mkRowX (r := rArr2Int) (H := (vH w None [] w)) (zc := [(zI 0), (zI 0)]) (x := (Arr2Int.mk 0 0)) zdu ti54 rfl (rArr2Int_close zrt) rfl rfl q4 q5 q6 q7 hL ?_)
 intro b8 w10 cs9 hE10 hc10 hL10 hS10
 have K10 := ks w hS10
 refine zag (zak (v := (osv (some b8) 0 x2.length m1)) rfl ?_)
 refine zan (zaj (zaj (zaf rfl (zag (zai (v := l_v) rfl ?_)))))
 have f10 := (l_h.mono (K10 S))
 refine zag (zbc (v := l_v) zcu rfl f10 ?_)
 refine zag (zai (v := (zI 0)) rfl (zan ?_))
 obtain ⟨s10, hl10, g10⟩ := zec h
 refine zbs (fun e w' => ∃ (out10 : (List Arr2Int)) (cs10 : List Value) (u : Env), out10 = s10 ∧ e = upds [(3, (osv (some b8) 0 x2.length m1))] u ∧ vL w w' [some b8] [zac ([] ++ (cs10 ++ []))] ∧ Keep w.heap.size [some b8] w10 [some b8] w' ∧ Els rArr2Int (vH w None [some b8] w') cs10 out10 ∧ x2.length = List.length out10 ∧ (cs10 ++ []).length = m1 * rArr2Int.sz ∧ True) ?_ ?_
 ·
  refine zbb ?_
  have f11 := (hE10.mono (K10 None))
  refine zcb hl10 (fun (ss : ((List Arr2Int) × Int)) (e : Env) (w' : World) => match ss with | (out11, x10) => ∃ (cs11 : List Value) (u : Env), e = upds [(3, (osv (some b8) 0 x2.length m1)), (9, l_v), (10, (zI (l.length : Int))), (11, (zI x10))] u ∧ vL w w' [some b8] [zac ([] ++ (cs11 ++ []))] ∧ Keep w.heap.size [some b8] w10 [some b8] w' ∧ Els rArr2Int (vH w None [some b8] w') cs11 out11 ∧ x2.length = List.length out11 ∧ (cs11 ++ []).length = m1 * rArr2Int.sz ∧ True) ⟨cs9, _, (zeg ⟨rfl, rfl, rfl, rfl, trivial⟩), hL10, zbq, f11, rfl, hc10, trivial⟩ ?_
  rintro ⟨out11, x10⟩ oo _ w11 ⟨cs11, u, rfl, hL11, K11, hE11, hl11, hc11, -⟩ h hd10
  rw [vfirst_b1] at h
  refine zaj (zaf rfl (zag (zci (x := x10) (y := (l.length : Int)) ((x10 : Int) < (l.length : Int)) rfl rfl zbd ?_)))
  refine zan (zaj ?_)
  refine zba ((x10 : Int) < (l.length : Int)) rfl (fun hc12 => ?_) (fun hc12 => ?_)
  ·
   replace h := ite_t hc12 h
   refine zbf (zaj (zbb (zaj (zaf rfl (zag (zai (v := (zI x10)) rfl ?_))))))
   obtain ⟨x11, n10, q11, q12, -, h⟩ := zix h
   have f12 := (f10.mono (K11 S))
   obtain ⟨b10, o10, c10, vs10, q13, q14, f13, q15⟩ := zcw f12 q12
   obtain ⟨rfl, -⟩ := rRVar_open q15
   refine zag (zbp (r := rRVar) (v := l_v) (n := n10) (m := (o10 + n10 * rRVar.sz)) zcu ti83 rfl q13 rfl q11 q12 rfl ?_)
   refine zag (zdl (vs := [(zI x11.Ty), (zI x11.Low), (zI x11.High), (zI x11.Max), (zab x11.Nullable)]) zdi rfl ti83 rfl rfl zek f13 ?_)
   refine zag (zbw (cs := [(zI 0), (zI 0), (zI 0), (zI 0), zF]) ti83 rfl hL11 ?_)
   intro b11 w12 hL12 hS11
   have K12 := ks w hS11
   refine zag (zak (v := (zI x10)) rfl ?_)
   refine zcf (zbo (vs := [(zI x11.Ty), (zI x11.Low), (zI x11.High), (zI x11.Max), (zab x11.Nullable)]) ti83 rfl rfl rfl rfl (zee rfl (zee rfl (zee rfl (zee rfl (zee rfl zej))))) hL12 0 rfl rfl (zae rfl) ?_)
   intro w13 (hL13 : vL w w13 [some b11, some b8] [zac [(zI x11.Ty), (zI x11.Low), (zI x11.High), (zI x11.Max), (zab x11.Nullable)], zac ([] ++ (cs11 ++ []))]) hS12
   have K13 := ks w hS12
   refine zan (zaj (zaf rfl (zag (zam (q := 0) zdi rfl ti3 rfl rfl rfl ?_))))
   refine zag (zau (v := (zI x11.Ty)) zax rfl rfl (hL13.at 0 rfl rfl) rfl ?_)
   refine zag (zdp (x := x11.Ty) (y := 2) ((x11.Ty : Int) = 2) rfl rfl zbd (zan ?_))
   refine zba ((x11.Ty : Int) = 2) rfl (fun hc13 => ?_) (fun hc13 => ?_)
   ·
    replace h := ite_t hc13 h
    obtain ⟨x12, n11, q17, q18, q19, h⟩ := zix h
    refine zcj 5 [] [] (fun W1 => [.det (osv (some b8) 0 x2.length m1), .det (zI x10), .det (zal (some ⟨b11, 3, none⟩)), .det (zI x11.Max), .det (zal (some ⟨b8, (0 + n11 * rArr2Int.sz), none⟩))]) mixed rfl rfl rfl (fun _ => rfl) (fun _ => rfl) ?_ ?_
    ·
     intro W1 _
     exact trivial
    intro w14 hE12
    obtain ⟨hL14, K14⟩ := zl hL13 hE12
    refine zat (fun _ _ => zaw (zai rfl (er rfl))) ?_
    refine zat (fun _ _ => zaw (zai rfl (er rfl))) ?_
    refine zat (fun _ _ => zaw (zam zdi rfl ti3 rfl rfl rfl (er rfl))) ?_
    refine zat (fun _ hE16 => zaw (zau zax rfl rfl ((hL14.ext hE16).at 0 rfl rfl) rfl (er rfl))) ?_
    refine zat (fun _ _ => zaw (zdv (r := rArr2Int) (b := b8) (o := 0) (n := n11) (m := x2.length) (xs := out11) (q := (0 + n11 * rArr2Int.sz)) zdu ti54 rfl hl11 rfl q17 q19 rfl (er rfl))) ?_
    refine zcx ?_
    rintro w20 Z25 hE18 hZ15 ⟨-⟩ ap10
    have hB10 := @zhb w14 Z25
    obtain ⟨hL16, K15⟩ := zl hL14 hE18
    refine zag (OpY.indexAddr_arr (i := 1) (q := ((0 + n11 * rArr2Int.sz) + 1)) Tryz.underlying54 ti3 rfl rfl (by decide) rfl ?_)
    have f14 := ((((hE11.mono (K12 None)).mono (K13 None)).mono (K14 None)).mono (K15 None))
    obtain ⟨vs11, q20, q21, q22⟩ := row_elem (pre := []) (sp := []) f14 q18
    obtain ⟨rfl, -⟩ := rArr2Int_open q21
    obtain ⟨x13, n12, q24, q25, q26, h⟩ := zux h
    obtain rfl := zin q17 q24
    refine zcf (OpY.stPart (pre := []) (r := rArr2Int) (off := 1) (us := [(zI x11.Max)]) (vs := [(zI x12.e0), (zI x12.e1)]) (vs' := [(zI x12.e0), (zI x11.Max)]) (a := (Arr2Int.mk x12.e0 x11.Max)) ti3 rfl rfl rfl rfl (zee rfl zej) q22 (zae rfl) rfl (rArr2Int_close zrt) hL16 1 rfl rfl f14 q19 rfl q26 ?_)
    have hl12 : x2.length = List.length x13 := by rw [q26, List.length_set]; exact hl11
    intro w21 cs12 (hL17 : vL w w21 [some b11, some b8] [zac [(zI x11.Ty), (zI x11.Low), (zI x11.High), (zI x11.Max), (zab x11.Nullable)], zac ([] ++ (cs12 ++ []))]) hS13 hE19 q27
    have hc14 : (cs12 ++ []).length = m1 * rArr2Int.sz := zhc hc11 q27
    have K16 := ks w hS13
    refine zan (zbn (zaf rfl (zag (zbz (x := x10) (y := 1) (z := (iw (x10 + 1))) rfl rfl rfl ?_))))
    refine zag (zai (v := (zI (iw (x10 + 1)))) rfl (zan ?_))
    have hp10 := hL17.pick [1] rfl rfl rfl
    have hL18 : vL w w21 [some b8] [zac ([] ++ (cs12 ++ []))] := hp10.1
    have K17 := ks w hp10.2
    have f15 := ((hE19.mono (K16 None)).mono (K17 None))
    obtain rfl := zah h
    refine zaq ⟨(x13, (iw (x10 + 1))), rfl, ?_⟩
    exact ⟨cs12, _, (zeg ⟨rfl, rfl, rfl, rfl, trivial⟩), hL18, (zao (zao (zao (zao (zao (zao K11 K12) K13) K14) K15) K16) K17), f15, hl12, hc14, trivial⟩
   replace h := ite_f hc13 h
   refine zbf (zbn (zaf rfl (zag (zbz (x := x10) (y := 1) (z := (iw (x10 + 1))) rfl rfl rfl ?_))))
   refine zag (zai (v := (zI (iw (x10 + 1)))) rfl (zan ?_))
   have hp11 := hL13.pick [1] rfl rfl rfl
   have hL19 : vL w w13 [some b8] [zac ([] ++ (cs11 ++ []))] := hp11.1
   have K18 := ks w hp11.2
   have f16 := (((hE11.mono (K12 None)).mono (K13 None)).mono (K18 None))
   obtain rfl := zah h
   refine zaq ⟨(out11, (iw (x10 + 1))), rfl, ?_⟩
   exact ⟨cs11, _, (zeg ⟨rfl, rfl, rfl, rfl, trivial⟩), hL19, (zao (zao (zao K11 K12) K13) K18), f16, hl11, hc11, trivial⟩
  replace h := ite_f hc12 h
  refine zck rfl ?_
  obtain rfl := zah h
  obtain rfl := hd10 _ rfl
  replace h := g10
  try dsimp only at h
  refine zaq ?_
  exact ⟨out11, cs11, _, rfl, (zeg zrt), hL11, K11, hE11, hl11, hc11, trivial⟩
 rintro _ w22 ⟨out10, cs10, u, rfl, rfl, hL20, K19, hE20, hl13, hc15, -⟩
 replace h := g10
 try dsimp only at h
 refine zaj (zaf rfl (zag (zai (v := (osv (some b8) 0 x2.length m1)) rfl ?_)))
 refine zag (zak (v := (osv (some b8) 0 x2.length m1)) rfl ?_)
 refine zan (zbi ?_)
 obtain rfl := zah h
 refine ⟨[(osv (some b8) 0 x2.length m1)], zrt, ⟨_, rfl, hL20.done, ?_⟩⟩
 exact ⟨some b8, m1, cs10, [], (by rw [← hl13]; rfl), (hL20.newOwn [0] rfl rfl rfl), (hE20.mono (zdx [0] rfl)), hc15, trivial⟩
theorem vhigh_w (N : Nat) (l : (List RVar)) (ranges : (List Arr2Int)) (pc : Int) (l_v : Value) (ranges_v : Value) (w : World) (S : Nat → Prop) (l_h : Rs rRVar (vH w S [] w) l_v l) (ranges_h : Rs rArr2Int (vH w S [] w) ranges_v ranges) (r : Int) (h : vhigh N l ranges pc = some r) :
  Calls Tryz.prog 40 #[l_v, ranges_v, (zI pc)] w (Ret w (fun v w' => (zI r) = v ∧ True)) := by
 unfold vhigh at h
 have hL : vL w w [] [] := Go.X.Loc.begin0 w
 refine calls_of (l := [l_v, ranges_v, (zI pc)]) (rl := [.tmp 6]) (n := 18) Tryz.func40 rfl rfl rfl (zae rfl) ?_
 refine zaj (zaf rfl (zag (zak (v := (zI 0)) rfl ?_)))
 refine zan (zaj ?_)
 obtain ⟨x1, n3, q4, q5, -, h⟩ := zix h
 obtain ⟨b6, o7, c8, vs9, q10, q11, f10, q12⟩ := zcw ranges_h q5
 obtain ⟨rfl, -⟩ := rArr2Int_open q12
 have f11 := (f10.part (us := [(zI x1.e1)]) 1 rfl)
 obtain ⟨x10, n10, q14, q15, -, h⟩ := zix h
 obtain ⟨b10, o10, c10, vs10, q16, q17, f12, q18⟩ := zcw l_h q15
 obtain ⟨rfl, -⟩ := rRVar_open q18
 have f13 := (f12.part (us := [(zI x10.Max)]) 3 rfl)
 refine zcj 10 [] [] (fun W1 => [.det ranges_v, .det (zI pc), .det (zal (some ⟨b6, (o7 + n3 * rArr2Int.sz), none⟩)), .det (zal (some ⟨b6, (o7 + n3 * rArr2Int.sz) + 1, none⟩)), .det (zI x1.e1), .det l_v, .det (zI pc), .det (zal (some ⟨b10, (o10 + n10 * rRVar.sz), none⟩)), .det (zal (some ⟨b10, (o10 + n10 * rRVar.sz) + 3, none⟩)), .det (zI x10.Max)]) mixed rfl rfl rfl (fun _ => rfl) (fun _ => rfl) ?_ ?_
 ·
  intro W1 _
  exact trivial
 intro w10 hE10
 obtain ⟨hL10, K10⟩ := zl hL hE10
 refine zat (fun _ _ => zaw (zai rfl (er rfl))) ?_
 refine zat (fun _ _ => zaw (zai rfl (er rfl))) ?_
 refine zat (fun _ _ => zaw (zbp (r := rArr2Int) (v := ranges_v) (n := n3) (m := (o7 + n3 * rArr2Int.sz)) zdu ti54 rfl q10 rfl q4 q5 rfl (er rfl))) ?_
 refine zat (fun _ _ => zaw (OpY.indexAddr_arr (i := 1) (q := (o7 + n3 * rArr2Int.sz) + 1) Tryz.underlying54 ti3 rfl rfl (by decide) rfl (er rfl))) ?_
 refine zat (fun _ hE15 => zaw (zca zax rfl rfl zek (zda ((ke hL10 hE15) S) (zda (K10 S) f11)) (er rfl))) ?_
 refine zat (fun _ _ => zaw (zai rfl (er rfl))) ?_
 refine zat (fun _ _ => zaw (zai rfl (er rfl))) ?_
 refine zat (fun _ _ => zaw (zbp (r := rRVar) (v := l_v) (n := n10) (m := (o10 + n10 * rRVar.sz)) zcu ti83 rfl q16 rfl q14 q15 rfl (er rfl))) ?_
 refine zat (fun _ _ => zaw (zam zdi rfl ti3 rfl rfl rfl (er rfl))) ?_
 refine zat (fun _ hE20 => zaw (zca zax rfl rfl zek (zda ((ke hL10 hE20) S) (zda (K10 S) f13)) (er rfl))) ?_
 refine zcx ?_
 rintro w21 Z30 hE21 hZ20 ⟨-⟩ ap10
 have hB10 := @zhb w10 Z30
 have hL11 := hL10.ext hE21
 refine zag (OpY.min (x := x1.e1) (y := x10.Max) rfl rfl ?_)
 refine zag (zak (v := (zI (imin x1.e1 x10.Max))) rfl ?_)
 refine zan (zbi ?_)
 obtain rfl := zah h
 refine ⟨[(zI (imin x1.e1 x10.Max))], zrt, ⟨_, rfl, hL11.done, ?_⟩⟩
 exact zrt
theorem vbounds_w (N : Nat) (pa : Int) (low : Int) (high : Int)  (w : World) (S : Nat → Prop)  (r : (List Constraint)) (h : vbounds N pa low high = some r) :
  Calls Tryz.prog 39 #[(zI pa), (zI low), (zI high)] w (Ret w (fun v w' => ∃ (ob0 : Option Nat) (cap0 : Nat) (cs0 : List Value) (sp0 : List Value), (zO ob0 r cap0) = v ∧ NewOwn w w' [ob0] [zac ([] ++ (cs0 ++ sp0))] ∧ Els rConstraint (vH w None [ob0] w') cs0 r ∧ (cs0 ++ sp0).length = cap0 * rConstraint.sz ∧ True)) := by
 unfold vbounds at h
 have hL : vL w w [] [] := Go.X.Loc.begin0 w
 refine calls_of (l := [(zI pa), (zI low), (zI high)]) (rl := [.tmp 6]) (n := 21) Tryz.func39 rfl rfl rfl (zae rfl) ?_
 refine zaj (zaf rfl (zag (zak (v := zN) rfl ?_)))
 refine zan (zaj (zaf rfl (zag (zai (v := (zI low)) rfl ?_))))
 refine zag (zai (v := (zI pa)) rfl ?_)
 refine zag (zcc (zc := [(zI 0), (zI 0)]) (cs := [(zI pa), (zI (-1))]) (is := [0, 1]) (vs := [(zI pa), (zI (-1))]) (css := [[(zI pa)], [(zI (-1))]]) pl87 ti87 rfl rfl rfl ⟨rfl, rfl, trivial⟩ rfl ?_)
 have hE2 : Els rCoef (vH w None [] w) [(zI pa), (zI (-1))] [(Coef.mk pa (-1))] := (zcp (a := [(zI pa), (zI (-1))]) (rCoef_close ⟨rfl, trivial⟩) zcm)
 refine zag (zch (r := rCoef) (vs := [(zap #[(zI pa), (zI (-1))])]) (css := [[(zI pa), (zI (-1))]]) (xs := [(Coef.mk pa (-1))]) zbr ti87 (zae rfl) rfl rfl ⟨rfl, rfl, trivial⟩ (zae rfl) hE2 rfl hL ?_)
 intro b1 w5 hc3 hL6 hS8
 have K7 := ks w hS8
 refine zag (zcc (zc := [(zI 0), zN]) (cs := [(zI low), (osv (some b1) 0 1 1)]) (is := [0, 1]) (vs := [(zI low), (osv (some b1) 0 1 1)]) (css := [[(zI low)], [(osv (some b1) 0 1 1)]]) pl90 ti90 rfl rfl rfl ⟨rfl, ⟨(zen (zem _ _ _ _)), trivial⟩⟩ rfl ?_)
 refine zag (zcc (zc := [(zI 0), zN, zF]) (cs := [(zI low), (osv (some b1) 0 1 1), zF]) (is := [0]) (vs := [(zap #[(zI low), (osv (some b1) 0 1 1)])]) (css := [[(zI low), (osv (some b1) 0 1 1)]]) pl92 ti92 rfl rfl rfl zrt rfl ?_)
 refine zag (zai (v := (zI high)) rfl ?_)
 refine zag (OpY.neg (x := high) (z := (iw (0 - high))) rfl rfl ?_)
 refine zag (zai (v := (zI pa)) rfl ?_)
 refine zag (zcc (zc := [(zI 0), (zI 0)]) (cs := [(zI pa), (zI 1)]) (is := [0, 1]) (vs := [(zI pa), (zI 1)]) (css := [[(zI pa)], [(zI 1)]]) pl87 ti87 rfl rfl rfl ⟨rfl, rfl, trivial⟩ rfl ?_)
 have hE10 : Els rCoef (vH w None [some b1] w5) [(zI pa), (zI 1)] [(Coef.mk pa 1)] := (zcp (a := [(zI pa), (zI 1)]) (rCoef_close ⟨rfl, trivial⟩) zcm)
 refine zag (zch (r := rCoef) (vs := [(zap #[(zI pa), (zI 1)])]) (css := [[(zI pa), (zI 1)]]) (xs := [(Coef.mk pa 1)]) zbr ti87 (zae rfl) rfl rfl ⟨rfl, rfl, trivial⟩ (zae rfl) hE10 rfl hL6 ?_)
 intro b9 w10 hc10 hL10 hS10
 have K10 := ks w hS10
 refine zag (zcc (zc := [(zI 0), zN]) (cs := [(zI (iw (0 - high))), (osv (some b9) 0 1 1)]) (is := [0, 1]) (vs := [(zI (iw (0 - high))), (osv (some b9) 0 1 1)]) (css := [[(zI (iw (0 - high)))], [(osv (some b9) 0 1 1)]]) pl90 ti90 rfl rfl rfl ⟨rfl, ⟨(zen (zem _ _ _ _)), trivial⟩⟩ rfl ?_)
 refine zag (zcc (zc := [(zI 0), zN, zF]) (cs := [(zI (iw (0 - high))), (osv (some b9) 0 1 1), zF]) (is := [0]) (vs := [(zap #[(zI (iw (0 - high))), (osv (some b9) 0 1 1)])]) (css := [[(zI (iw (0 - high))), (osv (some b9) 0 1 1)]]) pl92 ti92 rfl rfl rfl zrt rfl ?_)
 have f10 := ((hE2.mono (K7 None)).mono (K10 None))
 have f11 := hL10.freezeRow 1 rfl rfl f10 rfl rfl rfl hc3
 have hp10 := hL10.pick [0] rfl rfl rfl
 have hL11 : vL w w10 [some b9] [zac ([] ++ ([(zI pa), (zI 1)] ++ []))] := hp10.1
 have K11 := ks w hp10.2
 have f12 := ((hE10.mono (K10 None)).mono (K11 None))
 have f13 := hL11.freezeRow 0 rfl rfl f12 rfl rfl rfl hc10
 have hp11 := hL11.pick [] rfl rfl rfl
 have hL12 : vL w w10 [] [] := hp11.1
 have K12 := ks w hp11.2
 have f14 := (f11.mono (K12 None))
 have hE11 : Els rConstraint (vH w None [] w10) [(zI low), (osv (some b1) 0 1 1), zF, (zI (iw (0 - high))), (osv (some b9) 0 1 1), zF] [(Constraint.mk (Linear.mk low [(Coef.mk pa (-1))]) false), (Constraint.mk (Linear.mk (iw (0 - high)) [(Coef.mk pa 1)]) false)] := (zcp (a := [(zI low), (osv (some b1) 0 1 1), zF]) (rConstraint_close ⟨(osv (some b1) 0 1 1), rfl, f14, trivial⟩) (zcp (a := [(zI (iw (0 - high))), (osv (some b9) 0 1 1), zF]) (rConstraint_close ⟨(osv (some b9) 0 1 1), rfl, f13, trivial⟩) zcm))
 refine zag (zch (r := rConstraint) (vs := [(zap #[(zI low), (osv (some b1) 0 1 1), zF]), (zap #[(zI (iw (0 - high))), (osv (some b9) 0 1 1), zF])]) (css := [[(zI low), (osv (some b1) 0 1 1), zF], [(zI (iw (0 - high))), (osv (some b9) 0 1 1), zF]]) (xs := [(Constraint.mk (Linear.mk low [(Coef.mk pa (-1))]) false), (Constraint.mk (Linear.mk (iw (0 - high)) [(Coef.mk pa 1)]) false)]) zcz ti92 (zae rfl) rfl rfl ⟨rfl, rfl, ⟨rfl, rfl, trivial⟩⟩ (zae rfl) hE11 rfl hL12 ?_)
 intro b10 w11 hc11 hL13 hS11
 have K13 := ks w hS11
 refine zag (zak (v := (osv (some b10) 0 2 2)) rfl ?_)
 refine zan (zbi ?_)
 obtain rfl := zah h
 refine ⟨[(osv (some b10) 0 2 2)], zrt, ⟨_, rfl, hL13.done, ?_⟩⟩
 have f15 := (hE11.mono (K13 None))
 exact ⟨some b10, 2, [(zI low), (osv (some b1) 0 1 1), zF, (zI (iw (0 - high))), (osv (some b9) 0 1 1), zF], [], rfl, (hL13.newOwn [0] rfl rfl rfl), (f15.mono (zdx [0] rfl)), hc11, trivial⟩
theorem vquotient_w (N : Nat) (q : Int) (pb : Linear) (pc : Int) (pb_v : Value) (w : World) (S : Nat → Prop) (pb_h : Rs rCoef (vH w S [] w) pb_v pb.Coefs) (r : (List Constraint)) (h : vquotient N q pb pc = some r) :
  Calls Tryz.prog 41 #[(zI q), (zap #[(zI pb.Const), pb_v]), (zI pc)] w (Ret w (fun v w' => ∃ (ob0 : Option Nat) (cap0 : Nat) (cs0 : List Value) (sp0 : List Value), (zO ob0 r cap0) = v ∧ NewOwn w w' [ob0] [zac ([] ++ (cs0 ++ sp0))] ∧ Els rConstraint (vH w None [ob0] w') cs0 r ∧ (cs0 ++ sp0).length = cap0 * rConstraint.sz ∧ True)) := by
 unfold vquotient at h
 have hL : vL w w [] [] := Go.X.Loc.begin0 w
 refine calls_of (l := [(zI q), (zap #[(zI pb.Const), pb_v]), (zI pc)]) (rl := [.tmp 6]) (n := 68) Tryz.func41 rfl rfl rfl (zae rfl) ?_
 refine zaj (zaf rfl (zag (zdj (cs := [(zI pb.Const), pb_v]) rfl rfl hL ?_)))
 intro b1 w2 hL3 hS5
 have K4 := ks w hS5
 refine zag (zak (v := zN) rfl ?_)
 refine zan (zaj (zaf rfl (zag (zam (q := 0) zbx rfl ti2 rfl rfl rfl ?_))))
 refine zag (zau (v := (zI pb.Const)) zdd rfl rfl (hL3.at 0 rfl rfl) rfl ?_)
 refine zag (OpY.neg (x := pb.Const) (z := (iw (0 - pb.Const))) rfl rfl ?_)
 refine zag (zcc (zc := [(zI 0), zN]) (cs := [(zI (iw (0 - pb.Const))), zN]) (is := [0]) (vs := [(zI (iw (0 - pb.Const)))]) (css := [[(zI (iw (0 - pb.Const)))]]) pl90 ti90 rfl rfl rfl zrt rfl ?_)
 refine zag (zbw (cs := [(zI 0), zN]) ti90 rfl hL3 ?_)
 intro b6 w7 hL8 hS10
 have K9 := ks w hS10
 refine zcf (zbo (vs := [(zI (iw (0 - pb.Const))), zN]) ti90 rfl rfl rfl rfl (zee rfl (zee rfl zej)) hL8 0 rfl rfl (zae rfl) ?_)
 intro w10 (hL10 : vL w w10 [some b6, some b1] [zac [(zI (iw (0 - pb.Const))), zN], zac [(zI pb.Const), pb_v]]) hS11
 have K10 := ks w hS11
 refine zan (zaj (zaf rfl (zag (zam (q := 0) zbx rfl ti2 rfl rfl rfl ?_))))
 refine zag (zau (v := (zI pb.Const)) zdd rfl rfl (hL10.at 1 rfl rfl) rfl ?_)
 refine zag (zai (v := (zI pc)) rfl ?_)
 refine zag (zdz (x := pc) (y := 1) (z := (iw (pc - 1))) rfl rfl rfl ?_)
 refine zag (zdz (x := pb.Const) (y := (iw (pc - 1))) (z := (iw (pb.Const - (iw (pc - 1))))) rfl rfl rfl ?_)
 refine zag (zcc (zc := [(zI 0), zN]) (cs := [(zI (iw (pb.Const - (iw (pc - 1))))), zN]) (is := [0]) (vs := [(zI (iw (pb.Const - (iw (pc - 1)))))]) (css := [[(zI (iw (pb.Const - (iw (pc - 1)))))]]) pl90 ti90 rfl rfl rfl zrt rfl ?_)
 refine zag (zbw (cs := [(zI 0), zN]) ti90 rfl hL10 ?_)
 intro b10 w11 hL11 hS12
 have K11 := ks w hS12
 refine zcf (zbo (vs := [(zI (iw (pb.Const - (iw (pc - 1))))), zN]) ti90 rfl rfl rfl rfl (zee rfl (zee rfl zej)) hL11 0 rfl rfl (zae rfl) ?_)
 intro w12 (hL12 : vL w w12 [some b10, some b6, some b1] [zac [(zI (iw (pb.Const - (iw (pc - 1))))), zN], zac [(zI (iw (0 - pb.Const))), zN], zac [(zI pb.Const), pb_v]]) hS13
 have K12 := ks w hS13
 refine zan (zaj (zaj (zaf rfl (zag (zam (q := 1) zbx rfl ti88 rfl rfl rfl ?_)))))
 refine zag (zau (v := pb_v) zbr rfl rfl (hL12.at 2 rfl rfl) rfl ?_)
 have f10 := (((((pb_h.mono (K4 S)).mono (K9 S)).mono (K10 S)).mono (K11 S)).mono (K12 S))
 refine zag (zbc (v := pb_v) zbr rfl f10 ?_)
 refine zag (zai (v := (zI 0)) rfl (zan ?_))
 obtain ⟨s10, hl10, g10⟩ := zec h
 refine zbs (fun e w' => ∃ (coefs10 : (List Coef)) (coefs11 : (List Coef)) (ob10 : Option Nat) (cap10 : Nat) (sp10 : List Value) (cs10 : List Value) (ln10 : Nat) (ob11 : Option Nat) (cap11 : Nat) (sp11 : List Value) (cs11 : List Value) (ln11 : Nat) (u : Env), (coefs10, coefs11) = s10 ∧ e = upds [(0, (zI q)), (2, (zI pc)), (7, (zal (some ⟨b6, 0, none⟩))), (8, (zal (some ⟨b10, 0, none⟩)))] u ∧ vL w w' [some b6, ob10, some b10, ob11] [zac [(zI (iw (0 - pb.Const))), (osv ob10 0 ln10 cap10)], zac ([] ++ (cs10 ++ sp10)), zac [(zI (iw (pb.Const - (iw (pc - 1))))), (osv ob11 0 ln11 cap11)], zac ([] ++ (cs11 ++ sp11))] ∧ Keep w.heap.size [some b10, some b6, some b1] w12 [some b6, ob10, some b10, ob11] w' ∧ Els rCoef (vH w None [some b6, ob10, some b10, ob11] w') cs10 coefs10 ∧ ln10 = List.length coefs10 ∧ (cs10 ++ sp10).length = cap10 * rCoef.sz ∧ Els rCoef (vH w None [some b6, ob10, some b10, ob11] w') cs11 coefs11 ∧ ln11 = List.length coefs11 ∧ (cs11 ++ sp11).length = cap11 * rCoef.sz ∧ True) ?_ ?_
 ·
  refine zbb ?_
  have hp10 := hL12.addNil
  have hL13 : vL w w12 [none, some b10, some b6, some b1] [zac ([] ++ ([] ++ [])), zac [(zI (iw (pb.Const - (iw (pc - 1))))), zN], zac [(zI (iw (0 - pb.Const))), zN], zac [(zI pb.Const), pb_v]] := hp10.1
  have K13 := ks w hp10.2
  have hp11 := hL13.addNil
  have hL14 : vL w w12 [none, none, some b10, some b6, some b1] [zac ([] ++ ([] ++ [])), zac ([] ++ ([] ++ [])), zac [(zI (iw (pb.Const - (iw (pc - 1))))), zN], zac [(zI (iw (0 - pb.Const))), (osv none 0 (List.length ([] : (List Coef))) 0)], zac [(zI pb.Const), pb_v]] := hp11.1
  have K14 := ks w hp11.2
  have hp12 := hL14.pick [3, 1, 2, 0] rfl rfl rfl
  have hL15 : vL w w12 [some b6, none, some b10, none] [zac [(zI (iw (0 - pb.Const))), (osv none 0 (List.length ([] : (List Coef))) 0)], zac ([] ++ ([] ++ [])), zac [(zI (iw (pb.Const - (iw (pc - 1))))), (osv none 0 (List.length ([] : (List Coef))) 0)], zac ([] ++ ([] ++ []))] := hp12.1
  have K15 := ks w hp12.2
  have f11 := (((zcm (r := rCoef)).mono (K14 None)).mono (K15 None))
  have f12 := ((zcm (r := rCoef)).mono (K15 None))
  refine zcb hl10 (fun (ss : ((List Coef) × (List Coef) × Int)) (e : Env) (w' : World) => match ss with | (coefs12, coefs13, x10) => ∃ (ob12 : Option Nat) (cap12 : Nat) (sp12 : List Value) (cs12 : List Value) (ln12 : Nat) (ob13 : Option Nat) (cap13 : Nat) (sp13 : List Value) (cs13 : List Value) (ln13 : Nat) (u : Env), e = upds [(0, (zI q)), (2, (zI pc)), (7, (zal (some ⟨b6, 0, none⟩))), (8, (zal (some ⟨b10, 0, none⟩))), (22, pb_v), (23, (zI (pb.Coefs.length : Int))), (24, (zI x10))] u ∧ vL w w' [some b6, ob12, some b10, ob13] [zac [(zI (iw (0 - pb.Const))), (osv ob12 0 ln12 cap12)], zac ([] ++ (cs12 ++ sp12)), zac [(zI (iw (pb.Const - (iw (pc - 1))))), (osv ob13 0 ln13 cap13)], zac ([] ++ (cs13 ++ sp13))] ∧ Keep w.heap.size [some b10, some b6, some b1] w12 [some b6, ob12, some b10, ob13] w' ∧ Els rCoef (vH w None [some b6, ob12, some b10, ob13] w') cs12 coefs12 ∧ ln12 = List.length coefs12 ∧ (cs12 ++ sp12).length = cap12 * rCoef.sz ∧ Els rCoef (vH w None [some b6, ob12, some b10, ob13] w') cs13 coefs13 ∧ ln13 = List.length coefs13 ∧ (cs13 ++ sp13).length = cap13 * rCoef.sz ∧ True) ⟨none, 0, [], [], (List.length ([] : (List Coef))), none, 0, [], [], (List.length ([] : (List Coef))), _, (zeg ⟨rfl, rfl, rfl, rfl, rfl, rfl, rfl, trivial⟩), hL15, (zao (zao K13 K14) K15), f11, rfl, (show ([] ++ [] : List Value).length = 0 * rCoef.sz by simp), f12, rfl, (show ([] ++ [] : List Value).length = 0 * rCoef.sz by simp), trivial⟩ ?_
  rintro ⟨coefs12, coefs13, x10⟩ oo _ w13 ⟨ob12, cap12, sp12, cs12, ln12, ob13, cap13, sp13, cs13, ln13, u, rfl, hL16, K16, hE10, rfl, hc10, hE11, rfl, hc11, -⟩ h hd10
  rw [vquotient_b1] at h
  refine zaj (zaf rfl (zag (zci (x := x10) (y := (pb.Coefs.length : Int)) ((x10 : Int) < (pb.Coefs.length : Int)) rfl rfl zbd ?_)))
  refine zan (zaj ?_)
  refine zba ((x10 : Int) < (pb.Coefs.length : Int)) rfl (fun hc12 => ?_) (fun hc12 => ?_)
  ·
   replace h := ite_t hc12 h
   refine zbf (zaj (zbb (zaj (zaf rfl ?_))))
   obtain ⟨x11, n10, q11, q12, -, h⟩ := zix h
   have f13 := (f10.mono (K16 S))
   obtain ⟨b11, o10, c10, vs10, q13, q14, f14, q15⟩ := zcw f13 q12
   obtain ⟨rfl, -⟩ := rCoef_open q15
   refine zag (zbp (r := rCoef) (v := pb_v) (n := n10) (m := (o10 + n10 * rCoef.sz)) zbr ti87 rfl q13 rfl q11 q12 rfl ?_)
   refine zag (zdl (vs := [(zI x11.Var), (zI x11.N)]) zdh rfl ti87 rfl rfl zek f14 ?_)
   refine zag (zbw (cs := [(zI 0), (zI 0)]) ti87 rfl hL16 ?_)
   intro b12 w14 hL17 hS14
   have K17 := ks w hS14
   refine zcf (zbo (vs := [(zI x11.Var), (zI x11.N)]) ti87 rfl rfl rfl rfl (zee rfl (zee rfl zej)) hL17 0 rfl rfl (zae rfl) ?_)
   intro w15 (hL18 : vL w w15 [some b12, some b6, ob12, some b10, ob13] [zac [(zI x11.Var), (zI x11.N)], zac [(zI (iw (0 - pb.Const))), (zO ob12 coefs12 cap12)], zac ([] ++ (cs12 ++ sp12)), zac [(zI (iw (pb.Const - (iw (pc - 1))))), (zO ob13 coefs13 cap13)], zac ([] ++ (cs13 ++ sp13))]) hS15
   have K18 := ks w hS15
   refine zan (zaj (zaf rfl (zag (zam (q := 1) zbx rfl ti88 rfl rfl rfl ?_))))
   refine zag (zau (v := (zO ob12 coefs12 cap12)) zbr rfl rfl (hL18.at 1 rfl rfl) rfl ?_)
   refine zag (zam (q := 0) zdh rfl ti3 rfl rfl rfl ?_)
   refine zag (zau (v := (zI x11.Var)) zax rfl rfl (hL18.at 0 rfl rfl) rfl ?_)
   refine zag (zam (q := 1) zdh rfl ti2 rfl rfl rfl ?_)
   refine zag (zau (v := (zI x11.N)) zdd rfl rfl (hL18.at 0 rfl rfl) rfl ?_)
   refine zag (OpY.neg (x := x11.N) (z := (iw (0 - x11.N))) rfl rfl ?_)
   refine zag (zcc (zc := [(zI 0), (zI 0)]) (cs := [(zI x11.Var), (zI (iw (0 - x11.N)))]) (is := [0, 1]) (vs := [(zI x11.Var), (zI (iw (0 - x11.N)))]) (css := [[(zI x11.Var)], [(zI (iw (0 - x11.N)))]]) pl87 ti87 rfl rfl rfl ⟨rfl, rfl, trivial⟩ rfl ?_)
   have hE12 : Els rCoef (vH w None [some b12, some b6, ob12, some b10, ob13] w15) [(zI x11.Var), (zI (iw (0 - x11.N)))] [(Coef.mk x11.Var (iw (0 - x11.N)))] := (zcp (a := [(zI x11.Var), (zI (iw (0 - x11.N)))]) (rCoef_close ⟨rfl, trivial⟩) zcm)
   refine zag (zch (r := rCoef) (vs := [(zap #[(zI x11.Var), (zI (iw (0 - x11.N)))])]) (css := [[(zI x11.Var), (zI (iw (0 - x11.N)))]]) (xs := [(Coef.mk x11.Var (iw (0 - x11.N)))]) zbr ti87 (zae rfl) rfl rfl ⟨rfl, rfl, trivial⟩ (zae rfl) hE12 rfl hL18 ?_)
   intro b13 w16 hc13 hL19 hS16
   have K19 := ks w hS16
   obtain ⟨x12, q16, h⟩ := zec h
   obtain ⟨q17, q18, q19⟩ := zeq q16
   have f15 := (hE12.mono (K19 None))
   have f16 := (((hE10.mono (K17 None)).mono (K18 None)).mono (K19 None))
   refine zag (zdn (r := rCoef) (H := (vH w None [some b13, some b12, some b6, ob12, some b10, ob13] w16)) (cs := cs12) (sp := sp12) (xs := coefs12) (ys := [(Coef.mk x11.Var (iw (0 - x11.N)))]) (Y := x12) (n := coefs12.length) (cap := cap12) (i := 3) zbr ti87 rfl rfl rfl rfl hL19 rfl rfl f16 rfl hc10 (Src.row (pre := []) (o := 0) (n := 1) (cap := 1) (hL19.at 0 rfl rfl) f15 rfl rfl rfl) (Els.anyH (fun _ _ _ _ h => h) f15) q17 q18 q19 ?_)
   intro ob14 cap14 sp14 cs14 w17 hE13 hc14 (hL20 : vL w w17 [some b13, some b12, some b6, ob14, some b10, ob13] [zac ([] ++ ([(zI x11.Var), (zI (iw (0 - x11.N)))] ++ [])), zac [(zI x11.Var), (zI x11.N)], zac [(zI (iw (0 - pb.Const))), (zO ob12 coefs12 cap12)], zac ([] ++ (cs14 ++ sp14)), zac [(zI (iw (pb.Const - (iw (pc - 1))))), (zO ob13 coefs13 cap13)], zac ([] ++ (cs13 ++ sp13))]) hS17
   have K20 := ks w hS17
   refine zag (zam (q := 1) zbx rfl ti88 rfl rfl rfl ?_)
   refine zcf (zbo (vs := [(zO ob14 x12 cap14)]) ti88 rfl rfl (zen (zem ob14 0 x12.length cap14)) rfl (zee (zem ob14 0 x12.length cap14) zej) hL20 2 rfl rfl (zae rfl) ?_)
   intro w18 (hL21 : vL w w18 [some b13, some b12, some b6, ob14, some b10, ob13] [zac ([] ++ ([(zI x11.Var), (zI (iw (0 - x11.N)))] ++ [])), zac [(zI x11.Var), (zI x11.N)], zac [(zI (iw (0 - pb.Const))), (zO ob14 x12 cap14)], zac ([] ++ (cs14 ++ sp14)), zac [(zI (iw (pb.Const - (iw (pc - 1))))), (zO ob13 coefs13 cap13)], zac ([] ++ (cs13 ++ sp13))]) hS18
   have K21 := ks w hS18
   refine zan (zaf rfl (zag (zam (q := 1) zbx rfl ti88 rfl rfl rfl ?_)))
   refine zag (zau (v := (zO ob13 coefs13 cap13)) zbr rfl rfl (hL21.at 4 rfl rfl) rfl ?_)
   refine zag (zbj (vs := [(zI x11.Var), (zI x11.N)]) zdh rfl ti87 rfl (hL21.at 1 rfl rfl) rfl rfl ?_)
   have hE14 : Els rCoef (vH w None [some b13, some b12, some b6, ob14, some b10, ob13] w18) [(zI x11.Var), (zI x11.N)] [x11] := (zcp (a := [(zI x11.Var), (zI x11.N)]) (rCoef_close ⟨rfl, trivial⟩) zcm)
   refine zag (zch (r := rCoef) (vs := [(zap #[(zI x11.Var), (zI x11.N)])]) (css := [[(zI x11.Var), (zI x11.N)]]) (xs := [x11]) zbr ti87 (zae rfl) rfl rfl ⟨rfl, rfl, trivial⟩ (zae rfl) hE14 rfl hL21 ?_)
   intro b14 w19 hc15 hL22 hS19
   have K22 := ks w hS19
   obtain ⟨x13, q20, h⟩ := zec h
   obtain ⟨q21, q22, q23⟩ := zeq q20
   have f17 := (hE14.mono (K22 None))
   have f18 := ((((((hE11.mono (K17 None)).mono (K18 None)).mono (K19 None)).mono (K20 None)).mono (K21 None)).mono (K22 None))
   refine zag (zdn (r := rCoef) (H := (vH w None [some b14, some b13, some b12, some b6, ob14, some b10, ob13] w19)) (cs := cs13) (sp := sp13) (xs := coefs13) (ys := [x11]) (Y := x13) (n := coefs13.length) (cap := cap13) (i := 6) zbr ti87 rfl rfl rfl rfl hL22 rfl rfl f18 rfl hc11 (Src.row (pre := []) (o := 0) (n := 1) (cap := 1) (hL22.at 0 rfl rfl) f17 rfl rfl rfl) (Els.anyH (fun _ _ _ _ h => h) f17) q21 q22 q23 ?_)
   intro ob15 cap15 sp15 cs15 w20 hE15 hc16 (hL23 : vL w w20 [some b14, some b13, some b12, some b6, ob14, some b10, ob15] [zac ([] ++ ([(zI x11.Var), (zI x11.N)] ++ [])), zac ([] ++ ([(zI x11.Var), (zI (iw (0 - x11.N)))] ++ [])), zac [(zI x11.Var), (zI x11.N)], zac [(zI (iw (0 - pb.Const))), (zO ob14 x12 cap14)], zac ([] ++ (cs14 ++ sp14)), zac [(zI (iw (pb.Const - (iw (pc - 1))))), (zO ob13 coefs13 cap13)], zac ([] ++ (cs15 ++ sp15))]) hS20
   have K23 := ks w hS20
   refine zag (zam (q := 1) zbx rfl ti88 rfl rfl rfl ?_)
   refine zcf (zbo (vs := [(zO ob15 x13 cap15)]) ti88 rfl rfl (zen (zem ob15 0 x13.length cap15)) rfl (zee (zem ob15 0 x13.length cap15) zej) hL23 5 rfl rfl (zae rfl) ?_)
   intro w21 (hL24 : vL w w21 [some b14, some b13, some b12, some b6, ob14, some b10, ob15] [zac ([] ++ ([(zI x11.Var), (zI x11.N)] ++ [])), zac ([] ++ ([(zI x11.Var), (zI (iw (0 - x11.N)))] ++ [])), zac [(zI x11.Var), (zI x11.N)], zac [(zI (iw (0 - pb.Const))), (zO ob14 x12 cap14)], zac ([] ++ (cs14 ++ sp14)), zac [(zI (iw (pb.Const - (iw (pc - 1))))), (zO ob15 x13 cap15)], zac ([] ++ (cs15 ++ sp15))]) hS21
   have K24 := ks w hS21
   refine zan (zbn (zaf rfl (zag (zbz (x := x10) (y := 1) (z := (iw (x10 + 1))) rfl rfl rfl ?_))))
   refine zag (zai (v := (zI (iw (x10 + 1)))) rfl (zan ?_))
   have hp13 := hL24.pick [3, 4, 5, 6] rfl rfl rfl
   have hL25 : vL w w21 [some b6, ob14, some b10, ob15] [zac [(zI (iw (0 - pb.Const))), (zO ob14 x12 cap14)], zac ([] ++ (cs14 ++ sp14)), zac [(zI (iw (pb.Const - (iw (pc - 1))))), (zO ob15 x13 cap15)], zac ([] ++ (cs15 ++ sp15))] := hp13.1
   have K25 := ks w hp13.2
   have f19 := ((((((hE13.mono (K20 None)).mono (K21 None)).mono (K22 None)).mono (K23 None)).mono (K24 None)).mono (K25 None))
   have f20 := (((hE15.mono (K23 None)).mono (K24 None)).mono (K25 None))
   obtain rfl := zah h
   refine zaq ⟨(x12, x13, (iw (x10 + 1))), rfl, ?_⟩
   exact ⟨ob14, cap14, sp14, cs14, x12.length, ob15, cap15, sp15, cs15, x13.length, _, (zeg ⟨rfl, rfl, rfl, rfl, rfl, rfl, rfl, trivial⟩), hL25, (zao (zao (zao (zao (zao (zao (zao (zao (zao K16 K17) K18) K19) K20) K21) K22) K23) K24) K25), f19, rfl, hc14, f20, rfl, hc16, trivial⟩
  replace h := ite_f hc12 h
  refine zck rfl ?_
  obtain rfl := zah h
  obtain rfl := hd10 _ rfl
  replace h := g10
  try dsimp only at h
  refine zaq ?_
  exact ⟨coefs12, coefs13, ob12, cap12, sp12, cs12, coefs12.length, ob13, cap13, sp13, cs13, coefs13.length, _, rfl, (zeg ⟨rfl, rfl, rfl, rfl, trivial⟩), hL16, K16, hE10, rfl, hc10, hE11, rfl, hc11, trivial⟩
 rintro _ w22 ⟨coefs10, coefs11, ob10, cap10, sp10, cs10, ln10, ob11, cap11, sp11, cs11, ln11, u, rfl, rfl, hL26, K26, hE16, rfl, hc17, hE17, rfl, hc18, -⟩
 replace h := g10
 try dsimp only at h
 refine zaj (zaf rfl (zag (zam (q := 1) zbx rfl ti88 rfl rfl rfl ?_)))
 refine zag (zau (v := (zO ob10 coefs10 cap10)) zbr rfl rfl (hL26.at 0 rfl rfl) rfl ?_)
 refine zag (zai (v := (zI q)) rfl ?_)
 refine zag (zai (v := (zI pc)) rfl ?_)
 refine zag (zcc (zc := [(zI 0), (zI 0)]) (cs := [(zI q), (zI pc)]) (is := [0, 1]) (vs := [(zI q), (zI pc)]) (css := [[(zI q)], [(zI pc)]]) pl87 ti87 rfl rfl rfl ⟨rfl, rfl, trivial⟩ rfl ?_)
 have hE18 : Els rCoef (vH w None [some b6, ob10, some b10, ob11] w22) [(zI q), (zI pc)] [(Coef.mk q pc)] := (zcp (a := [(zI q), (zI pc)]) (rCoef_close ⟨rfl, trivial⟩) zcm)
 refine zag (zch (r := rCoef) (vs := [(zap #[(zI q), (zI pc)])]) (css := [[(zI q), (zI pc)]]) (xs := [(Coef.mk q pc)]) zbr ti87 (zae rfl) rfl rfl ⟨rfl, rfl, trivial⟩ (zae rfl) hE18 rfl hL26 ?_)
 intro b15 w23 hc19 hL27 hS22
 have K27 := ks w hS22
 obtain ⟨x14, q24, h⟩ := zec h
 obtain ⟨q25, q26, q27⟩ := zeq q24
 have f21 := (hE18.mono (K27 None))
 have f22 := (hE16.mono (K27 None))
 refine zag (zdn (r := rCoef) (H := (vH w None [some b15, some b6, ob10, some b10, ob11] w23)) (cs := cs10) (sp := sp10) (xs := coefs10) (ys := [(Coef.mk q pc)]) (Y := x14) (n := coefs10.length) (cap := cap10) (i := 2) zbr ti87 rfl rfl rfl rfl hL27 rfl rfl f22 rfl hc17 (Src.row (pre := []) (o := 0) (n := 1) (cap := 1) (hL27.at 0 rfl rfl) f21 rfl rfl rfl) (Els.anyH (fun _ _ _ _ h => h) f21) q25 q26 q27 ?_)
 intro ob16 cap16 sp16 cs16 w24 hE19 hc20 (hL28 : vL w w24 [some b15, some b6, ob16, some b10, ob11] [zac ([] ++ ([(zI q), (zI pc)] ++ [])), zac [(zI (iw (0 - pb.Const))), (zO ob10 coefs10 cap10)], zac ([] ++ (cs16 ++ sp16)), zac [(zI (iw (pb.Const - (iw (pc - 1))))), (zO ob11 coefs11 cap11)], zac ([] ++ (cs11 ++ sp11))]) hS23
 have K28 := ks w hS23
 refine zag (zam (q := 1) zbx rfl ti88 rfl rfl rfl ?_)
 refine zcf (zbo (vs := [(zO ob16 x14 cap16)]) ti88 rfl rfl (zen (zem _ _ _ _)) rfl (zee (zem _ _ _ _) zej) hL28 1 rfl rfl (zae rfl) ?_)
 intro w25 (hL29 : vL w w25 [some b15, some b6, ob16, some b10, ob11] [zac ([] ++ ([(zI q), (zI pc)] ++ [])), zac [(zI (iw (0 - pb.Const))), (zO ob16 x14 cap16)], zac ([] ++ (cs16 ++ sp16)), zac [(zI (iw (pb.Const - (iw (pc - 1))))), (zO ob11 coefs11 cap11)], zac ([] ++ (cs11 ++ sp11))]) hS24
 have K29 := ks w hS24
 refine zan (zaj (zaf rfl (zag (zam (q := 1) zbx rfl ti88 rfl rfl rfl ?_))))
 refine zag (zau (v := (zO ob11 coefs11 cap11)) zbr rfl rfl (hL29.at 3 rfl rfl) rfl ?_)
 refine zag (zai (v := (zI q)) rfl ?_)
 refine zag (zai (v := (zI pc)) rfl ?_)
 refine zag (OpY.neg (x := pc) (z := (iw (0 - pc))) rfl rfl ?_)
 refine zag (zcc (zc := [(zI 0), (zI 0)]) (cs := [(zI q), (zI (iw (0 - pc)))]) (is := [0, 1]) (vs := [(zI q), (zI (iw (0 - pc)))]) (css := [[(zI q)], [(zI (iw (0 - pc)))]]) pl87 ti87 rfl rfl rfl ⟨rfl, rfl, trivial⟩ rfl ?_)
 have hE20 : Els rCoef (vH w None [some b15, some b6, ob16, some b10, ob11] w25) [(zI q), (zI (iw (0 - pc)))] [(Coef.mk q (iw (0 - pc)))] := (zcp (a := [(zI q), (zI (iw (0 - pc)))]) (rCoef_close ⟨rfl, trivial⟩) zcm)
 refine zag (zch (r := rCoef) (vs := [(zap #[(zI q), (zI (iw (0 - pc)))])]) (css := [[(zI q), (zI (iw (0 - pc)))]]) (xs := [(Coef.mk q (iw (0 - pc)))]) zbr ti87 (zae rfl) rfl rfl ⟨rfl, rfl, trivial⟩ (zae rfl) hE20 rfl hL29 ?_)
 intro b16 w26 hc21 hL30 hS25
 have K30 := ks w hS25
 obtain ⟨x15, q28, h⟩ := zec h
 obtain ⟨q29, q30, q31⟩ := zeq q28
 have f23 := (hE20.mono (K30 None))
 have f24 := ((((hE17.mono (K27 None)).mono (K28 None)).mono (K29 None)).mono (K30 None))
 refine zag (zdn (r := rCoef) (H := (vH w None [some b16, some b15, some b6, ob16, some b10, ob11] w26)) (cs := cs11) (sp := sp11) (xs := coefs11) (ys := [(Coef.mk q (iw (0 - pc)))]) (Y := x15) (n := coefs11.length) (cap := cap11) (i := 5) zbr ti87 rfl rfl rfl rfl hL30 rfl rfl f24 rfl hc18 (Src.row (pre := []) (o := 0) (n := 1) (cap := 1) (hL30.at 0 rfl rfl) f23 rfl rfl rfl) (Els.anyH (fun _ _ _ _ h => h) f23) q29 q30 q31 ?_)
 intro ob17 cap17 sp17 cs17 w27 hE21 hc22 (hL31 : vL w w27 [some b16, some b15, some b6, ob16, some b10, ob17] [zac ([] ++ ([(zI q), (zI (iw (0 - pc)))] ++ [])), zac ([] ++ ([(zI q), (zI pc)] ++ [])), zac [(zI (iw (0 - pb.Const))), (zO ob16 x14 cap16)], zac ([] ++ (cs16 ++ sp16)), zac [(zI (iw (pb.Const - (iw (pc - 1))))), (zO ob11 coefs11 cap11)], zac ([] ++ (cs17 ++ sp17))]) hS26
 have K31 := ks w hS26
 refine zag (zam (q := 1) zbx rfl ti88 rfl rfl rfl ?_)
 refine zcf (zbo (vs := [(zO ob17 x15 cap17)]) ti88 rfl rfl (zen (zem _ _ _ _)) rfl (zee (zem _ _ _ _) zej) hL31 4 rfl rfl (zae rfl) ?_)
 intro w28 (hL32 : vL w w28 [some b16, some b15, some b6, ob16, some b10, ob17] [zac ([] ++ ([(zI q), (zI (iw (0 - pc)))] ++ [])), zac ([] ++ ([(zI q), (zI pc)] ++ [])), zac [(zI (iw (0 - pb.Const))), (zO ob16 x14 cap16)], zac ([] ++ (cs16 ++ sp16)), zac [(zI (iw (pb.Const - (iw (pc - 1))))), (zO ob17 x15 cap17)], zac ([] ++ (cs17 ++ sp17))]) hS27
 have K32 := ks w hS27
 refine zan (zaj (zaf rfl (zag (zbj (vs := [(zI (iw (0 - pb.Const))), (zO ob16 x14 cap16)]) zbx rfl ti90 rfl (hL32.at 2 rfl rfl) rfl rfl ?_))))
 refine zag (zcc (zc := [(zI 0), zN, zF]) (cs := [(zI (iw (0 - pb.Const))), (zO ob16 x14 cap16), zF]) (is := [0]) (vs := [(zap #[(zI (iw (0 - pb.Const))), (zO ob16 x14 cap16)])]) (css := [[(zI (iw (0 - pb.Const))), (zO ob16 x14 cap16)]]) pl92 ti92 rfl rfl rfl zrt rfl ?_)
 refine zag (zbj (vs := [(zI (iw (pb.Const - (iw (pc - 1))))), (zO ob17 x15 cap17)]) zbx rfl ti90 rfl (hL32.at 4 rfl rfl) rfl rfl ?_)
 refine zag (zcc (zc := [(zI 0), zN, zF]) (cs := [(zI (iw (pb.Const - (iw (pc - 1))))), (zO ob17 x15 cap17), zF]) (is := [0]) (vs := [(zap #[(zI (iw (pb.Const - (iw (pc - 1))))), (zO ob17 x15 cap17)])]) (css := [[(zI (iw (pb.Const - (iw (pc - 1))))), (zO ob17 x15 cap17)]]) pl92 ti92 rfl rfl rfl zrt rfl ?_)
 have f25 := (((((hE19.mono (K28 None)).mono (K29 None)).mono (K30 None)).mono (K31 None)).mono (K32 None))
 have f26 := hL32.freezeRow 3 rfl rfl f25 rfl rfl rfl hc20
 have hp14 := hL32.pick [0, 1, 2, 4, 5] rfl rfl rfl
 have hL33 : vL w w28 [some b16, some b15, some b6, some b10, ob17] [zac ([] ++ ([(zI q), (zI (iw (0 - pc)))] ++ [])), zac ([] ++ ([(zI q), (zI pc)] ++ [])), zac [(zI (iw (0 - pb.Const))), (zO ob16 x14 cap16)], zac [(zI (iw (pb.Const - (iw (pc - 1))))), (zO ob17 x15 cap17)], zac ([] ++ (cs17 ++ sp17))] := hp14.1
 have K33 := ks w hp14.2
 have f27 := (((hE21.mono (K31 None)).mono (K32 None)).mono (K33 None))
 have f28 := hL33.freezeRow 4 rfl rfl f27 rfl rfl rfl hc22
 have hp15 := hL33.pick [0, 1, 2, 3] rfl rfl rfl
 have hL34 : vL w w28 [some b16, some b15, some b6, some b10] [zac ([] ++ ([(zI q), (zI (iw (0 - pc)))] ++ [])), zac ([] ++ ([(zI q), (zI pc)] ++ [])), zac [(zI (iw (0 - pb.Const))), (zO ob16 x14 cap16)], zac [(zI (iw (pb.Const - (iw (pc - 1))))), (zO ob17 x15 cap17)]] := hp15.1
 have K34 := ks w hp15.2
 have f29 := (f26.mono (K34 None))
 have hE22 : Els rConstraint (vH w None [some b16, some b15, some b6, some b10] w28) [(zI (iw (0 - pb.Const))), (zO ob16 x14 cap16), zF, (zI (iw (pb.Const - (iw (pc - 1))))), (zO ob17 x15 cap17), zF] [(Constraint.mk (Linear.mk (iw (0 - pb.Const)) x14) false), (Constraint.mk (Linear.mk (iw (pb.Const - (iw (pc - 1)))) x15) false)] := (zcp (a := [(zI (iw (0 - pb.Const))), (zO ob16 x14 cap16), zF]) (rConstraint_close ⟨(zO ob16 x14 cap16), rfl, f29, trivial⟩) (zcp (a := [(zI (iw (pb.Const - (iw (pc - 1))))), (zO ob17 x15 cap17), zF]) (rConstraint_close ⟨(zO ob17 x15 cap17), rfl, f28, trivial⟩) zcm))
 refine zag (zch (r := rConstraint) (vs := [(zap #[(zI (iw (0 - pb.Const))), (zO ob16 x14 cap16), zF]), (zap #[(zI (iw (pb.Const - (iw (pc - 1))))), (zO ob17 x15 cap17), zF])]) (css := [[(zI (iw (0 - pb.Const))), (zO ob16 x14 cap16), zF], [(zI (iw (pb.Const - (iw (pc - 1))))), (zO ob17 x15 cap17), zF]]) (xs := [(Constraint.mk (Linear.mk (iw (0 - pb.Const)) x14) false), (Constraint.mk (Linear.mk (iw (pb.Const - (iw (pc - 1)))) x15) false)]) zcz ti92 (zae rfl) rfl rfl ⟨rfl, rfl, ⟨rfl, rfl, trivial⟩⟩ (zae rfl) hE22 rfl hL34 ?_)
 intro b17 w29 hc23 hL35 hS28
 have K35 := ks w hS28
 refine zag (zak (v := (osv (some b17) 0 2 2)) rfl ?_)
 refine zan (zbi ?_)
 obtain rfl := zah h
 refine ⟨[(osv (some b17) 0 2 2)], zrt, ⟨_, rfl, hL35.done, ?_⟩⟩
 have f30 := (hE22.mono (K35 None))
 exact ⟨some b17, 2, [(zI (iw (0 - pb.Const))), (zO ob16 x14 cap16), zF, (zI (iw (pb.Const - (iw (pc - 1))))), (zO ob17 x15 cap17), zF], [], rfl, (hL35.newOwn [0] rfl rfl rfl), (f30.mono (zdx [0] rfl)), hc23, trivial⟩
theorem vInts_w (N : Nat) (l : (List RVar)) (c : RClause) (ranges : (List Arr2Int)) (l_v : Value) (c_v : Value) (c_v1 : Value) (c_v2 : Value) (c_v3 : Value) (c_v4 : Value) (c_v5 : Value) (c_v6 : Value) (ranges_v : Value) (w : World) (S : Nat → Prop) (l_h : Rs rRVar (vH w S [] w) l_v l) (c_h : Rs rI (vH w S [] w) c_v c.Null) (c_h1 : Rs rI (vH w S [] w) c_v1 c.NotNull) (c_h2 : Rs rRAux (vH w S [] w) c_v2 c.Auxiliary) (c_h3 : Rs rConstraint (vH w S [] w) c_v3 c.Ints) (c_h4 : Rs rTTest (vH w S [] w) c_v4 c.Tests) (c_h5 : Rs rArr2Int (vH w S [] w) c_v5 c.Same) (c_h6 : Rs rArr2Int (vH w S [] w) c_v6 c.Different) (ranges_h : Rs rArr2Int (vH w S [] w) ranges_v ranges) (r : (Int × (List Constraint))) (h : vInts N l c ranges = some r) :
  Calls Tryz.prog 12 #[l_v, (zap #[c_v, c_v1, c_v2, c_v3, c_v4, c_v5, c_v6]), ranges_v] w (Ret w (fun v w' => ∃ (ob1 : Option Nat) (cap1 : Nat) (cs1 : List Value) (sp1 : List Value), .tuple #[(zI r.1), (zO ob1 r.2 cap1)] = v ∧ NewOwn w w' [ob1] [zac ([] ++ (cs1 ++ sp1))] ∧ Els rConstraint (vH w None [ob1] w') cs1 r.2 ∧ (cs1 ++ sp1).length = cap1 * rConstraint.sz ∧ True)) := by
 unfold vInts at h
 have hL : vL w w [] [] := Go.X.Loc.begin0 w
 refine calls_of (l := [l_v, (zap #[c_v, c_v1, c_v2, c_v3, c_v4, c_v5, c_v6]), ranges_v]) (rl := [.tmp 6, .tmp 7]) (n := 108) Tryz.func12 rfl rfl rfl (zae rfl) ?_
 refine zaj (zaf rfl (zag (zdj (cs := [c_v, c_v1, c_v2, c_v3, c_v4, c_v5, c_v6]) rfl rfl hL ?_)))
 intro b1 w2 hL3 hS5
 have K4 := ks w hS5
 refine zag (zak (v := (zI 0)) rfl ?_)
 refine zag (zak (v := zN) rfl ?_)
 refine zan (zaj (zaf rfl (zag (zak (v := zN) rfl ?_))))
 refine zan (zaj (zaj (zaf rfl (zag (zam (q := 1) zct rfl ti23 rfl rfl rfl ?_)))))
 refine zag (zau (v := c_v1) zav rfl rfl (hL3.at 0 rfl rfl) rfl ?_)
 have f6 := (c_h1.mono (K4 S))
 refine zag (zbc (v := c_v1) zav rfl f6 ?_)
 refine zag (zai (v := (zI 0)) rfl (zan ?_))
 obtain ⟨s10, hl10, g10⟩ := zec h
 refine zbs (fun e w' => ∃ (out10 : (List Constraint)) (ob10 : Option Nat) (cap10 : Nat) (sp10 : List Value) (cs10 : List Value) (ln10 : Nat) (u : Env), out10 = s10 ∧ e = upds [(0, l_v), (2, ranges_v), (4, (zal (some ⟨b1, 0, none⟩))), (8, (osv ob10 0 ln10 cap10))] u ∧ vL w w' [some b1, ob10] [zac [c_v, c_v1, c_v2, c_v3, c_v4, c_v5, c_v6], zac ([] ++ (cs10 ++ sp10))] ∧ Keep w.heap.size [some b1] w2 [some b1, ob10] w' ∧ Els rConstraint (vH w None [some b1, ob10] w') cs10 out10 ∧ ln10 = List.length out10 ∧ (cs10 ++ sp10).length = cap10 * rConstraint.sz ∧ True) ?_ ?_
 ·
  refine zbb ?_
  have hp10 := hL3.addNil
  have hL10 : vL w w2 [none, some b1] [zac ([] ++ ([] ++ [])), zac [c_v, c_v1, c_v2, c_v3, c_v4, c_v5, c_v6]] := hp10.1
  have K10 := ks w hp10.2
  have hp11 := hL10.pick [1, 0] rfl rfl rfl
  have hL11 : vL w w2 [some b1, none] [zac [c_v, c_v1, c_v2, c_v3, c_v4, c_v5, c_v6], zac ([] ++ ([] ++ []))] := hp11.1
  have K11 := ks w hp11.2
  have f10 := ((zcm (r := rConstraint)).mono (K11 None))
  refine zcb hl10 (fun (ss : ((List Constraint) × Int)) (e : Env) (w' : World) => match ss with | (out11, x10) => ∃ (ob11 : Option Nat) (cap11 : Nat) (sp11 : List Value) (cs11 : List Value) (ln11 : Nat) (u : Env), e = upds [(0, l_v), (2, ranges_v), (4, (zal (some ⟨b1, 0, none⟩))), (8, (osv ob11 0 ln11 cap11)), (17, c_v1), (18, (zI (c.NotNull.length : Int))), (19, (zI x10))] u ∧ vL w w' [some b1, ob11] [zac [c_v, c_v1, c_v2, c_v3, c_v4, c_v5, c_v6], zac ([] ++ (cs11 ++ sp11))] ∧ Keep w.heap.size [some b1] w2 [some b1, ob11] w' ∧ Els rConstraint (vH w None [some b1, ob11] w') cs11 out11 ∧ ln11 = List.length out11 ∧ (cs11 ++ sp11).length = cap11 * rConstraint.sz ∧ True) ⟨none, 0, [], [], (List.length ([] : (List Constraint))), _, (zeg ⟨rfl, rfl, rfl, rfl, rfl, rfl, rfl, trivial⟩), hL11, (zao K10 K11), f10, rfl, (show ([] ++ [] : List Value).length = 0 * rConstraint.sz by simp), trivial⟩ ?_
  rintro ⟨out11, x10⟩ oo _ w10 ⟨ob11, cap11, sp11, cs11, ln11, u, rfl, hL12, K12, hE10, rfl, hc10, -⟩ h hd10
  rw [vInts_b1] at h
  refine zaj (zaf rfl (zag (zci (x := x10) (y := (c.NotNull.length : Int)) ((x10 : Int) < (c.NotNull.length : Int)) rfl rfl zbd ?_)))
  refine zan (zaj ?_)
  refine zba ((x10 : Int) < (c.NotNull.length : Int)) rfl (fun hc11 => ?_) (fun hc11 => ?_)
  ·
   replace h := ite_t hc11 h
   refine zbf (zaj (zbb (zaj (zaf rfl ?_))))
   obtain ⟨x11, n10, q11, q12, -, h⟩ := zix h
   have f11 := (f6.mono (K12 S))
   obtain ⟨b10, o10, c10, vs10, q13, q14, f12, q15⟩ := zcw f11 q12
   obtain rfl := q15
   refine zag (zbp (r := rI) (v := c_v1) (n := n10) (m := (o10 + n10 * rI.sz)) zav ti3 rfl q13 rfl q11 q12 rfl ?_)
   refine zag (zca (v := (zI x11)) zax rfl rfl zek f12 ?_)
   refine zag (zak (v := (zI x11)) rfl ?_)
   refine zan (zaj (zaf rfl (zag (zai (v := l_v) rfl ?_))))
   refine zag (zai (v := (zI x11)) rfl ?_)
   obtain ⟨x12, n11, q17, q18, -, h⟩ := zix h
   have f13 := ((l_h.mono (K4 S)).mono (K12 S))
   obtain ⟨b11, o11, c11, vs11, q19, q20, f14, q21⟩ := zcw f13 q18
   obtain ⟨rfl, -⟩ := rRVar_open q21
   refine zag (zbp (r := rRVar) (v := l_v) (n := n11) (m := (o11 + n11 * rRVar.sz)) zcu ti83 rfl q19 rfl q17 q18 rfl ?_)
   have f15 := (f14.part (us := [(zI x12.Ty)]) 0 rfl)
   refine zag (zam (q := (o11 + n11 * rRVar.sz) + 0) zdi rfl ti3 rfl rfl rfl ?_)
   refine zag (zca (v := (zI x12.Ty)) zax rfl rfl zek f15 ?_)
   refine zag (zdp (x := x12.Ty) (y := 1) ((x12.Ty : Int) = 1) rfl rfl zbd (zan ?_))
   refine zba ((x12.Ty : Int) = 1) rfl (fun hc12 => ?_) (fun hc12 => ?_)
   ·
    replace h := ite_t hc12 h
    obtain ⟨x13, n12, q23, q24, -, h⟩ := zix h
    obtain ⟨b12, o12, c12, vs12, q25, q26, f16, q27⟩ := zcw f13 q24
    obtain ⟨rfl, -⟩ := rRVar_open q27
    have f17 := (f16.part (us := [(zI x13.Low)]) 1 rfl)
    obtain ⟨x14, n13, q29, q30, -, h⟩ := zix h
    obtain ⟨b13, o13, c13, vs13, q31, q32, f18, q33⟩ := zcw f13 q30
    obtain ⟨rfl, -⟩ := rRVar_open q33
    have f19 := (f18.part (us := [(zI x14.High)]) 2 rfl)
    obtain ⟨r10, q34, h⟩ := zec h
    refine zcj 13 [] [] (fun W1 => [.det (zO ob11 out11 cap11), .det (zI x11), .det l_v, .det (zI x11), .det (zal (some ⟨b12, (o12 + n12 * rRVar.sz), none⟩)), .det (zal (some ⟨b12, (o12 + n12 * rRVar.sz) + 1, none⟩)), .det (zI x13.Low), .det l_v, .det (zI x11), .det (zal (some ⟨b13, (o13 + n13 * rRVar.sz), none⟩)), .det (zal (some ⟨b13, (o13 + n13 * rRVar.sz) + 2, none⟩)), .det (zI x14.High), .rel (fun v Z w' => ∃ ob12 cap12 cs12 sp12, (zO ob12 r10 cap12) = v ∧ OwnC w' ob12 (zac ([] ++ (cs12 ++ sp12))) ∧ Els rConstraint (vZ W1 w None [some b1, ob11] Z w') cs12 r10 ∧ (cs12 ++ sp12 : List Value).length = cap12 * rConstraint.sz ∧ True) footV]) mixed rfl rfl rfl (fun _ => rfl) (fun _ => rfl) ?_ ?_
    ·
     intro W1 _
     exact ⟨fun v Z Z' w w' hΦ hz _ _ hs => by obtain ⟨ob12, cap12, cs12, sp12, rfl, hO10, hE11, hc13, -⟩ := hΦ; exact ⟨ob12, cap12, cs12, sp12, rfl, (hO10.stay (fun b hb => (zep (ob := ob12) (o := 0) (n := r10.length) (cap := cap12)).2 (by rw [hb]; exact zbm)) hs), (hE11.mono (zdo hz hs)), hc13, trivial⟩, trivial⟩
    intro w11 hE12
    obtain ⟨hL13, K13⟩ := zl hL12 hE12
    refine zat (fun _ _ => zaw (zai rfl (er rfl))) ?_
    refine zat (fun _ _ => zaw (zai rfl (er rfl))) ?_
    refine zat (fun _ _ => zaw (zai rfl (er rfl))) ?_
    refine zat (fun _ _ => zaw (zai rfl (er rfl))) ?_
    refine zat (fun _ _ => zaw (zbp (r := rRVar) (v := l_v) (n := n12) (m := (o12 + n12 * rRVar.sz)) zcu ti83 rfl q25 rfl q23 q24 rfl (er rfl))) ?_
    refine zat (fun _ _ => zaw (zam zdi rfl ti2 rfl rfl rfl (er rfl))) ?_
    refine zat (fun _ hE19 => zaw (zca zdd rfl rfl zek (zda ((ke hL13 hE19) S) (zda (K13 S) f17)) (er rfl))) ?_
    refine zat (fun _ _ => zaw (zai rfl (er rfl))) ?_
    refine zat (fun _ _ => zaw (zai rfl (er rfl))) ?_
    refine zat (fun _ _ => zaw (zbp (r := rRVar) (v := l_v) (n := n13) (m := (o13 + n13 * rRVar.sz)) zcu ti83 rfl q31 rfl q29 q30 rfl (er rfl))) ?_
    refine zat (fun _ _ => zaw (zam zdi rfl ti2 rfl rfl rfl (er rfl))) ?_
    refine zat (fun _ hE24 => zaw (zca zdd rfl rfl zek (zda ((ke hL13 hE24) S) (zda (K13 S) f19)) (er rfl))) ?_
    refine zdq ?_ ?_
    ·
     rintro w24 Z32 hE25 hZ22 ⟨-⟩
     refine zaw (zay en39 rfl rfl (vbounds_w N x11 x13.Low x14.High _ Any r10 q34) ?_)
     rintro _ w25 hE26 ⟨ob12, cap12, cs12, sp12, rfl, hN10, hE11, hc13, -⟩
     exact zdf hE26 hZ22 hN10 (fun b hb => footV_osv.1 hb) ⟨ob12, cap12, cs12, sp12, rfl, hN10.2.2.1, (hE11.mono zdr), hc13, trivial⟩
    intro z10
    refine zcx ?_
    rintro w26 Z33 hE27 hZ23 ⟨⟨⟨ob12, cap12, cs12, sp12, rfl, hO10, hE11, hc13, -⟩, hB10⟩, -⟩ ap10
    have hB11 : ∀ b, some b ∈ ([ob12] : List (Option Nat)) → w11.heap.size ≤ b ∧ ¬ Z33 b := by
     intro b hb
     rcases List.mem_cons.1 hb with hb' | hb
     ·
      have := hB10 b ((zep (ob := ob12) (o := 0) (n := r10.length) (cap := cap12)).2 (by rw [hb']; exact zbm)); exact ⟨this.1, this.2.2⟩
     cases hb
    replace hE11 := hE11.mono (zdw hL13 hZ23 hB11)
    have hN11 : NewOwn w11 w26 [ob12] [zac ([] ++ (cs12 ++ sp12))] := (zdt zco hO10 (fun b hb => (hB11 b (by rw [← hb]; simp)).1) (fun b _ hb => by cases hb))
    have hp12 := hL13.adoptL hE27 hN11
    have hL14 := hp12.1
    have K16 := ks w hp12.2
    obtain ⟨x15, q35, h⟩ := zec h
    obtain ⟨q36, q37, q38⟩ := zeq q35
    have f20 := ((hE10.mono (K13 None)).mono (K16 None))
    refine zag (zdn (r := rConstraint) (H := (vH w None [ob12, some b1, ob11] w26)) (cs := cs11) (sp := sp11) (xs := out11) (ys := r10) (Y := x15) (n := out11.length) (cap := cap11) (i := 2) zcz ti92 rfl rfl rfl rfl hL14 rfl rfl f20 rfl hc10 (Src.row (pre := []) (o := 0) (n := r10.length) (cap := cap12) (hL14.at 0 rfl rfl) hE11 rfl rfl rfl) hE11 q36 q37 q38 ?_)
    intro ob13 cap13 sp13 cs13 w27 hE28 hc14 (hL15 : vL w w27 [ob12, some b1, ob13] [zac ([] ++ (cs12 ++ sp12)), zac [c_v, c_v1, c_v2, c_v3, c_v4, c_v5, c_v6], zac ([] ++ (cs13 ++ sp13))]) hS10
    have K17 := ks w hS10
    refine zag (zak (v := (zO ob13 x15 cap13)) rfl ?_)
    refine zan (zbn (zaf rfl (zag (zbz (x := x10) (y := 1) (z := (iw (x10 + 1))) rfl rfl rfl ?_))))
    refine zag (zai (v := (zI (iw (x10 + 1)))) rfl (zan ?_))
    have hp13 := hL15.pick [1, 2] rfl rfl rfl
    have hL16 : vL w w27 [some b1, ob13] [zac [c_v, c_v1, c_v2, c_v3, c_v4, c_v5, c_v6], zac ([] ++ (cs13 ++ sp13))] := hp13.1
    have K18 := ks w hp13.2
    have f21 := ((hE28.mono (K17 None)).mono (K18 None))
    obtain rfl := zah h
    refine zaq ⟨(x15, (iw (x10 + 1))), rfl, ?_⟩
    exact ⟨ob13, cap13, sp13, cs13, x15.length, _, (zeg ⟨rfl, rfl, rfl, rfl, rfl, rfl, rfl, trivial⟩), hL16, (zao (zao (zao (zao K12 K13) K16) K17) K18), f21, rfl, hc14, trivial⟩
   replace h := ite_f hc12 h
   refine zbf (zbn (zaf rfl (zag (zbz (x := x10) (y := 1) (z := (iw (x10 + 1))) rfl rfl rfl ?_))))
   refine zag (zai (v := (zI (iw (x10 + 1)))) rfl (zan ?_))
   obtain rfl := zah h
   refine zaq ⟨(out11, (iw (x10 + 1))), rfl, ?_⟩
   exact ⟨ob11, cap11, sp11, cs11, out11.length, _, (zeg ⟨rfl, rfl, rfl, rfl, rfl, rfl, rfl, trivial⟩), hL12, K12, hE10, rfl, hc10, trivial⟩
  replace h := ite_f hc11 h
  refine zck rfl ?_
  obtain rfl := zah h
  obtain rfl := hd10 _ rfl
  replace h := g10
  try dsimp only at h
  refine zaq ?_
  exact ⟨out11, ob11, cap11, sp11, cs11, out11.length, _, rfl, (zeg ⟨rfl, rfl, rfl, rfl, trivial⟩), hL12, K12, hE10, rfl, hc10, trivial⟩
 rintro _ w28 ⟨out10, ob10, cap10, sp10, cs10, ln10, u, rfl, rfl, hL17, K19, hE29, rfl, hc15, -⟩
 replace h := g10
 try dsimp only at h
 refine zaj (zaj (zaf rfl (zag (zam (q := 2) zct rfl ti24 rfl rfl rfl ?_))))
 refine zag (zau (v := c_v2) Tryz.underlying24 rfl rfl (hL17.at 0 rfl rfl) rfl ?_)
 have f22 := ((c_h2.mono (K4 S)).mono (K19 S))
 refine zag (zbc (v := c_v2) Tryz.underlying24 rfl f22 ?_)
 refine zag (zai (v := (zI 0)) rfl (zan ?_))
 obtain ⟨s11, hl11, g11⟩ := zec h
 refine zbs (fun e w' => ∃ (out12 : (List Constraint)) (ob14 : Option Nat) (cap14 : Nat) (sp14 : List Value) (cs14 : List Value) (ln12 : Nat) (u : Env), out12 = s11 ∧ e = upds [(0, l_v), (4, (zal (some ⟨b1, 0, none⟩))), (8, (osv ob14 0 ln12 cap14))] u ∧ vL w w' [some b1, ob14] [zac [c_v, c_v1, c_v2, c_v3, c_v4, c_v5, c_v6], zac ([] ++ (cs14 ++ sp14))] ∧ Keep w.heap.size [some b1, ob10] w28 [some b1, ob14] w' ∧ Els rConstraint (vH w None [some b1, ob14] w') cs14 out12 ∧ ln12 = List.length out12 ∧ (cs14 ++ sp14).length = cap14 * rConstraint.sz ∧ True) ?_ ?_
 ·
  refine zbb ?_
  refine zcb hl11 (fun (ss : ((List Constraint) × Int)) (e : Env) (w' : World) => match ss with | (out13, x16) => ∃ (ob15 : Option Nat) (cap15 : Nat) (sp15 : List Value) (cs15 : List Value) (ln13 : Nat) (u : Env), e = upds [(0, l_v), (2, ranges_v), (4, (zal (some ⟨b1, 0, none⟩))), (8, (osv ob15 0 ln13 cap15)), (45, c_v2), (46, (zI (c.Auxiliary.length : Int))), (47, (zI x16))] u ∧ vL w w' [some b1, ob15] [zac [c_v, c_v1, c_v2, c_v3, c_v4, c_v5, c_v6], zac ([] ++ (cs15 ++ sp15))] ∧ Keep w.heap.size [some b1, ob10] w28 [some b1, ob15] w' ∧ Els rConstraint (vH w None [some b1, ob15] w') cs15 out13 ∧ ln13 = List.length out13 ∧ (cs15 ++ sp15).length = cap15 * rConstraint.sz ∧ True) ⟨ob10, cap10, sp10, cs10, out10.length, _, (zeg ⟨rfl, rfl, rfl, rfl, rfl, rfl, rfl, trivial⟩), hL17, zbq, hE29, rfl, hc15, trivial⟩ ?_
  rintro ⟨out13, x16⟩ oo _ w29 ⟨ob15, cap15, sp15, cs15, ln13, u, rfl, hL18, K20, hE30, rfl, hc16, -⟩ h hd11
  rw [vInts_b2] at h
  refine zaj (zaf rfl (zag (zci (x := x16) (y := (c.Auxiliary.length : Int)) ((x16 : Int) < (c.Auxiliary.length : Int)) rfl rfl zbd ?_)))
  refine zan (zaj ?_)
  refine zba ((x16 : Int) < (c.Auxiliary.length : Int)) rfl (fun hc17 => ?_) (fun hc17 => ?_)
  ·
   replace h := ite_t hc17 h
   refine zbf (zaj (zbb (zaj (zaf rfl (zag (zai (v := (zI x16)) rfl ?_))))))
   obtain ⟨x17, n14, q40, q41, -, h⟩ := zix h
   have f23 := (f22.mono (K20 S))
   obtain ⟨b14, o14, c14, vs14, q42, q43, f24, q44⟩ := zcw f23 q41
   obtain ⟨v10, rfl, k10, -⟩ := rRAux_open q44
   refine zag (zbp (r := rRAux) (v := c_v2) (n := n14) (m := (o14 + n14 * rRAux.sz)) Tryz.underlying24 ti104 rfl q42 rfl q40 q41 rfl ?_)
   refine zag (zdl (vs := [(zI x17.Of.Const), v10, (zI x17.By), (zI x17.Text)]) Tryz.underlying104 rfl ti104 rfl rfl zek f24 ?_)
   refine zag (zbw (cs := [(zI 0), zN, (zI 0), (zI 0)]) ti104 rfl hL18 ?_)
   intro b15 w30 hL19 hS11
   have K21 := ks w hS11
   refine zag (zak (v := (zI x16)) rfl ?_)
   have f25 := (k10.mono (K21 S))
   refine zcf (zbo (vs := [(zI x17.Of.Const), v10, (zI x17.By), (zI x17.Text)]) ti104 rfl rfl rfl rfl (zee rfl (zee f25.one (zee rfl (zee rfl zej)))) hL19 0 rfl rfl (zae rfl) ?_)
   intro w31 (hL20 : vL w w31 [some b15, some b1, ob15] [zac [(zI x17.Of.Const), v10, (zI x17.By), (zI x17.Text)], zac [c_v, c_v1, c_v2, c_v3, c_v4, c_v5, c_v6], zac ([] ++ (cs15 ++ sp15))]) hS12
   have K22 := ks w hS12
   refine zan (zaj (zaf rfl (zag (zai (v := l_v) rfl ?_))))
   have f26 := (((((l_h.mono (K4 S)).mono (K19 S)).mono (K20 S)).mono (K21 S)).mono (K22 S))
   refine zag (zbc (v := l_v) zcu rfl f26 ?_)
   refine zag (zai (v := (zI x16)) rfl ?_)
   refine zag (zbz (x := (l.length : Int)) (y := x16) (z := (iw ((l.length : Int) + x16))) rfl rfl rfl ?_)
   refine zag (zak (v := (zI (iw ((l.length : Int) + x16)))) rfl ?_)
   refine zan (zaj (zaf rfl (zag (zam (q := 2) Tryz.underlying104 rfl ti2 rfl rfl rfl ?_))))
   refine zag (zau (v := (zI x17.By)) zdd rfl rfl (hL20.at 0 rfl rfl) rfl ?_)
   refine zag (zdp (x := x17.By) (y := 0) ((x17.By : Int) = 0) rfl rfl zbd (zan ?_))
   refine zba ((x17.By : Int) = 0) rfl (fun hc18 => ?_) (fun hc18 => ?_)
   ·
    replace h := ite_t hc18 h
    obtain ⟨x18, n15, q46, q47, -, h⟩ := zix h
    have f27 := (((((ranges_h.mono (K4 S)).mono (K19 S)).mono (K20 S)).mono (K21 S)).mono (K22 S))
    obtain ⟨b16, o15, c15, vs15, q48, q49, f28, q50⟩ := zcw f27 q47
    obtain ⟨rfl, -⟩ := rArr2Int_open q50
    have f29 := (f28.part (us := [(zI x18.e0)]) 0 rfl)
    obtain ⟨r11, q51, h⟩ := zec h
    obtain ⟨r12, q52, h⟩ := zec h
    refine zcj 14 [] [] (fun W1 => [.det (zO ob15 out13 cap15), .det (zI (iw ((l.length : Int) + x16))), .det ranges_v, .det (zal (some ⟨b15, 3, none⟩)), .det (zI x17.Text), .det (zal (some ⟨b16, (o15 + n15 * rArr2Int.sz), none⟩)), .det (zal (some ⟨b16, (o15 + n15 * rArr2Int.sz) + 0, none⟩)), .det (zI x18.e0), .det l_v, .det ranges_v, .det (zal (some ⟨b15, 3, none⟩)), .det (zI x17.Text), .det (zI r11), .rel (fun v Z w' => ∃ ob16 cap16 cs16 sp16, (zO ob16 r12 cap16) = v ∧ OwnC w' ob16 (zac ([] ++ (cs16 ++ sp16))) ∧ Els rConstraint (vZ W1 w None [some b15, some b1, ob15] Z w') cs16 r12 ∧ (cs16 ++ sp16 : List Value).length = cap16 * rConstraint.sz ∧ True) footV]) mixed rfl rfl rfl (fun _ => rfl) (fun _ => rfl) ?_ ?_
    ·
     intro W1 _
     exact ⟨fun v Z Z' w w' hΦ hz _ _ hs => by obtain ⟨ob16, cap16, cs16, sp16, rfl, hO11, hE31, hc19, -⟩ := hΦ; exact ⟨ob16, cap16, cs16, sp16, rfl, (hO11.stay (fun b hb => (zep (ob := ob16) (o := 0) (n := r12.length) (cap := cap16)).2 (by rw [hb]; exact zbm)) hs), (hE31.mono (zdo hz hs)), hc19, trivial⟩, trivial⟩
    intro w32 hE32
    obtain ⟨hL21, K23⟩ := zl hL20 hE32
    refine zat (fun _ _ => zaw (zai rfl (er rfl))) ?_
    refine zat (fun _ _ => zaw (zai rfl (er rfl))) ?_
    refine zat (fun _ _ => zaw (zai rfl (er rfl))) ?_
    refine zat (fun _ _ => zaw (zam Tryz.underlying104 rfl ti3 rfl rfl rfl (er rfl))) ?_
    refine zat (fun _ hE37 => zaw (zau zax rfl rfl ((hL21.ext hE37).at 0 rfl rfl) rfl (er rfl))) ?_
    refine zat (fun _ _ => zaw (zbp (r := rArr2Int) (v := ranges_v) (n := n15) (m := (o15 + n15 * rArr2Int.sz)) zdu ti54 rfl q48 rfl q46 q47 rfl (er rfl))) ?_
    refine zat (fun _ _ => zaw (OpY.indexAddr_arr (i := 0) (q := (o15 + n15 * rArr2Int.sz) + 0) Tryz.underlying54 ti3 rfl rfl (by decide) rfl (er rfl))) ?_
    refine zat (fun _ hE40 => zaw (zca zax rfl rfl zek (zda ((ke hL21 hE40) S) (zda (K23 S) f29)) (er rfl))) ?_
    refine zat (fun _ _ => zaw (zai rfl (er rfl))) ?_
    refine zat (fun _ _ => zaw (zai rfl (er rfl))) ?_
    refine zat (fun _ _ => zaw (zam Tryz.underlying104 rfl ti3 rfl rfl rfl (er rfl))) ?_
    refine zat (fun _ hE44 => zaw (zau zax rfl rfl ((hL21.ext hE44).at 0 rfl rfl) rfl (er rfl))) ?_
    refine DrH.det ?_ ?_
    ·
     rintro w45 Z46 hE45 hZ36 ⟨-⟩
     have K25 := ke hL21 hE45
     refine zaw (zay en40 rfl rfl (vhigh_w N l ranges x17.Text l_v ranges_v _ Any (((f26.mono (K23 S)).mono (K25 S)).mono vw_any) (((f27.mono (K23 S)).mono (K25 S)).mono vw_any) r11 q51) ?_)
     rintro _ w46 hE46 ⟨rfl, -⟩
     exact ⟨hE46, rfl⟩
    refine zdq ?_ ?_
    ·
     rintro w47 Z47 hE47 hZ37 ⟨-⟩
     refine zaw (zay en39 rfl rfl (vbounds_w N (iw ((l.length : Int) + x16)) x18.e0 r11 _ Any r12 q52) ?_)
     rintro _ w48 hE48 ⟨ob16, cap16, cs16, sp16, rfl, hN12, hE31, hc19, -⟩
     exact zdf hE48 hZ37 hN12 (fun b hb => footV_osv.1 hb) ⟨ob16, cap16, cs16, sp16, rfl, hN12.2.2.1, (hE31.mono zdr), hc19, trivial⟩
    intro z11
    refine zcx ?_
    rintro w49 Z48 hE49 hZ38 ⟨⟨⟨ob16, cap16, cs16, sp16, rfl, hO11, hE31, hc19, -⟩, hB12⟩, -⟩ ap11
    have hB13 : ∀ b, some b ∈ ([ob16] : List (Option Nat)) → w32.heap.size ≤ b ∧ ¬ Z48 b := by
     intro b hb
     rcases List.mem_cons.1 hb with hb' | hb
     ·
      have := hB12 b ((zep (ob := ob16) (o := 0) (n := r12.length) (cap := cap16)).2 (by rw [hb']; exact zbm)); exact ⟨this.1, this.2.2⟩
     cases hb
    replace hE31 := hE31.mono (zdw hL21 hZ38 hB13)
    have hN13 : NewOwn w32 w49 [ob16] [zac ([] ++ (cs16 ++ sp16))] := (zdt zco hO11 (fun b hb => (hB13 b (by rw [← hb]; simp)).1) (fun b _ hb => by cases hb))
    have hp14 := hL21.adoptL hE49 hN13
    have hL24 := hp14.1
    have K26 := ks w hp14.2
    obtain ⟨x19, q53, h⟩ := zec h
    obtain ⟨q54, q55, q56⟩ := zeq q53
    have f30 := ((((hE30.mono (K21 None)).mono (K22 None)).mono (K23 None)).mono (K26 None))
    refine zag (zdn (r := rConstraint) (H := (vH w None [ob16, some b15, some b1, ob15] w49)) (cs := cs15) (sp := sp15) (xs := out13) (ys := r12) (Y := x19) (n := out13.length) (cap := cap15) (i := 3) zcz ti92 rfl rfl rfl rfl hL24 rfl rfl f30 rfl hc16 (Src.row (pre := []) (o := 0) (n := r12.length) (cap := cap16) (hL24.at 0 rfl rfl) hE31 rfl rfl rfl) hE31 q54 q55 q56 ?_)
    intro ob17 cap17 sp17 cs17 w50 hE50 hc20 (hL25 : vL w w50 [ob16, some b15, some b1, ob17] [zac ([] ++ (cs16 ++ sp16)), zac [(zI x17.Of.Const), v10, (zI x17.By), (zI x17.Text)], zac [c_v, c_v1, c_v2, c_v3, c_v4, c_v5, c_v6], zac ([] ++ (cs17 ++ sp17))]) hS13
    have K27 := ks w hS13
    refine zag (zak (v := (zO ob17 x19 cap17)) rfl ?_)
    refine zan (zbn (zaf rfl (zag (zbz (x := x16) (y := 1) (z := (iw (x16 + 1))) rfl rfl rfl ?_))))
    refine zag (zai (v := (zI (iw (x16 + 1)))) rfl (zan ?_))
    have hp15 := hL25.pick [2, 3] rfl rfl rfl
    have hL26 : vL w w50 [some b1, ob17] [zac [c_v, c_v1, c_v2, c_v3, c_v4, c_v5, c_v6], zac ([] ++ (cs17 ++ sp17))] := hp15.1
    have K28 := ks w hp15.2
    have f31 := ((hE50.mono (K27 None)).mono (K28 None))
    obtain rfl := zah h
    refine zaq ⟨(x19, (iw (x16 + 1))), rfl, ?_⟩
    exact ⟨ob17, cap17, sp17, cs17, x19.length, _, (zeg ⟨rfl, rfl, rfl, rfl, rfl, rfl, rfl, trivial⟩), hL26, (zao (zao (zao (zao (zao (zao K20 K21) K22) K23) K26) K27) K28), f31, rfl, hc20, trivial⟩
   replace h := ite_f hc18 h
   refine zaf rfl (zag (zai (v := (zO ob15 out13 cap15)) rfl ?_))
   refine zag (zai (v := (zI (iw ((l.length : Int) + x16)))) rfl ?_)
   refine zag (zam (q := 0) Tryz.underlying104 rfl ti90 rfl rfl rfl ?_)
   refine zag (zbj (vs := [(zI x17.Of.Const), v10]) zbx rfl ti90 rfl (hL20.at 0 rfl rfl) rfl rfl ?_)
   refine zag (zam (q := 2) Tryz.underlying104 rfl ti2 rfl rfl rfl ?_)
   refine zag (zau (v := (zI x17.By)) zdd rfl rfl (hL20.at 0 rfl rfl) rfl ?_)
   obtain ⟨r13, q57, h⟩ := zec h
   have f32 := (f25.mono (K22 S))
   refine zag (zay en41 rfl rfl (vquotient_w N (iw ((l.length : Int) + x16)) x17.Of x17.By v10 _ Any (f32.mono vw_any) r13 q57) ?_)
   rintro _ w51 hE51 ⟨ob18, cap18, cs18, sp18, rfl, hN14, hE52, hc21, -⟩
   replace hE52 := hE52.mono (zbu (S := None) hL20 [ob18])
   have hp16 := hL20.adoptL hE51 hN14
   have hL27 := hp16.1
   have K29 := ks w hp16.2
   obtain ⟨x20, q58, h⟩ := zec h
   obtain ⟨q59, q60, q61⟩ := zeq q58
   have f33 := (((hE30.mono (K21 None)).mono (K22 None)).mono (K29 None))
   refine zag (zdn (r := rConstraint) (H := (vH w None [ob18, some b15, some b1, ob15] w51)) (cs := cs15) (sp := sp15) (xs := out13) (ys := r13) (Y := x20) (n := out13.length) (cap := cap15) (i := 3) zcz ti92 rfl rfl rfl rfl hL27 rfl rfl f33 rfl hc16 (Src.row (pre := []) (o := 0) (n := r13.length) (cap := cap18) (hL27.at 0 rfl rfl) hE52 rfl rfl rfl) hE52 q59 q60 q61 ?_)
   intro ob19 cap19 sp19 cs19 w52 hE53 hc22 (hL28 : vL w w52 [ob18, some b15, some b1, ob19] [zac ([] ++ (cs18 ++ sp18)), zac [(zI x17.Of.Const), v10, (zI x17.By), (zI x17.Text)], zac [c_v, c_v1, c_v2, c_v3, c_v4, c_v5, c_v6], zac ([] ++ (cs19 ++ sp19))]) hS14
   have K30 := ks w hS14
   refine zag (zak (v := (zO ob19 x20 cap19)) rfl ?_)
   refine zan (zbn (zaf rfl (zag (zbz (x := x16) (y := 1) (z := (iw (x16 + 1))) rfl rfl rfl ?_))))
   refine zag (zai (v := (zI (iw (x16 + 1)))) rfl (zan ?_))
   have hp17 := hL28.pick [2, 3] rfl rfl rfl
   have hL29 : vL w w52 [some b1, ob19] [zac [c_v, c_v1, c_v2, c_v3, c_v4, c_v5, c_v6], zac ([] ++ (cs19 ++ sp19))] := hp17.1
   have K31 := ks w hp17.2
   have f34 := ((hE53.mono (K30 None)).mono (K31 None))
   obtain rfl := zah h
   refine zaq ⟨(x20, (iw (x16 + 1))), rfl, ?_⟩
   exact ⟨ob19, cap19, sp19, cs19, x20.length, _, (zeg ⟨rfl, rfl, rfl, rfl, rfl, rfl, rfl, trivial⟩), hL29, (zao (zao (zao (zao (zao K20 K21) K22) K29) K30) K31), f34, rfl, hc22, trivial⟩
  replace h := ite_f hc17 h
  refine zck rfl ?_
  obtain rfl := zah h
  obtain rfl := hd11 _ rfl
  replace h := g11
  try dsimp only at h
  refine zaq ?_
  exact ⟨out13, ob15, cap15, sp15, cs15, out13.length, _, rfl, (zeg ⟨rfl, rfl, rfl, trivial⟩), hL18, K20, hE30, rfl, hc16, trivial⟩
 rintro _ w53 ⟨out12, ob14, cap14, sp14, cs14, ln12, u, rfl, rfl, hL30, K32, hE54, rfl, hc23, -⟩
 replace h := g11
 try dsimp only at h
 refine zaj (zaj (zaf rfl (zag (zam (q := 3) zct rfl ti25 rfl rfl rfl ?_))))
 refine zag (zau (v := c_v3) zcz rfl rfl (hL30.at 0 rfl rfl) rfl ?_)
 have f35 := (((c_h3.mono (K4 S)).mono (K19 S)).mono (K32 S))
 refine zag (zbc (v := c_v3) zcz rfl f35 ?_)
 refine zag (zai (v := (zI 0)) rfl (zan ?_))
 obtain ⟨s12, hl12, g12⟩ := zec h
 refine zbs (fun e w' => ∃ (out14 : (List Constraint)) (ob20 : Option Nat) (cap20 : Nat) (sp20 : List Value) (cs20 : List Value) (ln14 : Nat) (u : Env), out14 = s12 ∧ e = upds [(0, l_v), (4, (zal (some ⟨b1, 0, none⟩))), (8, (osv ob20 0 ln14 cap20))] u ∧ vL w w' [some b1, ob20] [zac [c_v, c_v1, c_v2, c_v3, c_v4, c_v5, c_v6], zac ([] ++ (cs20 ++ sp20))] ∧ Keep w.heap.size [some b1, ob14] w53 [some b1, ob20] w' ∧ Els rConstraint (vH w None [some b1, ob20] w') cs20 out14 ∧ ln14 = List.length out14 ∧ (cs20 ++ sp20).length = cap20 * rConstraint.sz ∧ True) ?_ ?_
 ·
  refine zbb ?_
  refine zcb hl12 (fun (ss : ((List Constraint) × Int)) (e : Env) (w' : World) => match ss with | (out15, x21) => ∃ (ob21 : Option Nat) (cap21 : Nat) (sp21 : List Value) (cs21 : List Value) (ln15 : Nat) (u : Env), e = upds [(0, l_v), (4, (zal (some ⟨b1, 0, none⟩))), (8, (osv ob21 0 ln15 cap21)), (84, c_v3), (85, (zI (c.Ints.length : Int))), (86, (zI x21))] u ∧ vL w w' [some b1, ob21] [zac [c_v, c_v1, c_v2, c_v3, c_v4, c_v5, c_v6], zac ([] ++ (cs21 ++ sp21))] ∧ Keep w.heap.size [some b1, ob14] w53 [some b1, ob21] w' ∧ Els rConstraint (vH w None [some b1, ob21] w') cs21 out15 ∧ ln15 = List.length out15 ∧ (cs21 ++ sp21).length = cap21 * rConstraint.sz ∧ True) ⟨ob14, cap14, sp14, cs14, out12.length, _, (zeg ⟨rfl, rfl, rfl, rfl, rfl, rfl, trivial⟩), hL30, zbq, hE54, rfl, hc23, trivial⟩ ?_
  rintro ⟨out15, x21⟩ oo _ w54 ⟨ob21, cap21, sp21, cs21, ln15, u, rfl, hL31, K33, hE55, rfl, hc24, -⟩ h hd12
  rw [vInts_b3] at h
  refine zaj (zaf rfl (zag (zci (x := x21) (y := (c.Ints.length : Int)) ((x21 : Int) < (c.Ints.length : Int)) rfl rfl zbd ?_)))
  refine zan (zaj ?_)
  refine zba ((x21 : Int) < (c.Ints.length : Int)) rfl (fun hc25 => ?_) (fun hc25 => ?_)
  ·
   replace h := ite_t hc25 h
   refine zbf (zaj (zbb (zaj (zaf rfl ?_))))
   obtain ⟨x22, n16, q63, q64, -, h⟩ := zix h
   have f36 := (f35.mono (K33 S))
   obtain ⟨b17, o16, c16, vs16, q65, q66, f37, q67⟩ := zcw f36 q64
   obtain ⟨v11, rfl, k11, -⟩ := rConstraint_open q67
   refine zag (zbp (r := rConstraint) (v := c_v3) (n := n16) (m := (o16 + n16 * rConstraint.sz)) zcz ti92 rfl q65 rfl q63 q64 rfl ?_)
   refine zag (zdl (vs := [(zI x22.Linear.Const), v11, (zab x22.Equal)]) zcy rfl ti92 rfl rfl zek f37 ?_)
   refine zag (zbw (cs := [(zI 0), zN, zF]) ti92 rfl hL31 ?_)
   intro b18 w55 hL32 hS15
   have K34 := ks w hS15
   have f38 := (k11.mono (K34 S))
   refine zcf (zbo (vs := [(zI x22.Linear.Const), v11, (zab x22.Equal)]) ti92 rfl rfl rfl rfl (zee rfl (zee f38.one (zee rfl zej))) hL32 0 rfl rfl (zae rfl) ?_)
   intro w56 (hL33 : vL w w56 [some b18, some b1, ob21] [zac [(zI x22.Linear.Const), v11, (zab x22.Equal)], zac [c_v, c_v1, c_v2, c_v3, c_v4, c_v5, c_v6], zac ([] ++ (cs21 ++ sp21))]) hS16
   have K35 := ks w hS16
   refine zan (zaj (zaf rfl (zag (zam (q := 0) zcy rfl ti90 rfl rfl rfl ?_))))
   refine zag (zam (q := 1) zbx rfl ti88 rfl rfl rfl ?_)
   refine zag (zau (v := v11) zbr rfl rfl (hL33.at 0 rfl rfl) rfl ?_)
   obtain ⟨r14, q68, h⟩ := zec h
   have f39 := (f38.mono (K35 S))
   refine zag (zay en42 rfl rfl (cloneCoef_w N x22.Linear.Coefs v11 _ Any (f39.mono vw_any) r14 q68) ?_)
   rintro _ w57 hE56 ⟨ob22, cap22, cs22, sp22, rfl, hN15, hE57, hc26, -⟩
   replace hE57 := hE57.mono (zbu (S := None) hL33 [ob22])
   have hp18 := hL33.adoptL hE56 hN15
   have hL34 := hp18.1
   have K36 := ks w hp18.2
   refine zag (zam (q := 0) zcy rfl ti90 rfl rfl rfl ?_)
   refine zag (zam (q := 1) zbx rfl ti88 rfl rfl rfl ?_)
   refine zcf (zbo (vs := [(zO ob22 r14 cap22)]) ti88 rfl rfl (zen (zem _ _ _ _)) rfl (zee (zem _ _ _ _) zej) hL34 1 rfl rfl (zae rfl) ?_)
   intro w58 (hL35 : vL w w58 [ob22, some b18, some b1, ob21] [zac ([] ++ (cs22 ++ sp22)), zac [(zI x22.Linear.Const), (zO ob22 r14 cap22), (zab x22.Equal)], zac [c_v, c_v1, c_v2, c_v3, c_v4, c_v5, c_v6], zac ([] ++ (cs21 ++ sp21))]) hS17
   have K37 := ks w hS17
   refine zan (zaf rfl (zag (zai (v := (zO ob21 out15 cap21)) rfl ?_)))
   refine zag (zbj (vs := [(zI x22.Linear.Const), (zO ob22 r14 cap22), (zab x22.Equal)]) zcy rfl ti92 rfl (hL35.at 1 rfl rfl) rfl rfl ?_)
   have f40 := (hE57.mono (K37 None))
   have f41 := hL35.freezeRow 0 rfl rfl f40 rfl rfl rfl hc26
   have hp19 := hL35.pick [1, 2, 3] rfl rfl rfl
   have hL36 : vL w w58 [some b18, some b1, ob21] [zac [(zI x22.Linear.Const), (zO ob22 r14 cap22), (zab x22.Equal)], zac [c_v, c_v1, c_v2, c_v3, c_v4, c_v5, c_v6], zac ([] ++ (cs21 ++ sp21))] := hp19.1
   have K38 := ks w hp19.2
   have hE58 : Els rConstraint (vH w None [some b18, some b1, ob21] w58) [(zI x22.Linear.Const), (zO ob22 r14 cap22), (zab x22.Equal)] [(Constraint.mk (Linear.mk x22.Linear.Const r14) x22.Equal)] := (zcp (a := [(zI x22.Linear.Const), (zO ob22 r14 cap22), (zab x22.Equal)]) (rConstraint_close ⟨(zO ob22 r14 cap22), rfl, f41, trivial⟩) zcm)
   refine zag (zch (r := rConstraint) (vs := [(zap #[(zI x22.Linear.Const), (zO ob22 r14 cap22), (zab x22.Equal)])]) (css := [[(zI x22.Linear.Const), (zO ob22 r14 cap22), (zab x22.Equal)]]) (xs := [(Constraint.mk (Linear.mk x22.Linear.Const r14) x22.Equal)]) zcz ti92 (zae rfl) rfl rfl ⟨rfl, rfl, trivial⟩ (zae rfl) hE58 rfl hL36 ?_)
   intro b19 w59 hc27 hL37 hS18
   have K39 := ks w hS18
   obtain ⟨x23, q69, h⟩ := zec h
   obtain ⟨q70, q71, q72⟩ := zeq q69
   have f42 := (hE58.mono (K39 None))
   have f43 := ((((((hE55.mono (K34 None)).mono (K35 None)).mono (K36 None)).mono (K37 None)).mono (K38 None)).mono (K39 None))
   refine zag (zdn (r := rConstraint) (H := (vH w None [some b19, some b18, some b1, ob21] w59)) (cs := cs21) (sp := sp21) (xs := out15) (ys := [(Constraint.mk (Linear.mk x22.Linear.Const r14) x22.Equal)]) (Y := x23) (n := out15.length) (cap := cap21) (i := 3) zcz ti92 rfl rfl rfl rfl hL37 rfl rfl f43 rfl hc24 (Src.row (pre := []) (o := 0) (n := 1) (cap := 1) (hL37.at 0 rfl rfl) f42 rfl rfl rfl) f42 q70 q71 q72 ?_)
   intro ob23 cap23 sp23 cs23 w60 hE59 hc28 (hL38 : vL w w60 [some b19, some b18, some b1, ob23] [zac ([] ++ ([(zI x22.Linear.Const), (zO ob22 r14 cap22), (zab x22.Equal)] ++ [])), zac [(zI x22.Linear.Const), (zO ob22 r14 cap22), (zab x22.Equal)], zac [c_v, c_v1, c_v2, c_v3, c_v4, c_v5, c_v6], zac ([] ++ (cs23 ++ sp23))]) hS19
   have K40 := ks w hS19
   refine zag (zak (v := (zO ob23 x23 cap23)) rfl ?_)
   refine zan (zbn (zaf rfl (zag (zbz (x := x21) (y := 1) (z := (iw (x21 + 1))) rfl rfl rfl ?_))))
   refine zag (zai (v := (zI (iw (x21 + 1)))) rfl (zan ?_))
   have hp20 := hL38.pick [2, 3] rfl rfl rfl
   have hL39 : vL w w60 [some b1, ob23] [zac [c_v, c_v1, c_v2, c_v3, c_v4, c_v5, c_v6], zac ([] ++ (cs23 ++ sp23))] := hp20.1
   have K41 := ks w hp20.2
   have f44 := ((hE59.mono (K40 None)).mono (K41 None))
   obtain rfl := zah h
   refine zaq ⟨(x23, (iw (x21 + 1))), rfl, ?_⟩
   exact ⟨ob23, cap23, sp23, cs23, x23.length, _, (zeg ⟨rfl, rfl, rfl, rfl, rfl, rfl, trivial⟩), hL39, (zao (zao (zao (zao (zao (zao (zao (zao K33 K34) K35) K36) K37) K38) K39) K40) K41), f44, rfl, hc28, trivial⟩
  replace h := ite_f hc25 h
  refine zck rfl ?_
  obtain rfl := zah h
  obtain rfl := hd12 _ rfl
  replace h := g12
  try dsimp only at h
  refine zaq ?_
  exact ⟨out15, ob21, cap21, sp21, cs21, out15.length, _, rfl, (zeg ⟨rfl, rfl, rfl, trivial⟩), hL31, K33, hE55, rfl, hc24, trivial⟩
 rintro _ w61 ⟨out14, ob20, cap20, sp20, cs20, ln14, u, rfl, rfl, hL40, K42, hE60, rfl, hc29, -⟩
 replace h := g12
 try dsimp only at h
 refine zaj (zaf rfl (zag (zai (v := l_v) rfl ?_)))
 have f45 := ((((l_h.mono (K4 S)).mono (K19 S)).mono (K32 S)).mono (K42 S))
 refine zag (zbc (v := l_v) zcu rfl f45 ?_)
 refine zag (zam (q := 2) zct rfl ti24 rfl rfl rfl ?_)
 refine zag (zau (v := c_v2) Tryz.underlying24 rfl rfl (hL40.at 0 rfl rfl) rfl ?_)
 have f46 := ((f22.mono (K32 S)).mono (K42 S))
 refine zag (zbc (v := c_v2) Tryz.underlying24 rfl f46 ?_)
 refine zag (zbz (x := (l.length : Int)) (y := (c.Auxiliary.length : Int)) (z := (iw ((l.length : Int) + (c.Auxiliary.length : Int)))) rfl rfl rfl ?_)
 refine zag (zai (v := (zO ob20 out14 cap20)) rfl ?_)
 refine zag (zak (v := (zI (iw ((l.length : Int) + (c.Auxiliary.length : Int))))) rfl ?_)
 refine zag (zak (v := (zO ob20 out14 cap20)) rfl ?_)
 refine zan (zbi ?_)
 obtain rfl := zah h
 refine ⟨[(zI (iw ((l.length : Int) + (c.Auxiliary.length : Int)))), (zO ob20 out14 cap20)], ⟨rfl, rfl, trivial⟩, ⟨_, rfl, hL40.done, ?_⟩⟩
 exact ⟨ob20, cap20, cs20, sp20, rfl, (hL40.newOwn [1] rfl rfl rfl), (hE60.mono (zdx [1] rfl)), hc29, trivial⟩
theorem vcheck_w (N : Nat) : ∀ (l : (List RVar)) (c : RClause) (pc : Refut) (ranges : (List Arr2Int)) (l_v : Value) (c_v : Value) (c_v1 : Value) (c_v2 : Value) (c_v3 : Value) (c_v4 : Value) (c_v5 : Value) (c_v6 : Value) (pc_v : Value) (pc_v1 : Value) (pc_v2 : Value) (pc_v3 : Value) (pc_v4 : Value) (ranges_v : Value) (w : World) (S : Nat → Prop) (l_h : Rs rRVar (vH w S [] w) l_v l) (c_h : Rs rI (vH w S [] w) c_v c.Null) (c_h1 : Rs rI (vH w S [] w) c_v1 c.NotNull) (c_h2 : Rs rRAux (vH w S [] w) c_v2 c.Auxiliary) (c_h3 : Rs rConstraint (vH w S [] w) c_v3 c.Ints) (c_h4 : Rs rTTest (vH w S [] w) c_v4 c.Tests) (c_h5 : Rs rArr2Int (vH w S [] w) c_v5 c.Same) (c_h6 : Rs rArr2Int (vH w S [] w) c_v6 c.Different) (pc_h : Rs rStep (vH w S [] w) pc_v pc.Proof.Steps) (pc_h1 : Rs rBig (vH w S [] w) pc_v1 pc.Proof.Form) (pc_h2 : Rs (rInt .u32) (vH w S [] w) pc_v2 pc.Proof.Bound.Digits) (pc_h3 : Rs rProof (vH w S [] w) pc_v3 pc.Proof.Children) (pc_h4 : Rs rRefut (vH w S [] w) pc_v4 pc.Children) (ranges_h : Rs rArr2Int (vH w S [] w) ranges_v ranges) (r : Bool) (h : vcheck N l c pc ranges = some r), Calls Tryz.prog 60 #[l_v, (zap #[c_v, c_v1, c_v2, c_v3, c_v4, c_v5, c_v6]), (zap #[(zI pc.Kind), (zI pc.Var), (zI pc.At), pc_v, pc_v1, (zab pc.Proof.Bound.Negative), pc_v2, pc_v3, pc_v4]), ranges_v] w (Ret w (fun v w' => (zab r) = v ∧ True)) := by
 induction N with
 | zero => intro l c pc ranges l_v c_v c_v1 c_v2 c_v3 c_v4 c_v5 c_v6 pc_v pc_v1 pc_v2 pc_v3 pc_v4 ranges_v w S l_h c_h c_h1 c_h2 c_h3 c_h4 c_h5 c_h6 pc_h pc_h1 pc_h2 pc_h3 pc_h4 ranges_h r h; cases (show (none : Option Bool) = some r from h)
 | succ N ih =>
  intro l c pc ranges l_v c_v c_v1 c_v2 c_v3 c_v4 c_v5 c_v6 pc_v pc_v1 pc_v2 pc_v3 pc_v4 ranges_v w S l_h c_h c_h1 c_h2 c_h3 c_h4 c_h5 c_h6 pc_h pc_h1 pc_h2 pc_h3 pc_h4 ranges_h r h
  replace h : vcheck_step N (vcheck N) l c pc ranges = some r := h
  unfold vcheck_step at h
  have hL : vL w w [] [] := Go.X.Loc.begin0 w
  refine calls_of (l := [l_v, (zap #[c_v, c_v1, c_v2, c_v3, c_v4, c_v5, c_v6]), (zap #[(zI pc.Kind), (zI pc.Var), (zI pc.At), pc_v, pc_v1, (zab pc.Proof.Bound.Negative), pc_v2, pc_v3, pc_v4]), ranges_v]) (rl := [.tmp 8]) (n := 152) Tryz.func60 rfl rfl rfl (zae rfl) ?_
  refine zaj (zaf rfl (zag (zdj (cs := [c_v, c_v1, c_v2, c_v3, c_v4, c_v5, c_v6]) rfl rfl hL ?_)))
  intro b1 w2 hL3 hS5
  have K4 := ks w hS5
  refine zag (zdj (cs := [(zI pc.Kind), (zI pc.Var), (zI pc.At), pc_v, pc_v1, (zab pc.Proof.Bound.Negative), pc_v2, pc_v3, pc_v4]) rfl rfl hL3 ?_)
  intro b6 w7 hL8 hS10
  have K9 := ks w hS10
  refine zag (zak (v := zF) rfl ?_)
  refine zan (zaj (zaj (zaf rfl (zag (zam (q := 0) zaz rfl ti3 rfl rfl rfl ?_)))))
  refine zag (zau (v := (zI pc.Kind)) zax rfl rfl (hL8.at 0 rfl rfl) rfl ?_)
  refine zan (zbb (zaj (zaf rfl (zag (zdp (x := pc.Kind) (y := 0) ((pc.Kind : Int) = 0) rfl rfl zbd ?_)))))
  refine zag (zak (v := (zab (decide ((pc.Kind : Int) = 0)))) rfl (zan ?_))
  refine zba ((pc.Kind : Int) = 0) rfl (fun hc10 => ?_) (fun hc10 => ?_)
  ·
   replace h := ite_t hc10 h
   refine zaj (zaf rfl (zag (zam (q := 0) zct rfl ti23 rfl rfl rfl ?_)))
   refine zag (zau (v := c_v) zav rfl rfl (hL8.at 1 rfl rfl) rfl ?_)
   refine zag (zam (q := 1) zaz rfl ti3 rfl rfl rfl ?_)
   refine zag (zau (v := (zI pc.Var)) zax rfl rfl (hL8.at 0 rfl rfl) rfl ?_)
   obtain ⟨r10, q10, h⟩ := zec h
   have f10 := ((c_h.mono (K4 S)).mono (K9 S))
   refine zag (zay en91 rfl rfl (containsOf_w N c.Null pc.Var c_v _ Any (f10.mono vw_any) r10 q10) ?_)
   rintro _ w10 hE10 ⟨rfl, -⟩
   obtain ⟨hL10, K10⟩ := zl hL8 hE10
   refine zag (zai (v := (zab r10)) rfl ?_)
   by_cases hc11 : r10 = true
   ·
    replace h := ite_t hc11 h
    refine zbt rfl rfl hc11 (zam (q := 1) zct rfl ti23 rfl rfl rfl ?_)
    refine zbt rfl rfl hc11 (zau (v := c_v1) zav rfl rfl (hL10.at 1 rfl rfl) rfl ?_)
    refine zbt rfl rfl hc11 (zam (q := 1) zaz rfl ti3 rfl rfl rfl ?_)
    refine zbt rfl rfl hc11 (zau (v := (zI pc.Var)) zax rfl rfl (hL10.at 0 rfl rfl) rfl ?_)
    obtain ⟨r11, q11, h⟩ := zec h
    have f11 := (((c_h1.mono (K4 S)).mono (K9 S)).mono (K10 S))
    refine zbt rfl rfl hc11 (zay en91 rfl rfl (containsOf_w N c.NotNull pc.Var c_v1 _ Any (f11.mono vw_any) r11 q11) ?_)
    rintro _ w11 hE11 ⟨rfl, -⟩
    obtain ⟨hL11, K11⟩ := zl hL10 hE11
    refine zbt rfl rfl hc11 (zai (v := (zab r11)) rfl ?_)
    by_cases hc12 : r11 = true
    ·
     replace h := ite_t hc12 h
     refine zcl rfl rfl hc12 ?_
     refine zcl rfl rfl hc12 ?_
     refine zcl rfl rfl hc12 ?_
     refine zcl rfl rfl hc12 ?_
     refine zcl rfl rfl hc12 ?_
     refine zcl rfl rfl hc12 ?_
     refine zcl rfl rfl hc12 ?_
     refine zbt rfl rfl hc11 (zce (t := r11) (v := zT) rfl hc12 rfl ?_)
     refine zag (zce (t := r10) (v := zT) rfl hc11 rfl ?_)
     refine zag (zak (v := zT) rfl ?_)
     refine zan (zbi ?_)
     obtain rfl := zah h
     refine ⟨[zT], zrt, ⟨_, rfl, hL11.done, ?_⟩⟩
     exact zrt
    replace h := ite_f hc12 h
    refine zbt rfl rfl (zeh hc12) (zai (v := l_v) rfl ?_)
    refine zbt rfl rfl (zeh hc12) (zam (q := 1) zaz rfl ti3 rfl rfl rfl ?_)
    refine zbt rfl rfl (zeh hc12) (zau (v := (zI pc.Var)) zax rfl rfl (hL11.at 0 rfl rfl) rfl ?_)
    obtain ⟨x10, n10, q13, q14, -, h⟩ := zix h
    have f12 := ((((l_h.mono (K4 S)).mono (K9 S)).mono (K10 S)).mono (K11 S))
    obtain ⟨b10, o10, c10, vs10, q15, q16, f13, q17⟩ := zcw f12 q14
    obtain ⟨rfl, -⟩ := rRVar_open q17
    refine zbt rfl rfl (zeh hc12) (zbp (r := rRVar) (v := l_v) (n := n10) (m := (o10 + n10 * rRVar.sz)) zcu ti83 rfl q15 rfl q13 q14 rfl ?_)
    have f14 := (f13.part (us := [(zab x10.Nullable)]) 4 rfl)
    refine zbt rfl rfl (zeh hc12) (zam (q := (o10 + n10 * rRVar.sz) + 4) zdi rfl ti4 rfl rfl rfl ?_)
    refine zbt rfl rfl (zeh hc12) (zca (v := (zab x10.Nullable)) zcd rfl rfl zek f14 ?_)
    refine zbt rfl rfl (zeh hc12) (zeb (x := x10.Nullable) rfl ?_)
    refine zbt rfl rfl hc11 (zcv (t := r11) (v := (zab (!x10.Nullable))) rfl (zeh hc12) rfl ?_)
    refine zag (zce (t := r10) (v := (zab (!x10.Nullable))) rfl hc11 rfl ?_)
    refine zag (zak (v := (zab (!x10.Nullable))) rfl ?_)
    refine zan (zbi ?_)
    obtain rfl := zah h
    refine ⟨[(zab (!x10.Nullable))], zrt, ⟨_, rfl, hL11.done, ?_⟩⟩
    exact zrt
   replace h := ite_f hc11 h
   refine zcl rfl rfl (zeh hc11) (zcl rfl rfl (zeh hc11) (zcl rfl rfl (zeh hc11) (zcl rfl rfl (zeh hc11) (zcl rfl rfl (zeh hc11) (zcl rfl rfl (zeh hc11) ?_)))))
   refine Rl.no_undef rfl rfl ?_
   refine Rl.no_undef rfl rfl ?_
   refine Rl.no_undef rfl rfl ?_
   refine Rl.no_undef rfl rfl ?_
   refine Rl.no_undef rfl rfl ?_
   refine Rl.no_undef rfl rfl ?_
   refine Rl.no_undef rfl rfl ?_
   refine zcl rfl rfl (zeh hc11) ?_
   refine zag (zcv (t := r10) (v := zF) rfl (zeh hc11) rfl ?_)
   refine zag (zak (v := zF) rfl ?_)
   refine zan (zbi ?_)
   obtain rfl := zah h
   refine ⟨[zF], zrt, ⟨_, rfl, hL10.done, ?_⟩⟩
   exact zrt
  replace h := ite_f hc10 h
  refine zaj (zaf rfl (zag (zdp (x := pc.Kind) (y := 1) ((pc.Kind : Int) = 1) rfl rfl zbd ?_)))
  refine zag (zak (v := (zab (decide ((pc.Kind : Int) = 1)))) rfl (zan ?_))
  refine zba ((pc.Kind : Int) = 1) rfl (fun hc13 => ?_) (fun hc13 => ?_)
  ·
   replace h := ite_t hc13 h
   refine zaj (zaf rfl (zag (zai (v := l_v) rfl ?_)))
   refine zag (zbj (vs := [c_v, c_v1, c_v2, c_v3, c_v4, c_v5, c_v6]) zct rfl ti29 rfl (hL8.at 1 rfl rfl) rfl rfl ?_)
   refine zag (zai (v := ranges_v) rfl ?_)
   cases h
  replace h := ite_f hc13 h
  refine zaj (zaf rfl (zag (zdp (x := pc.Kind) (y := 2) ((pc.Kind : Int) = 2) rfl rfl zbd ?_)))
  refine zag (zak (v := (zab (decide ((pc.Kind : Int) = 2)))) rfl (zan ?_))
  refine zba ((pc.Kind : Int) = 2) rfl (fun hc14 => ?_) (fun hc14 => ?_)
  ·
   replace h := ite_t hc14 h
   refine zaj (zaf rfl (zag (zai (v := l_v) rfl ?_)))
   refine zag (zbj (vs := [c_v, c_v1, c_v2, c_v3, c_v4, c_v5, c_v6]) zct rfl ti29 rfl (hL8.at 1 rfl rfl) rfl rfl ?_)
   refine zag (zai (v := ranges_v) rfl ?_)
   obtain ⟨r12, q18, h⟩ := zec h
   have f15 := ((l_h.mono (K4 S)).mono (K9 S))
   have f16 := ((c_h.mono (K4 S)).mono (K9 S))
   have f17 := ((c_h1.mono (K4 S)).mono (K9 S))
   have f18 := ((c_h2.mono (K4 S)).mono (K9 S))
   have f19 := ((c_h3.mono (K4 S)).mono (K9 S))
   have f20 := ((c_h4.mono (K4 S)).mono (K9 S))
   have f21 := ((c_h5.mono (K4 S)).mono (K9 S))
   have f22 := ((c_h6.mono (K4 S)).mono (K9 S))
   have f23 := ((ranges_h.mono (K4 S)).mono (K9 S))
   refine zag (zay en12 rfl rfl (vInts_w N l c ranges l_v c_v c_v1 c_v2 c_v3 c_v4 c_v5 c_v6 ranges_v _ Any (f15.mono vw_any) (f16.mono vw_any) (f17.mono vw_any) (f18.mono vw_any) (f19.mono vw_any) (f20.mono vw_any) (f21.mono vw_any) (f22.mono vw_any) (f23.mono vw_any) r12 q18) ?_)
   rintro _ w12 hE12 ⟨ob10, cap10, cs10, sp10, rfl, hN10, hE13, hc15, -⟩
   replace hE13 := hE13.mono (zbu (S := None) hL8 [ob10])
   have hp10 := hL8.adoptL hE12 hN10
   have hL12 := hp10.1
   have K12 := ks w hp10.2
   refine zag (zai (v := (Value.tuple #[(zI r12.1), (zO ob10 r12.2 cap10)])) rfl ?_)
   refine zag (zdb (vs := [(zI r12.1), (zO ob10 r12.2 cap10)]) (v := (zI r12.1)) rfl rfl ?_)
   refine zag (zdb (vs := [(zI r12.1), (zO ob10 r12.2 cap10)]) (v := (zO ob10 r12.2 cap10)) rfl rfl ?_)
   refine zag (zak (v := (zI r12.1)) rfl ?_)
   refine zag (zak (v := (zO ob10 r12.2 cap10)) rfl ?_)
   refine zan (zaj ?_)
   obtain ⟨r13, q19, h⟩ := zec h
   refine zcj 5 [] [] (fun W1 => [.det (zO ob10 r12.2 cap10), .det (zI r12.1), .rel (fun v Z w' => ∃ ob11 cap11 cs11 sp11, (zO ob11 r13 cap11) = v ∧ OwnC w' ob11 (zac ([] ++ (cs11 ++ sp11))) ∧ Els rIneq (vZ W1 w None [ob10, some b6, some b1] Z w') cs11 r13 ∧ (cs11 ++ sp11 : List Value).length = cap11 * rIneq.sz ∧ True) footV, .det (zal (some ⟨b6, 3, none⟩)), .det (zap #[pc_v, pc_v1, (zab pc.Proof.Bound.Negative), pc_v2, pc_v3])]) mixed rfl rfl rfl (fun _ => rfl) (fun _ => rfl) ?_ ?_
   ·
    intro W1 _
    exact ⟨fun v Z Z' w w' hΦ hz _ _ hs => by obtain ⟨ob11, cap11, cs11, sp11, rfl, hO10, hE14, hc16, -⟩ := hΦ; exact ⟨ob11, cap11, cs11, sp11, rfl, (hO10.stay (fun b hb => (zep (ob := ob11) (o := 0) (n := r13.length) (cap := cap11)).2 (by rw [hb]; exact zbm)) hs), (hE14.mono (zdo hz hs)), hc16, trivial⟩, trivial⟩
   intro w13 hE15
   obtain ⟨hL13, K13⟩ := zl hL12 hE15
   refine zat (fun _ _ => zaw (zai rfl (er rfl))) ?_
   refine zat (fun _ _ => zaw (zai rfl (er rfl))) ?_
   refine zdq ?_ ?_
   ·
    rintro w16 Z21 hE18 hZ12 ⟨-⟩
    obtain ⟨hL14, K14⟩ := zl hL13 hE18
    refine zaw (zay en94 rfl rfl (cSystem_w N r12.2 r12.1 (zO ob10 r12.2 cap10) _ Any (zel (pre := []) (o := 0) (n := r12.2.length) (cap := cap10) (hL14.at 0 rfl rfl) ((hE13.mono (K13 None)).mono (K14 None)) vw_any rfl rfl rfl hc15) r13 q19) ?_)
    rintro _ w17 hE19 ⟨ob11, cap11, cs11, sp11, rfl, hN11, hE14, hc16, -⟩
    exact zdf hE19 hZ12 hN11 (fun b hb => footV_osv.1 hb) ⟨ob11, cap11, cs11, sp11, rfl, hN11.2.2.1, (hE14.mono zdr), hc16, trivial⟩
   intro z2
   refine zat (fun _ _ => zaw (zam zaz rfl ti70 rfl rfl rfl (er rfl))) ?_
   refine zat (fun _ hE21 => zaw (zbj (vs := [pc_v, pc_v1, (zab pc.Proof.Bound.Negative), pc_v2, pc_v3]) zbk rfl ti70 rfl ((hL13.ext hE21).at 1 rfl rfl) rfl rfl (er rfl))) ?_
   refine zcx ?_
   rintro w20 Z25 hE22 hZ15 ⟨⟨⟨ob11, cap11, cs11, sp11, rfl, hO10, hE14, hc16, -⟩, hB2⟩, -⟩ ap10
   have hB10 : ∀ b, some b ∈ ([ob11] : List (Option Nat)) → w13.heap.size ≤ b ∧ ¬ Z25 b := by
    intro b hb
    rcases List.mem_cons.1 hb with hb' | hb
    ·
     have := hB2 b ((zep (ob := ob11) (o := 0) (n := r13.length) (cap := cap11)).2 (by rw [hb']; exact zbm)); exact ⟨this.1, this.2.2⟩
    cases hb
   replace hE14 := hE14.mono (zdw hL13 hZ15 hB10)
   have hN12 : NewOwn w13 w20 [ob11] [zac ([] ++ (cs11 ++ sp11))] := (zdt zco hO10 (fun b hb => (hB10 b (by rw [← hb]; simp)).1) (fun b _ hb => by cases hb))
   have hp11 := hL13.adoptL hE22 hN12
   have hL16 := hp11.1
   have K15 := ks w hp11.2
   obtain ⟨r14, q20, h⟩ := zec h
   have f24 := (((((pc_h.mono (K4 S)).mono (K9 S)).mono (K12 S)).mono (K13 S)).mono (K15 S))
   have f25 := (((((pc_h1.mono (K4 S)).mono (K9 S)).mono (K12 S)).mono (K13 S)).mono (K15 S))
   have f26 := (((((pc_h2.mono (K4 S)).mono (K9 S)).mono (K12 S)).mono (K13 S)).mono (K15 S))
   have f27 := (((((pc_h3.mono (K4 S)).mono (K9 S)).mono (K12 S)).mono (K13 S)).mono (K15 S))
   refine zag (zay en93 rfl rfl (cCheck_w N r13 pc.Proof (zO ob11 r13 cap11) pc_v pc_v1 pc_v2 pc_v3 _ Any (zel (pre := []) (o := 0) (n := r13.length) (cap := cap11) (hL16.at 0 rfl rfl) hE14 vw_any rfl rfl rfl hc16) (f24.mono vw_any) (f25.mono vw_any) (f26.mono vw_any) (f27.mono vw_any) r14 q20) ?_)
   rintro _ w21 hE23 ⟨rfl, -⟩
   have hL17 := hL16.ext hE23
   refine zag (zak (v := (zab r14)) rfl ?_)
   refine zan (zbi ?_)
   obtain rfl := zah h
   refine ⟨[(zab r14)], zrt, ⟨_, rfl, hL17.done, ?_⟩⟩
   exact zrt
  replace h := ite_f hc14 h
  refine zaj (zaf rfl (zag (zdp (x := pc.Kind) (y := 3) ((pc.Kind : Int) = 3) rfl rfl zbd ?_)))
  refine zag (zak (v := (zab (decide ((pc.Kind : Int) = 3)))) rfl (zan ?_))
  refine zba ((pc.Kind : Int) = 3) rfl (fun hc17 => ?_) (fun hc17 => ?_)
  ·
   replace h := ite_t hc17 h
   refine zaj (zaf rfl (zag (zam (q := 1) zaz rfl ti3 rfl rfl rfl ?_)))
   refine zag (zau (v := (zI pc.Var)) zax rfl rfl (hL8.at 0 rfl rfl) rfl ?_)
   refine zag (zak (v := (zI pc.Var)) rfl ?_)
   refine zan (zaj (zaj ?_))
   obtain ⟨s10, h, g10⟩ := zec h
   refine zbs (fun e w' => ∃ (x11 : Bool) (u : Env), x11 = s10 ∧ e = upds [(0, l_v), (3, ranges_v), (5, (zal (some ⟨b1, 0, none⟩))), (6, (zal (some ⟨b6, 0, none⟩))), (15, (zI pc.Var)), (116, (zab x11))] u ∧ vL w w' [some b1, some b6] [zac [c_v, c_v1, c_v2, c_v3, c_v4, c_v5, c_v6], zac [(zI pc.Kind), (zI pc.Var), (zI pc.At), pc_v, pc_v1, (zab pc.Proof.Bound.Negative), pc_v2, pc_v3, pc_v4]] ∧ Keep w.heap.size [some b6, some b1] w7 [some b1, some b6] w' ∧ True) ?_ ?_
   ·
    obtain ⟨r15, q21, h⟩ := zec h
    by_cases hc18 : (!r15) = true
    ·
     replace h := ite_t hc18 h
     refine zcj 31 [] [] (fun W1 => [.det (zal (some ⟨b1, 1, none⟩)), .det c_v1, .det (zI pc.Var), .det (zab r15), .det (zab (!r15)), .det (zab (!r15)), .det undef, .det undef, .det undef, .det undef, .det undef, .det undef, .det zT, .det zT, .det undef, .det undef, .det undef, .det undef, .det undef, .det undef, .det undef, .det undef, .det zT, .det zT, .det undef, .det undef, .det undef, .det undef, .det undef, .det undef, .det undef]) mixed rfl rfl rfl (fun _ => rfl) (fun _ => rfl) ?_ ?_
     ·
      intro W1 _
      exact trivial
     intro w22 hE24
     obtain ⟨hL18, K16⟩ := zl hL8 hE24
     refine zat (fun _ _ => zaw (zam zct rfl ti23 rfl rfl rfl (er rfl))) ?_
     refine zat (fun _ hE26 => zaw (zau zav rfl rfl ((hL18.ext hE26).at 1 rfl rfl) rfl (er rfl))) ?_
     refine zat (fun _ _ => zaw (zai rfl (er rfl))) ?_
     refine DrH.det ?_ ?_
     ·
      rintro w26 Z29 hE28 hZ19 ⟨-⟩
      have K17 := ke hL18 hE28
      refine zaw (zay en91 rfl rfl (containsOf_w N c.NotNull pc.Var c_v1 _ Any (((((c_h1.mono (K4 S)).mono (K9 S)).mono (K16 S)).mono (K17 S)).mono vw_any) r15 q21) ?_)
      rintro _ w27 hE29 ⟨rfl, -⟩
      exact ⟨hE29, rfl⟩
     refine zat (fun _ _ => zaw (zeb rfl (er rfl))) ?_
     refine zat (fun _ _ => zaw (zai rfl (er rfl))) ?_
     refine zat (fun _ _ => zdm rfl rfl hc18 (er rfl)) ?_
     refine zat (fun _ _ => zdm rfl rfl hc18 (er rfl)) ?_
     refine zat (fun _ _ => zdm rfl rfl hc18 (er rfl)) ?_
     refine zat (fun _ _ => zdm rfl rfl hc18 (er rfl)) ?_
     refine zat (fun _ _ => zdm rfl rfl hc18 (er rfl)) ?_
     refine zat (fun _ _ => zdm rfl rfl hc18 (er rfl)) ?_
     refine zat (fun _ _ => zaw (zce rfl hc18 rfl (er rfl))) ?_
     refine zat (fun _ _ => zaw (zai rfl (er rfl))) ?_
     refine zat (fun _ _ => zdm rfl rfl rfl (er rfl)) ?_
     refine zat (fun _ _ => zdm rfl rfl rfl (er rfl)) ?_
     refine zat (fun _ _ => zdm rfl rfl rfl (er rfl)) ?_
     refine zat (fun _ _ => zdm rfl rfl rfl (er rfl)) ?_
     refine zat (fun _ _ => zdm rfl rfl rfl (er rfl)) ?_
     refine zat (fun _ _ => zdm rfl rfl rfl (er rfl)) ?_
     refine zat (fun _ _ => zdm rfl rfl rfl (er rfl)) ?_
     refine zat (fun _ _ => zdm rfl rfl rfl (er rfl)) ?_
     refine zat (fun _ _ => zaw (zce rfl rfl rfl (er rfl))) ?_
     refine zat (fun _ _ => zaw (zai rfl (er rfl))) ?_
     refine zat (fun _ _ => zdm rfl rfl rfl (er rfl)) ?_
     refine zat (fun _ _ => zdm rfl rfl rfl (er rfl)) ?_
     refine zat (fun _ _ => zdm rfl rfl rfl (er rfl)) ?_
     refine zat (fun _ _ => zdm rfl rfl rfl (er rfl)) ?_
     refine zat (fun _ _ => zdm rfl rfl rfl (er rfl)) ?_
     refine zat (fun _ _ => zdm rfl rfl rfl (er rfl)) ?_
     refine zat (fun _ _ => zdm rfl rfl rfl (er rfl)) ?_
     refine zcx ?_
     rintro w55 Z57 hE57 hZ47 ⟨-⟩ ap11
     have hB11 := @zhb w22 Z57
     obtain ⟨hL20, K18⟩ := zl hL18 hE57
     refine zcl rfl rfl rfl ?_
     refine zag (zce (t := true) (v := zT) rfl rfl rfl ?_)
     refine zag (zai (v := zT) rfl ?_)
     refine zcl rfl rfl rfl (zcl rfl rfl rfl (zcl rfl rfl rfl (zcl rfl rfl rfl ?_)))
     refine zag (zce (t := true) (v := zT) rfl rfl rfl (zan ?_))
     have hp12 := hL20.pick [1, 0] rfl rfl rfl
     have hL21 : vL w w55 [some b1, some b6] [zac [c_v, c_v1, c_v2, c_v3, c_v4, c_v5, c_v6], zac [(zI pc.Kind), (zI pc.Var), (zI pc.At), pc_v, pc_v1, (zab pc.Proof.Bound.Negative), pc_v2, pc_v3, pc_v4]] := hp12.1
     have K19 := ks w hp12.2
     obtain rfl := zah h
     refine zaq ?_
     exact ⟨true, _, rfl, (zeg ⟨rfl, rfl, rfl, rfl, rfl, rfl, trivial⟩), hL21, (zao (zao K16 K18) K19), trivial⟩
    replace h := ite_f hc18 h
    obtain ⟨x12, n11, q23, q24, -, h⟩ := zix h
    have f28 := ((l_h.mono (K4 S)).mono (K9 S))
    obtain ⟨b11, o11, c11, vs11, q25, q26, f29, q27⟩ := zcw f28 q24
    obtain ⟨rfl, -⟩ := rRVar_open q27
    have f30 := (f29.part (us := [(zI x12.Ty)]) 0 rfl)
    by_cases hc19 : (x12.Ty : Int) ≠ 2
    ·
     replace h := ite_t hc19 h
     refine zcj 31 [] [] (fun W1 => [.det (zal (some ⟨b1, 1, none⟩)), .det c_v1, .det (zI pc.Var), .det (zab r15), .det (zab (!r15)), .det (zab (!r15)), .det l_v, .det (zI pc.Var), .det (zal (some ⟨b11, (o11 + n11 * rRVar.sz), none⟩)), .det (zal (some ⟨b11, (o11 + n11 * rRVar.sz) + 0, none⟩)), .det (zI x12.Ty), .det (zab (decide ((x12.Ty : Int) ≠ 2))), .det (zab (decide ((x12.Ty : Int) ≠ 2))), .det (zab (decide ((x12.Ty : Int) ≠ 2))), .det undef, .det undef, .det undef, .det undef, .det undef, .det undef, .det undef, .det undef, .det zT, .det zT, .det undef, .det undef, .det undef, .det undef, .det undef, .det undef, .det undef]) mixed rfl rfl rfl (fun _ => rfl) (fun _ => rfl) ?_ ?_
     ·
      intro W1 _
      exact trivial
     intro w56 hE58
     obtain ⟨hL22, K20⟩ := zl hL8 hE58
     refine zat (fun _ _ => zaw (zam zct rfl ti23 rfl rfl rfl (er rfl))) ?_
     refine zat (fun _ hE60 => zaw (zau zav rfl rfl ((hL22.ext hE60).at 1 rfl rfl) rfl (er rfl))) ?_
     refine zat (fun _ _ => zaw (zai rfl (er rfl))) ?_
     refine DrH.det ?_ ?_
     ·
      rintro w60 Z61 hE62 hZ51 ⟨-⟩
      have K21 := ke hL22 hE62
      refine zaw (zay en91 rfl rfl (containsOf_w N c.NotNull pc.Var c_v1 _ Any (((((c_h1.mono (K4 S)).mono (K9 S)).mono (K20 S)).mono (K21 S)).mono vw_any) r15 q21) ?_)
      rintro _ w61 hE63 ⟨rfl, -⟩
      exact ⟨hE63, rfl⟩
     refine zat (fun _ _ => zaw (zeb rfl (er rfl))) ?_
     refine zat (fun _ _ => zaw (zai rfl (er rfl))) ?_
     refine zat (fun _ _ => zdc rfl rfl (zeh hc18) (zai rfl (er rfl))) ?_
     refine zat (fun _ _ => zdc rfl rfl (zeh hc18) (zai rfl (er rfl))) ?_
     refine zat (fun _ _ => zdc rfl rfl (zeh hc18) (zbp (r := rRVar) (v := l_v) (n := n11) (m := (o11 + n11 * rRVar.sz)) zcu ti83 rfl q25 rfl q23 q24 rfl (er rfl))) ?_
     refine zat (fun _ _ => zdc rfl rfl (zeh hc18) (zam zdi rfl ti3 rfl rfl rfl (er rfl))) ?_
     refine zat (fun _ hE70 => zdc rfl rfl (zeh hc18) (zca zax rfl rfl zek (zda ((ke hL22 hE70) S) (zda (K20 S) f30)) (er rfl))) ?_
     refine zat (fun _ _ => zdc rfl rfl (zeh hc18) (OpY.neq (x := x12.Ty) (y := 2) ((x12.Ty : Int) ≠ 2) rfl rfl zbd (er rfl))) ?_
     refine zat (fun _ _ => zaw (zcv rfl (zeh hc18) rfl (er rfl))) ?_
     refine zat (fun _ _ => zaw (zai rfl (er rfl))) ?_
     refine zat (fun _ _ => zdm rfl rfl (zef hc19) (er rfl)) ?_
     refine zat (fun _ _ => zdm rfl rfl (zef hc19) (er rfl)) ?_
     refine zat (fun _ _ => zdm rfl rfl (zef hc19) (er rfl)) ?_
     refine zat (fun _ _ => zdm rfl rfl (zef hc19) (er rfl)) ?_
     refine zat (fun _ _ => zdm rfl rfl (zef hc19) (er rfl)) ?_
     refine zat (fun _ _ => zdm rfl rfl (zef hc19) (er rfl)) ?_
     refine zat (fun _ _ => zdm rfl rfl (zef hc19) (er rfl)) ?_
     refine zat (fun _ _ => zdm rfl rfl (zef hc19) (er rfl)) ?_
     refine zat (fun _ _ => zaw (zce rfl (zef hc19) rfl (er rfl))) ?_
     refine zat (fun _ _ => zaw (zai rfl (er rfl))) ?_
     refine zat (fun _ _ => zdm rfl rfl rfl (er rfl)) ?_
     refine zat (fun _ _ => zdm rfl rfl rfl (er rfl)) ?_
     refine zat (fun _ _ => zdm rfl rfl rfl (er rfl)) ?_
     refine zat (fun _ _ => zdm rfl rfl rfl (er rfl)) ?_
     refine zat (fun _ _ => zdm rfl rfl rfl (er rfl)) ?_
     refine zat (fun _ _ => zdm rfl rfl rfl (er rfl)) ?_
     refine zat (fun _ _ => zdm rfl rfl rfl (er rfl)) ?_
     refine zcx ?_
     rintro w89 Z89 hE91 hZ79 ⟨-⟩ ap12
     have hB12 := @zhb w56 Z89
     obtain ⟨hL24, K23⟩ := zl hL22 hE91
     refine zcl rfl rfl rfl ?_
     refine zag (zce (t := true) (v := zT) rfl rfl rfl ?_)
     refine zag (zai (v := zT) rfl ?_)
     refine zcl rfl rfl rfl (zcl rfl rfl rfl (zcl rfl rfl rfl (zcl rfl rfl rfl ?_)))
     refine zag (zce (t := true) (v := zT) rfl rfl rfl (zan ?_))
     have hp13 := hL24.pick [1, 0] rfl rfl rfl
     have hL25 : vL w w89 [some b1, some b6] [zac [c_v, c_v1, c_v2, c_v3, c_v4, c_v5, c_v6], zac [(zI pc.Kind), (zI pc.Var), (zI pc.At), pc_v, pc_v1, (zab pc.Proof.Bound.Negative), pc_v2, pc_v3, pc_v4]] := hp13.1
     have K24 := ks w hp13.2
     obtain rfl := zah h
     refine zaq ?_
     exact ⟨true, _, rfl, (zeg ⟨rfl, rfl, rfl, rfl, rfl, rfl, trivial⟩), hL25, (zao (zao K20 K23) K24), trivial⟩
    replace h := ite_f hc19 h
    obtain ⟨x13, n12, q29, q30, -, h⟩ := zix h
    have f31 := ((ranges_h.mono (K4 S)).mono (K9 S))
    obtain ⟨b12, o12, c12, vs12, q31, q32, f32, q33⟩ := zcw f31 q30
    obtain ⟨rfl, -⟩ := rArr2Int_open q33
    have f33 := (f32.part (us := [(zI x13.e0)]) 0 rfl)
    by_cases hc20 : (pc.At : Int) < x13.e0
    ·
     replace h := ite_t hc20 h
     refine zcj 31 [] [] (fun W1 => [.det (zal (some ⟨b1, 1, none⟩)), .det c_v1, .det (zI pc.Var), .det (zab r15), .det (zab (!r15)), .det (zab (!r15)), .det l_v, .det (zI pc.Var), .det (zal (some ⟨b11, (o11 + n11 * rRVar.sz), none⟩)), .det (zal (some ⟨b11, (o11 + n11 * rRVar.sz) + 0, none⟩)), .det (zI x12.Ty), .det (zab (decide ((x12.Ty : Int) ≠ 2))), .det (zab (decide ((x12.Ty : Int) ≠ 2))), .det (zab (decide ((x12.Ty : Int) ≠ 2))), .det (zal (some ⟨b6, 2, none⟩)), .det (zI pc.At), .det ranges_v, .det (zI pc.Var), .det (zal (some ⟨b12, (o12 + n12 * rArr2Int.sz), none⟩)), .det (zal (some ⟨b12, (o12 + n12 * rArr2Int.sz) + 0, none⟩)), .det (zI x13.e0), .det (zab (decide ((pc.At : Int) < x13.e0))), .det (zab (decide ((pc.At : Int) < x13.e0))), .det (zab (decide ((pc.At : Int) < x13.e0))), .det undef, .det undef, .det undef, .det undef, .det undef, .det undef, .det undef]) mixed rfl rfl rfl (fun _ => rfl) (fun _ => rfl) ?_ ?_
     ·
      intro W1 _
      exact trivial
     intro w90 hE92
     obtain ⟨hL26, K25⟩ := zl hL8 hE92
     refine zat (fun _ _ => zaw (zam zct rfl ti23 rfl rfl rfl (er rfl))) ?_
     refine zat (fun _ hE94 => zaw (zau zav rfl rfl ((hL26.ext hE94).at 1 rfl rfl) rfl (er rfl))) ?_
     refine zat (fun _ _ => zaw (zai rfl (er rfl))) ?_
     refine DrH.det ?_ ?_
     ·
      rintro w94 Z93 hE96 hZ83 ⟨-⟩
      have K26 := ke hL26 hE96
      refine zaw (zay en91 rfl rfl (containsOf_w N c.NotNull pc.Var c_v1 _ Any (((((c_h1.mono (K4 S)).mono (K9 S)).mono (K25 S)).mono (K26 S)).mono vw_any) r15 q21) ?_)
      rintro _ w95 hE97 ⟨rfl, -⟩
      exact ⟨hE97, rfl⟩
     refine zat (fun _ _ => zaw (zeb rfl (er rfl))) ?_
     refine zat (fun _ _ => zaw (zai rfl (er rfl))) ?_
     refine zat (fun _ _ => zdc rfl rfl (zeh hc18) (zai rfl (er rfl))) ?_
     refine zat (fun _ _ => zdc rfl rfl (zeh hc18) (zai rfl (er rfl))) ?_
     refine zat (fun _ _ => zdc rfl rfl (zeh hc18) (zbp (r := rRVar) (v := l_v) (n := n11) (m := (o11 + n11 * rRVar.sz)) zcu ti83 rfl q25 rfl q23 q24 rfl (er rfl))) ?_
     refine zat (fun _ _ => zdc rfl rfl (zeh hc18) (zam zdi rfl ti3 rfl rfl rfl (er rfl))) ?_
     refine zat (fun _ hE104 => zdc rfl rfl (zeh hc18) (zca zax rfl rfl zek (zda ((ke hL26 hE104) S) (zda (K25 S) f30)) (er rfl))) ?_
     refine zat (fun _ _ => zdc rfl rfl (zeh hc18) (OpY.neq (x := x12.Ty) (y := 2) ((x12.Ty : Int) ≠ 2) rfl rfl zbd (er rfl))) ?_
     refine zat (fun _ _ => zaw (zcv rfl (zeh hc18) rfl (er rfl))) ?_
     refine zat (fun _ _ => zaw (zai rfl (er rfl))) ?_
     refine zat (fun _ _ => zdc rfl rfl (zed hc19) (zam zaz rfl ti3 rfl rfl rfl (er rfl))) ?_
     refine zat (fun _ hE109 => zdc rfl rfl (zed hc19) (zau zax rfl rfl ((hL26.ext hE109).at 0 rfl rfl) rfl (er rfl))) ?_
     refine zat (fun _ _ => zdc rfl rfl (zed hc19) (zai rfl (er rfl))) ?_
     refine zat (fun _ _ => zdc rfl rfl (zed hc19) (zai rfl (er rfl))) ?_
     refine zat (fun _ _ => zdc rfl rfl (zed hc19) (zbp (r := rArr2Int) (v := ranges_v) (n := n12) (m := (o12 + n12 * rArr2Int.sz)) zdu ti54 rfl q31 rfl q29 q30 rfl (er rfl))) ?_
     refine zat (fun _ _ => zdc rfl rfl (zed hc19) (OpY.indexAddr_arr (i := 0) (q := (o12 + n12 * rArr2Int.sz) + 0) Tryz.underlying54 ti3 rfl rfl (by decide) rfl (er rfl))) ?_
     refine zat (fun _ hE114 => zdc rfl rfl (zed hc19) (zca zax rfl rfl zek (zda ((ke hL26 hE114) S) (zda (K25 S) f33)) (er rfl))) ?_
     refine zat (fun _ _ => zdc rfl rfl (zed hc19) (zci ((pc.At : Int) < x13.e0) rfl rfl zbd (er rfl))) ?_
     refine zat (fun _ _ => zaw (zcv rfl (zed hc19) rfl (er rfl))) ?_
     refine zat (fun _ _ => zaw (zai rfl (er rfl))) ?_
     refine zat (fun _ _ => zdm rfl rfl (zef hc20) (er rfl)) ?_
     refine zat (fun _ _ => zdm rfl rfl (zef hc20) (er rfl)) ?_
     refine zat (fun _ _ => zdm rfl rfl (zef hc20) (er rfl)) ?_
     refine zat (fun _ _ => zdm rfl rfl (zef hc20) (er rfl)) ?_
     refine zat (fun _ _ => zdm rfl rfl (zef hc20) (er rfl)) ?_
     refine zat (fun _ _ => zdm rfl rfl (zef hc20) (er rfl)) ?_
     refine zat (fun _ _ => zdm rfl rfl (zef hc20) (er rfl)) ?_
     refine zcx ?_
     rintro w123 Z121 hE125 hZ111 ⟨-⟩ ap13
     have hB13 := @zhb w90 Z121
     obtain ⟨hL29, K29⟩ := zl hL26 hE125
     refine zcl rfl rfl (zef hc20) ?_
     refine zag (zce (t := (decide ((pc.At : Int) < x13.e0))) (v := zT) rfl (zef hc20) rfl ?_)
     refine zag (zai (v := zT) rfl ?_)
     refine zcl rfl rfl rfl (zcl rfl rfl rfl (zcl rfl rfl rfl (zcl rfl rfl rfl ?_)))
     refine zag (zce (t := true) (v := zT) rfl rfl rfl (zan ?_))
     have hp14 := hL29.pick [1, 0] rfl rfl rfl
     have hL30 : vL w w123 [some b1, some b6] [zac [c_v, c_v1, c_v2, c_v3, c_v4, c_v5, c_v6], zac [(zI pc.Kind), (zI pc.Var), (zI pc.At), pc_v, pc_v1, (zab pc.Proof.Bound.Negative), pc_v2, pc_v3, pc_v4]] := hp14.1
     have K30 := ks w hp14.2
     obtain rfl := zah h
     refine zaq ?_
     exact ⟨true, _, rfl, (zeg ⟨rfl, rfl, rfl, rfl, rfl, rfl, trivial⟩), hL30, (zao (zao K25 K29) K30), trivial⟩
    replace h := ite_f hc20 h
    obtain ⟨x14, n13, q35, q36, -, h⟩ := zix h
    obtain ⟨b13, o13, c13, vs13, q37, q38, f34, q39⟩ := zcw f31 q36
    obtain ⟨rfl, -⟩ := rArr2Int_open q39
    have f35 := (f34.part (us := [(zI x14.e1)]) 1 rfl)
    refine zcj 31 [] [] (fun W1 => [.det (zal (some ⟨b1, 1, none⟩)), .det c_v1, .det (zI pc.Var), .det (zab r15), .det (zab (!r15)), .det (zab (!r15)), .det l_v, .det (zI pc.Var), .det (zal (some ⟨b11, (o11 + n11 * rRVar.sz), none⟩)), .det (zal (some ⟨b11, (o11 + n11 * rRVar.sz) + 0, none⟩)), .det (zI x12.Ty), .det (zab (decide ((x12.Ty : Int) ≠ 2))), .det (zab (decide ((x12.Ty : Int) ≠ 2))), .det (zab (decide ((x12.Ty : Int) ≠ 2))), .det (zal (some ⟨b6, 2, none⟩)), .det (zI pc.At), .det ranges_v, .det (zI pc.Var), .det (zal (some ⟨b12, (o12 + n12 * rArr2Int.sz), none⟩)), .det (zal (some ⟨b12, (o12 + n12 * rArr2Int.sz) + 0, none⟩)), .det (zI x13.e0), .det (zab (decide ((pc.At : Int) < x13.e0))), .det (zab (decide ((pc.At : Int) < x13.e0))), .det (zab (decide ((pc.At : Int) < x13.e0))), .det (zal (some ⟨b6, 2, none⟩)), .det (zI pc.At), .det ranges_v, .det (zI pc.Var), .det (zal (some ⟨b13, (o13 + n13 * rArr2Int.sz), none⟩)), .det (zal (some ⟨b13, (o13 + n13 * rArr2Int.sz) + 1, none⟩)), .det (zI x14.e1)]) mixed rfl rfl rfl (fun _ => rfl) (fun _ => rfl) ?_ ?_
    ·
     intro W1 _
     exact trivial
    intro w124 hE126
    obtain ⟨hL31, K31⟩ := zl hL8 hE126
    refine zat (fun _ _ => zaw (zam zct rfl ti23 rfl rfl rfl (er rfl))) ?_
    refine zat (fun _ hE128 => zaw (zau zav rfl rfl ((hL31.ext hE128).at 1 rfl rfl) rfl (er rfl))) ?_
    refine zat (fun _ _ => zaw (zai rfl (er rfl))) ?_
    refine DrH.det ?_ ?_
    ·
     rintro w128 Z125 hE130 hZ115 ⟨-⟩
     have K32 := ke hL31 hE130
     refine zaw (zay en91 rfl rfl (containsOf_w N c.NotNull pc.Var c_v1 _ Any (((((c_h1.mono (K4 S)).mono (K9 S)).mono (K31 S)).mono (K32 S)).mono vw_any) r15 q21) ?_)
     rintro _ w129 hE131 ⟨rfl, -⟩
     exact ⟨hE131, rfl⟩
    refine zat (fun _ _ => zaw (zeb rfl (er rfl))) ?_
    refine zat (fun _ _ => zaw (zai rfl (er rfl))) ?_
    refine zat (fun _ _ => zdc rfl rfl (zeh hc18) (zai rfl (er rfl))) ?_
    refine zat (fun _ _ => zdc rfl rfl (zeh hc18) (zai rfl (er rfl))) ?_
    refine zat (fun _ _ => zdc rfl rfl (zeh hc18) (zbp (r := rRVar) (v := l_v) (n := n11) (m := (o11 + n11 * rRVar.sz)) zcu ti83 rfl q25 rfl q23 q24 rfl (er rfl))) ?_
    refine zat (fun _ _ => zdc rfl rfl (zeh hc18) (zam zdi rfl ti3 rfl rfl rfl (er rfl))) ?_
    refine zat (fun _ hE138 => zdc rfl rfl (zeh hc18) (zca zax rfl rfl zek (zda ((ke hL31 hE138) S) (zda (K31 S) f30)) (er rfl))) ?_
    refine zat (fun _ _ => zdc rfl rfl (zeh hc18) (OpY.neq (x := x12.Ty) (y := 2) ((x12.Ty : Int) ≠ 2) rfl rfl zbd (er rfl))) ?_
    refine zat (fun _ _ => zaw (zcv rfl (zeh hc18) rfl (er rfl))) ?_
    refine zat (fun _ _ => zaw (zai rfl (er rfl))) ?_
    refine zat (fun _ _ => zdc rfl rfl (zed hc19) (zam zaz rfl ti3 rfl rfl rfl (er rfl))) ?_
    refine zat (fun _ hE143 => zdc rfl rfl (zed hc19) (zau zax rfl rfl ((hL31.ext hE143).at 0 rfl rfl) rfl (er rfl))) ?_
    refine zat (fun _ _ => zdc rfl rfl (zed hc19) (zai rfl (er rfl))) ?_
    refine zat (fun _ _ => zdc rfl rfl (zed hc19) (zai rfl (er rfl))) ?_
    refine zat (fun _ _ => zdc rfl rfl (zed hc19) (zbp (r := rArr2Int) (v := ranges_v) (n := n12) (m := (o12 + n12 * rArr2Int.sz)) zdu ti54 rfl q31 rfl q29 q30 rfl (er rfl))) ?_
    refine zat (fun _ _ => zdc rfl rfl (zed hc19) (OpY.indexAddr_arr (i := 0) (q := (o12 + n12 * rArr2Int.sz) + 0) Tryz.underlying54 ti3 rfl rfl (by decide) rfl (er rfl))) ?_
    refine zat (fun _ hE148 => zdc rfl rfl (zed hc19) (zca zax rfl rfl zek (zda ((ke hL31 hE148) S) (zda (K31 S) f33)) (er rfl))) ?_
    refine zat (fun _ _ => zdc rfl rfl (zed hc19) (zci ((pc.At : Int) < x13.e0) rfl rfl zbd (er rfl))) ?_
    refine zat (fun _ _ => zaw (zcv rfl (zed hc19) rfl (er rfl))) ?_
    refine zat (fun _ _ => zaw (zai rfl (er rfl))) ?_
    refine zat (fun _ _ => zdc rfl rfl (zed hc20) (zam zaz rfl ti3 rfl rfl rfl (er rfl))) ?_
    refine zat (fun _ hE153 => zdc rfl rfl (zed hc20) (zau zax rfl rfl ((hL31.ext hE153).at 0 rfl rfl) rfl (er rfl))) ?_
    refine zat (fun _ _ => zdc rfl rfl (zed hc20) (zai rfl (er rfl))) ?_
    refine zat (fun _ _ => zdc rfl rfl (zed hc20) (zai rfl (er rfl))) ?_
    refine zat (fun _ _ => zdc rfl rfl (zed hc20) (zbp (r := rArr2Int) (v := ranges_v) (n := n13) (m := (o13 + n13 * rArr2Int.sz)) zdu ti54 rfl q37 rfl q35 q36 rfl (er rfl))) ?_
    refine zat (fun _ _ => zdc rfl rfl (zed hc20) (OpY.indexAddr_arr (i := 1) (q := (o13 + n13 * rArr2Int.sz) + 1) Tryz.underlying54 ti3 rfl rfl (by decide) rfl (er rfl))) ?_
    refine zat (fun _ hE158 => zdc rfl rfl (zed hc20) (zca zax rfl rfl zek (zda ((ke hL31 hE158) S) (zda (K31 S) f35)) (er rfl))) ?_
    refine zcx ?_
    rintro w157 Z153 hE159 hZ143 ⟨-⟩ ap14
    have hB14 := @zhb w124 Z153
    obtain ⟨hL35, K36⟩ := zl hL31 hE159
    refine zbt rfl rfl (zed hc20) (OpY.geq (x := pc.At) (y := x14.e1) ((pc.At : Int) ≥ x14.e1) rfl rfl zbd ?_)
    refine zag (zcv (t := (decide ((pc.At : Int) < x13.e0))) (v := (zab (decide ((pc.At : Int) ≥ x14.e1)))) rfl (zed hc20) rfl ?_)
    refine zag (zai (v := (zab (decide ((pc.At : Int) ≥ x14.e1)))) rfl ?_)
    by_cases hc21 : (pc.At : Int) ≥ x14.e1
    ·
     replace h := ite_t hc21 h
     refine zcl rfl rfl (zef hc21) (zcl rfl rfl (zef hc21) (zcl rfl rfl (zef hc21) (zcl rfl rfl (zef hc21) ?_)))
     refine zag (zce (t := (decide ((pc.At : Int) ≥ x14.e1))) (v := zT) rfl (zef hc21) rfl (zan ?_))
     have hp15 := hL35.pick [1, 0] rfl rfl rfl
     have hL36 : vL w w157 [some b1, some b6] [zac [c_v, c_v1, c_v2, c_v3, c_v4, c_v5, c_v6], zac [(zI pc.Kind), (zI pc.Var), (zI pc.At), pc_v, pc_v1, (zab pc.Proof.Bound.Negative), pc_v2, pc_v3, pc_v4]] := hp15.1
     have K37 := ks w hp15.2
     obtain rfl := zah h
     refine zaq ?_
     exact ⟨true, _, rfl, (zeg ⟨rfl, rfl, rfl, rfl, rfl, rfl, trivial⟩), hL36, (zao (zao K31 K36) K37), trivial⟩
    replace h := ite_f hc21 h
    refine zbt rfl rfl (zed hc21) (zam (q := 8) zaz rfl ti71 rfl rfl rfl ?_)
    refine zbt rfl rfl (zed hc21) (zau (v := pc_v4) zby rfl rfl (hL35.at 0 rfl rfl) rfl ?_)
    have f36 := ((((pc_h4.mono (K4 S)).mono (K9 S)).mono (K31 S)).mono (K36 S))
    refine zbt rfl rfl (zed hc21) (zbc (v := pc_v4) zby rfl f36 ?_)
    refine zbt rfl rfl (zed hc21) (OpY.neq (x := (pc.Children.length : Int)) (y := 2) (((pc.Children.length : Int) : Int) ≠ 2) rfl rfl zbd ?_)
    refine zag (zcv (t := (decide ((pc.At : Int) ≥ x14.e1))) (v := (zab (decide (((pc.Children.length : Int) : Int) ≠ 2)))) rfl (zed hc21) rfl (zan ?_))
    have hp16 := hL35.pick [1, 0] rfl rfl rfl
    have hL37 : vL w w157 [some b1, some b6] [zac [c_v, c_v1, c_v2, c_v3, c_v4, c_v5, c_v6], zac [(zI pc.Kind), (zI pc.Var), (zI pc.At), pc_v, pc_v1, (zab pc.Proof.Bound.Negative), pc_v2, pc_v3, pc_v4]] := hp16.1
    have K38 := ks w hp16.2
    obtain rfl := zah h
    refine zaq ?_
    exact ⟨(decide (((pc.Children.length : Int) : Int) ≠ 2)), _, rfl, (zeg ⟨rfl, rfl, rfl, rfl, rfl, rfl, trivial⟩), hL37, (zao (zao K31 K36) K38), trivial⟩
   rintro _ w158 ⟨x11, u, rfl, rfl, hL38, K39, -⟩
   replace h := g10
   try dsimp only at h
   refine zcq x11 rfl (fun hc22 => ?_) (fun hc22 => ?_)
   ·
    replace h := ite_t hc22 h
    refine zaj (zaf rfl (zag (zak (v := zF) rfl ?_)))
    refine zan (zbi ?_)
    obtain rfl := zah h
    refine ⟨[zF], zrt, ⟨_, rfl, hL38.done, ?_⟩⟩
    exact zrt
   replace h := ite_f hc22 h
   refine zbf (zaj (zaf rfl (zag (zai (v := ranges_v) rfl ?_))))
   cases h
  replace h := ite_f hc17 h
  refine zbf (zbn (zaj (zaf rfl (zag (zak (v := zF) rfl ?_)))))
  refine zan (zbi ?_)
  obtain rfl := zah h
  refine ⟨[zF], zrt, ⟨_, rfl, hL8.done, ?_⟩⟩
  exact zrt
theorem vCheck_w (N : Nat) (l : (List RVar)) (c : RClause) (pc : Refut) (l_v : Value) (c_v : Value) (c_v1 : Value) (c_v2 : Value) (c_v3 : Value) (c_v4 : Value) (c_v5 : Value) (c_v6 : Value) (pc_v : Value) (pc_v1 : Value) (pc_v2 : Value) (pc_v3 : Value) (pc_v4 : Value) (w : World) (S : Nat → Prop) (l_h : Rs rRVar (vH w S [] w) l_v l) (c_h : Rs rI (vH w S [] w) c_v c.Null) (c_h1 : Rs rI (vH w S [] w) c_v1 c.NotNull) (c_h2 : Rs rRAux (vH w S [] w) c_v2 c.Auxiliary) (c_h3 : Rs rConstraint (vH w S [] w) c_v3 c.Ints) (c_h4 : Rs rTTest (vH w S [] w) c_v4 c.Tests) (c_h5 : Rs rArr2Int (vH w S [] w) c_v5 c.Same) (c_h6 : Rs rArr2Int (vH w S [] w) c_v6 c.Different) (pc_h : Rs rStep (vH w S [] w) pc_v pc.Proof.Steps) (pc_h1 : Rs rBig (vH w S [] w) pc_v1 pc.Proof.Form) (pc_h2 : Rs (rInt .u32) (vH w S [] w) pc_v2 pc.Proof.Bound.Digits) (pc_h3 : Rs rProof (vH w S [] w) pc_v3 pc.Proof.Children) (pc_h4 : Rs rRefut (vH w S [] w) pc_v4 pc.Children) (r : Bool) (h : vCheck N l c pc = some r) :
  Calls Tryz.prog 29 #[l_v, (zap #[c_v, c_v1, c_v2, c_v3, c_v4, c_v5, c_v6]), (zap #[(zI pc.Kind), (zI pc.Var), (zI pc.At), pc_v, pc_v1, (zab pc.Proof.Bound.Negative), pc_v2, pc_v3, pc_v4])] w (Ret w (fun v w' => (zab r) = v ∧ True)) := by
 unfold vCheck at h
 have hL : vL w w [] [] := Go.X.Loc.begin0 w
 refine calls_of (l := [l_v, (zap #[c_v, c_v1, c_v2, c_v3, c_v4, c_v5, c_v6]), (zap #[(zI pc.Kind), (zI pc.Var), (zI pc.At), pc_v, pc_v1, (zab pc.Proof.Bound.Negative), pc_v2, pc_v3, pc_v4])]) (rl := [.tmp 6]) (n := 13) Tryz.func29 rfl rfl rfl (zae rfl) ?_
 refine zaj (zaf rfl (zag (zdj (cs := [c_v, c_v1, c_v2, c_v3, c_v4, c_v5, c_v6]) rfl rfl hL ?_)))
 intro b1 w2 hL3 hS5
 have K4 := ks w hS5
 refine zag (zdj (cs := [(zI pc.Kind), (zI pc.Var), (zI pc.At), pc_v, pc_v1, (zab pc.Proof.Bound.Negative), pc_v2, pc_v3, pc_v4]) rfl rfl hL3 ?_)
 intro b6 w7 hL8 hS10
 have K9 := ks w hS10
 refine zag (zak (v := zF) rfl ?_)
 refine zan (zaj ?_)
 obtain ⟨r10, q10, h⟩ := zec h
 refine zcj 5 [] [] (fun W1 => [.det l_v, .det (zap #[c_v, c_v1, c_v2, c_v3, c_v4, c_v5, c_v6]), .det (zap #[(zI pc.Kind), (zI pc.Var), (zI pc.At), pc_v, pc_v1, (zab pc.Proof.Bound.Negative), pc_v2, pc_v3, pc_v4]), .det l_v, .rel (fun v Z w' => ∃ ob10 cap10 cs10 sp10, (zO ob10 r10 cap10) = v ∧ OwnC w' ob10 (zac ([] ++ (cs10 ++ sp10))) ∧ Els rArr2Int (vZ W1 w None [some b6, some b1] Z w') cs10 r10 ∧ (cs10 ++ sp10 : List Value).length = cap10 * rArr2Int.sz ∧ True) footV]) mixed rfl rfl rfl (fun _ => rfl) (fun _ => rfl) ?_ ?_
 ·
  intro W1 _
  exact ⟨fun v Z Z' w w' hΦ hz _ _ hs => by obtain ⟨ob10, cap10, cs10, sp10, rfl, hO10, hE10, hc10, -⟩ := hΦ; exact ⟨ob10, cap10, cs10, sp10, rfl, (hO10.stay (fun b hb => (zep (ob := ob10) (o := 0) (n := r10.length) (cap := cap10)).2 (by rw [hb]; exact zbm)) hs), (hE10.mono (zdo hz hs)), hc10, trivial⟩, trivial⟩
 intro w10 hE11
 obtain ⟨hL10, K10⟩ := zl hL8 hE11
 refine zat (fun _ _ => zaw (zai rfl (er rfl))) ?_
 refine zat (fun _ hE13 => zaw (zbj (vs := [c_v, c_v1, c_v2, c_v3, c_v4, c_v5, c_v6]) zct rfl ti29 rfl ((hL10.ext hE13).at 1 rfl rfl) rfl rfl (er rfl))) ?_
 refine zat (fun _ hE14 => zaw (zbj (vs := [(zI pc.Kind), (zI pc.Var), (zI pc.At), pc_v, pc_v1, (zab pc.Proof.Bound.Negative), pc_v2, pc_v3, pc_v4]) zaz rfl ti73 rfl ((hL10.ext hE14).at 0 rfl rfl) rfl rfl (er rfl))) ?_
 refine zat (fun _ _ => zaw (zai rfl (er rfl))) ?_
 refine zdq ?_ ?_
 ·
  rintro w15 Z24 hE16 hZ14 ⟨-⟩
  have K11 := ke hL10 hE16
  refine zaw (zay en61 rfl rfl (vfirst_w N l l_v _ Any (((((l_h.mono (K4 S)).mono (K9 S)).mono (K10 S)).mono (K11 S)).mono vw_any) r10 q10) ?_)
  rintro _ w16 hE17 ⟨ob10, cap10, cs10, sp10, rfl, hN10, hE10, hc10, -⟩
  exact zdf hE17 hZ14 hN10 (fun b hb => footV_osv.1 hb) ⟨ob10, cap10, cs10, sp10, rfl, hN10.2.2.1, (hE10.mono zdr), hc10, trivial⟩
 intro z4
 refine zcx ?_
 rintro w17 Z25 hE18 hZ15 ⟨⟨⟨ob10, cap10, cs10, sp10, rfl, hO10, hE10, hc10, -⟩, hB4⟩, -⟩ ap10
 have hB10 : ∀ b, some b ∈ ([ob10] : List (Option Nat)) → w10.heap.size ≤ b ∧ ¬ Z25 b := by
  intro b hb
  rcases List.mem_cons.1 hb with hb' | hb
  ·
   have := hB4 b ((zep (ob := ob10) (o := 0) (n := r10.length) (cap := cap10)).2 (by rw [hb']; exact zbm)); exact ⟨this.1, this.2.2⟩
  cases hb
 replace hE10 := hE10.mono (zdw hL10 hZ15 hB10)
 have hN11 : NewOwn w10 w17 [ob10] [zac ([] ++ (cs10 ++ sp10))] := (zdt zco hO10 (fun b hb => (hB10 b (by rw [← hb]; simp)).1) (fun b _ hb => by cases hb))
 have hp10 := hL10.adoptL hE18 hN11
 have hL13 := hp10.1
 have K12 := ks w hp10.2
 obtain ⟨r11, q11, h⟩ := zec h
 have f10 := ((((l_h.mono (K4 S)).mono (K9 S)).mono (K10 S)).mono (K12 S))
 have f11 := ((((c_h.mono (K4 S)).mono (K9 S)).mono (K10 S)).mono (K12 S))
 have f12 := ((((c_h1.mono (K4 S)).mono (K9 S)).mono (K10 S)).mono (K12 S))
 have f13 := ((((c_h2.mono (K4 S)).mono (K9 S)).mono (K10 S)).mono (K12 S))
 have f14 := ((((c_h3.mono (K4 S)).mono (K9 S)).mono (K10 S)).mono (K12 S))
 have f15 := ((((c_h4.mono (K4 S)).mono (K9 S)).mono (K10 S)).mono (K12 S))
 have f16 := ((((c_h5.mono (K4 S)).mono (K9 S)).mono (K10 S)).mono (K12 S))
 have f17 := ((((c_h6.mono (K4 S)).mono (K9 S)).mono (K10 S)).mono (K12 S))
 have f18 := ((((pc_h.mono (K4 S)).mono (K9 S)).mono (K10 S)).mono (K12 S))
 have f19 := ((((pc_h1.mono (K4 S)).mono (K9 S)).mono (K10 S)).mono (K12 S))
 have f20 := ((((pc_h2.mono (K4 S)).mono (K9 S)).mono (K10 S)).mono (K12 S))
 have f21 := ((((pc_h3.mono (K4 S)).mono (K9 S)).mono (K10 S)).mono (K12 S))
 have f22 := ((((pc_h4.mono (K4 S)).mono (K9 S)).mono (K10 S)).mono (K12 S))
 refine zag (zay en60 rfl rfl (vcheck_w N l c pc r10 l_v c_v c_v1 c_v2 c_v3 c_v4 c_v5 c_v6 pc_v pc_v1 pc_v2 pc_v3 pc_v4 (zO ob10 r10 cap10) _ Any (f10.mono vw_any) (f11.mono vw_any) (f12.mono vw_any) (f13.mono vw_any) (f14.mono vw_any) (f15.mono vw_any) (f16.mono vw_any) (f17.mono vw_any) (f18.mono vw_any) (f19.mono vw_any) (f20.mono vw_any) (f21.mono vw_any) (f22.mono vw_any) (zel (pre := []) (o := 0) (n := r10.length) (cap := cap10) (hL13.at 0 rfl rfl) hE10 vw_any rfl rfl rfl hc10) r11 q11) ?_)
 rintro _ w18 hE19 ⟨rfl, -⟩
 have hL14 := hL13.ext hE19
 refine zag (zak (v := (zab r11)) rfl ?_)
 refine zan (zbi ?_)
 obtain rfl := zah h
 refine ⟨[(zab r11)], zrt, ⟨_, rfl, hL14.done, ?_⟩⟩
 exact zrt
theorem vSize_w (N : Nat) : ∀ (pa : Refut) (pa_v : Value) (pa_v1 : Value) (pa_v2 : Value) (pa_v3 : Value) (pa_v4 : Value) (w : World) (S : Nat → Prop) (pa_h : Rs rStep (vH w S [] w) pa_v pa.Proof.Steps) (pa_h1 : Rs rBig (vH w S [] w) pa_v1 pa.Proof.Form) (pa_h2 : Rs (rInt .u32) (vH w S [] w) pa_v2 pa.Proof.Bound.Digits) (pa_h3 : Rs rProof (vH w S [] w) pa_v3 pa.Proof.Children) (pa_h4 : Rs rRefut (vH w S [] w) pa_v4 pa.Children) (r : Int) (h : vSize N pa = some r), Calls Tryz.prog 31 #[(zap #[(zI pa.Kind), (zI pa.Var), (zI pa.At), pa_v, pa_v1, (zab pa.Proof.Bound.Negative), pa_v2, pa_v3, pa_v4])] w (Ret w (fun v w' => (zI r) = v ∧ True)) := by
 induction N with
 | zero => intro pa pa_v pa_v1 pa_v2 pa_v3 pa_v4 w S pa_h pa_h1 pa_h2 pa_h3 pa_h4 r h; cases (show (none : Option Int) = some r from h)
 | succ N ih =>
  intro pa pa_v pa_v1 pa_v2 pa_v3 pa_v4 w S pa_h pa_h1 pa_h2 pa_h3 pa_h4 r h
  replace h : vSize_step N (vSize N) pa = some r := h
  unfold vSize_step at h
  have hL : vL w w [] [] := Go.X.Loc.begin0 w
  refine calls_of (l := [(zap #[(zI pa.Kind), (zI pa.Var), (zI pa.At), pa_v, pa_v1, (zab pa.Proof.Bound.Negative), pa_v2, pa_v3, pa_v4])]) (rl := [.tmp 2]) (n := 30) Tryz.func31 rfl rfl rfl (zae rfl) ?_
  refine zaj (zaf rfl (zag (zdj (cs := [(zI pa.Kind), (zI pa.Var), (zI pa.At), pa_v, pa_v1, (zab pa.Proof.Bound.Negative), pa_v2, pa_v3, pa_v4]) rfl rfl hL ?_)))
  intro b1 w2 hL3 hS5
  have K4 := ks w hS5
  refine zag (zak (v := (zI 0)) rfl ?_)
  refine zan (zaj (zaf rfl (zag (zak (v := (zI 1)) rfl ?_))))
  refine zan (zaj (zaj (zaf rfl (zag (zam (q := 0) zaz rfl ti3 rfl rfl rfl ?_)))))
  refine zag (zau (v := (zI pa.Kind)) zax rfl rfl (hL3.at 0 rfl rfl) rfl ?_)
  refine zan (zbb (zaj (zaf rfl (zag (zdp (x := pa.Kind) (y := 2) ((pa.Kind : Int) = 2) rfl rfl zbd ?_)))))
  refine zag (zak (v := (zab (decide ((pa.Kind : Int) = 2)))) rfl (zan ?_))
  refine zba ((pa.Kind : Int) = 2) rfl (fun hc6 => ?_) (fun hc6 => ?_)
  ·
   replace h := ite_t hc6 h
   refine zaf rfl (zag (zai (v := (zI 1)) rfl ?_))
   refine zag (zam (q := 3) zaz rfl ti70 rfl rfl rfl ?_)
   refine zag (zbj (vs := [pa_v, pa_v1, (zab pa.Proof.Bound.Negative), pa_v2, pa_v3]) zbk rfl ti70 rfl (hL3.at 0 rfl rfl) rfl rfl ?_)
   obtain ⟨r7, q8, h⟩ := zec h
   have f10 := (pa_h.mono (K4 S))
   have f11 := (pa_h1.mono (K4 S))
   have f12 := (pa_h2.mono (K4 S))
   have f13 := (pa_h3.mono (K4 S))
   refine zag (zay en65 rfl rfl (cSize_w N pa.Proof pa_v pa_v1 pa_v2 pa_v3 _ Any (f10.mono vw_any) (f11.mono vw_any) (f12.mono vw_any) (f13.mono vw_any) r7 q8) ?_)
   rintro _ w10 hE10 ⟨rfl, -⟩
   have hL10 := hL3.ext hE10
   refine zag (zbz (x := 1) (y := r7) (z := (iw (1 + r7))) rfl rfl rfl ?_)
   refine zag (zak (v := (zI (iw (1 + r7)))) rfl ?_)
   refine zan (zbn (zaj (zaf rfl (zag (zai (v := (zI (iw (1 + r7)))) rfl ?_)))))
   refine zag (zak (v := (zI (iw (1 + r7)))) rfl ?_)
   refine zan (zbi ?_)
   obtain rfl := zah h
   refine ⟨[(zI (iw (1 + r7)))], zrt, ⟨_, rfl, hL10.done, ?_⟩⟩
   exact zrt
  replace h := ite_f hc6 h
  refine zaj (zaf rfl (zag (zdp (x := pa.Kind) (y := 3) ((pa.Kind : Int) = 3) rfl rfl zbd ?_)))
  refine zag (zak (v := (zab (decide ((pa.Kind : Int) = 3)))) rfl (zan ?_))
  refine zba ((pa.Kind : Int) = 3) rfl (fun hc10 => ?_) (fun hc10 => ?_)
  ·
   replace h := ite_t hc10 h
   refine zaj (zaf rfl (zag (zam (q := 8) zaz rfl ti71 rfl rfl rfl ?_)))
   refine zag (zau (v := pa_v4) zby rfl rfl (hL3.at 0 rfl rfl) rfl ?_)
   have f14 := (pa_h4.mono (K4 S))
   refine zag (zbc (v := pa_v4) zby rfl f14 ?_)
   refine zag (zai (v := (zI 0)) rfl (zan ?_))
   obtain ⟨s10, hl10, g10⟩ := zec h
   refine zbs (fun e w' => ∃ (n10 : Int) (u : Env), n10 = s10 ∧ e = upds [(3, (zI n10))] u ∧ vL w w' [] [] ∧ Keep w.heap.size [some b1] w2 [] w' ∧ True) ?_ ?_
   ·
    refine zbb ?_
    have hp10 := hL3.pick [] rfl rfl rfl
    have hL11 : vL w w2 [] [] := hp10.1
    have K10 := ks w hp10.2
    refine zcb hl10 (fun (ss : (Int × Int)) (e : Env) (w' : World) => match ss with | (n11, x10) => ∃ (u : Env), e = upds [(3, (zI n11)), (18, pa_v4), (19, (zI (pa.Children.length : Int))), (20, (zI x10))] u ∧ vL w w' [] [] ∧ Keep w.heap.size [some b1] w2 [] w' ∧ True) ⟨_, (zeg ⟨rfl, rfl, rfl, rfl, trivial⟩), hL11, K10, trivial⟩ ?_
    rintro ⟨n11, x10⟩ oo _ w11 ⟨u, rfl, hL12, K11, -⟩ h hd10
    rw [vSize_b1] at h
    refine zaj (zaf rfl (zag (zci (x := x10) (y := (pa.Children.length : Int)) ((x10 : Int) < (pa.Children.length : Int)) rfl rfl zbd ?_)))
    refine zan (zaj ?_)
    refine zba ((x10 : Int) < (pa.Children.length : Int)) rfl (fun hc11 => ?_) (fun hc11 => ?_)
    ·
     replace h := ite_t hc11 h
     refine zbf (zaj (zbb (zaj (zaf rfl ?_))))
     obtain ⟨x11, n12, q11, q12, -, h⟩ := zix h
     have f15 := (f14.mono (K11 S))
     obtain ⟨b10, o10, c10, vs10, q13, q14, f16, q15⟩ := zcw f15 q12
     obtain ⟨v10, v11, v12, v13, v14, rfl, k10, k11, k12, k13, k14, -⟩ := rRefut_open q15
     refine zag (zbp (r := rRefut) (v := pa_v4) (n := n12) (m := (o10 + n12 * rRefut.sz)) zby ti73 rfl q13 rfl q11 q12 rfl ?_)
     refine zag (zdl (vs := [(zI x11.Kind), (zI x11.Var), (zI x11.At), v10, v11, (zab x11.Proof.Bound.Negative), v12, v13, v14]) zaz rfl ti73 rfl rfl zek f16 ?_)
     refine zag (zbw (cs := [(zI 0), (zI 0), (zI 0), zN, zN, zF, zN, zN, zN]) ti73 rfl hL12 ?_)
     intro b11 w12 hL13 hS10
     have K12 := ks w hS10
     have f17 := (k14.mono (K12 S))
     have f18 := (k13.mono (K12 S))
     have f19 := (k12.mono (K12 S))
     have f20 := (k11.mono (K12 S))
     have f21 := (k10.mono (K12 S))
     refine zcf (zbo (vs := [(zI x11.Kind), (zI x11.Var), (zI x11.At), v10, v11, (zab x11.Proof.Bound.Negative), v12, v13, v14]) ti73 rfl rfl rfl rfl (zee rfl (zee rfl (zee rfl (zee f21.one (zee f20.one (zee rfl (zee f19.one (zee f18.one (zee f17.one zej))))))))) hL13 0 rfl rfl (zae rfl) ?_)
     intro w13 (hL14 : vL w w13 [some b11] [zac [(zI x11.Kind), (zI x11.Var), (zI x11.At), v10, v11, (zab x11.Proof.Bound.Negative), v12, v13, v14]]) hS11
     have K13 := ks w hS11
     refine zan (zaf rfl (zag (zai (v := (zI n11)) rfl ?_)))
     refine zag (zbj (vs := [(zI x11.Kind), (zI x11.Var), (zI x11.At), v10, v11, (zab x11.Proof.Bound.Negative), v12, v13, v14]) zaz rfl ti73 rfl (hL14.at 0 rfl rfl) rfl rfl ?_)
     obtain ⟨r10, q16, h⟩ := zec h
     have f22 := (f21.mono (K13 S))
     have f23 := (f20.mono (K13 S))
     have f24 := (f19.mono (K13 S))
     have f25 := (f18.mono (K13 S))
     have f26 := (f17.mono (K13 S))
     refine zag (zay en31 rfl rfl (ih x11 v10 v11 v12 v13 v14 _ Any (f22.mono vw_any) (f23.mono vw_any) (f24.mono vw_any) (f25.mono vw_any) (f26.mono vw_any) r10 q16) ?_)
     rintro _ w14 hE11 ⟨rfl, -⟩
     obtain ⟨hL15, K14⟩ := zl hL14 hE11
     refine zag (zbz (x := n11) (y := r10) (z := (iw (n11 + r10))) rfl rfl rfl ?_)
     refine zag (zak (v := (zI (iw (n11 + r10)))) rfl ?_)
     refine zan (zbn (zaf rfl (zag (zbz (x := x10) (y := 1) (z := (iw (x10 + 1))) rfl rfl rfl ?_))))
     refine zag (zai (v := (zI (iw (x10 + 1)))) rfl (zan ?_))
     have hp11 := hL15.pick [] rfl rfl rfl
     have hL16 : vL w w14 [] [] := hp11.1
     have K15 := ks w hp11.2
     obtain rfl := zah h
     refine zaq ⟨((iw (n11 + r10)), (iw (x10 + 1))), rfl, ?_⟩
     exact ⟨_, (zeg ⟨rfl, rfl, rfl, rfl, trivial⟩), hL16, (zao (zao (zao (zao K11 K12) K13) K14) K15), trivial⟩
    replace h := ite_f hc11 h
    refine zck rfl ?_
    obtain rfl := zah h
    obtain rfl := hd10 _ rfl
    replace h := g10
    try dsimp only at h
    refine zaq ?_
    exact ⟨n11, _, rfl, (zeg zrt), hL12, K11, trivial⟩
   rintro _ w15 ⟨n10, u, rfl, rfl, hL17, K16, -⟩
   replace h := g10
   try dsimp only at h
   refine zbn (zaj (zaf rfl (zag (zai (v := (zI n10)) rfl ?_))))
   refine zag (zak (v := (zI n10)) rfl ?_)
   refine zan (zbi ?_)
   obtain rfl := zah h
   refine ⟨[(zI n10)], zrt, ⟨_, rfl, hL17.done, ?_⟩⟩
   exact zrt
  replace h := ite_f hc10 h
  refine zbf (zbn (zaj (zaf rfl (zag (zai (v := (zI 1)) rfl ?_)))))
  refine zag (zak (v := (zI 1)) rfl ?_)
  refine zan (zbi ?_)
  obtain rfl := zah h
  refine ⟨[(zI 1)], zrt, ⟨_, rfl, hL3.done, ?_⟩⟩
  exact zrt
theorem vFormat_w (N : Nat) : ∀ (pa : Refut) (pa_v : Value) (pa_v1 : Value) (pa_v2 : Value) (pa_v3 : Value) (pa_v4 : Value) (w : World) (S : Nat → Prop) (hG : G w) (pa_h : Rs rStep (vH w S [] w) pa_v pa.Proof.Steps) (pa_h1 : Rs rBig (vH w S [] w) pa_v1 pa.Proof.Form) (pa_h2 : Rs (rInt .u32) (vH w S [] w) pa_v2 pa.Proof.Bound.Digits) (pa_h3 : Rs rProof (vH w S [] w) pa_v3 pa.Proof.Children) (pa_h4 : Rs rRefut (vH w S [] w) pa_v4 pa.Children) (r : (List UInt8)) (h : vFormat N pa = some r), Calls Tryz.prog 33 #[(zap #[(zI pa.Kind), (zI pa.Var), (zI pa.At), pa_v, pa_v1, (zab pa.Proof.Bound.Negative), pa_v2, pa_v3, pa_v4])] w (Ret w (fun v w' => (zS r) = v ∧ True)) := by
 induction N with
 | zero => intro pa pa_v pa_v1 pa_v2 pa_v3 pa_v4 w S hG pa_h pa_h1 pa_h2 pa_h3 pa_h4 r h; cases (show (none : Option (List UInt8)) = some r from h)
 | succ N ih =>
  intro pa pa_v pa_v1 pa_v2 pa_v3 pa_v4 w S hG pa_h pa_h1 pa_h2 pa_h3 pa_h4 r h
  replace h : vFormat_step N (vFormat N) pa = some r := h
  unfold vFormat_step at h
  have hL : vL w w [] [] := Go.X.Loc.begin0 w
  refine calls_of (l := [(zap #[(zI pa.Kind), (zI pa.Var), (zI pa.At), pa_v, pa_v1, (zab pa.Proof.Bound.Negative), pa_v2, pa_v3, pa_v4])]) (rl := [.tmp 2]) (n := 49) Tryz.func33 rfl rfl rfl (zae rfl) ?_
  refine zaj (zaf rfl (zag (zdj (cs := [(zI pa.Kind), (zI pa.Var), (zI pa.At), pa_v, pa_v1, (zab pa.Proof.Bound.Negative), pa_v2, pa_v3, pa_v4]) rfl rfl hL ?_)))
  intro b1 w2 hL3 hS5
  have K4 := ks w hS5
  refine zag (zak (v := (zS ([] : List UInt8))) rfl ?_)
  refine zan (zaj (zaj (zaf rfl (zag (zam (q := 0) zaz rfl ti3 rfl rfl rfl ?_)))))
  refine zag (zau (v := (zI pa.Kind)) zax rfl rfl (hL3.at 0 rfl rfl) rfl ?_)
  refine zan (zbb (zaj (zaf rfl (zag (zdp (x := pa.Kind) (y := 0) ((pa.Kind : Int) = 0) rfl rfl zbd ?_)))))
  refine zag (zak (v := (zab (decide ((pa.Kind : Int) = 0)))) rfl (zan ?_))
  refine zba ((pa.Kind : Int) = 0) rfl (fun hc6 => ?_) (fun hc6 => ?_)
  ·
   replace h := ite_t hc6 h
   refine zaj (zaf rfl (zag (zam (q := 1) zaz rfl ti3 rfl rfl rfl ?_)))
   refine zag (zau (v := (zI pa.Var)) zax rfl rfl (hL3.at 0 rfl rfl) rfl ?_)
   obtain ⟨r7, q8, h⟩ := zec h
   refine zag (zay en67 rfl rfl (fmtI_w N pa.Var _ Any (hG.ext hL3.done) r7 q8) ?_)
   rintro _ w10 hE10 ⟨rfl, -⟩
   have hL10 := hL3.ext hE10
   obtain ⟨u10, q10, h⟩ := zec h
   have q11 := zer q10
   refine zag (zdy (x := ([110, 117, 108, 108, 32, 120] : List UInt8)) (y := r7) rfl rfl q11 ?_)
   refine zag (zak (v := (zbe (s8 (([110, 117, 108, 108, 32, 120] : List UInt8) ++ r7)))) rfl ?_)
   refine zan (zbi ?_)
   obtain rfl := zah h
   refine ⟨[(zbe (s8 (([110, 117, 108, 108, 32, 120] : List UInt8) ++ r7)))], zrt, ⟨_, rfl, hL10.done, ?_⟩⟩
   exact zrt
  replace h := ite_f hc6 h
  refine zaj (zaf rfl (zag (zdp (x := pa.Kind) (y := 1) ((pa.Kind : Int) = 1) rfl rfl zbd ?_)))
  refine zag (zak (v := (zab (decide ((pa.Kind : Int) = 1)))) rfl (zan ?_))
  refine zba ((pa.Kind : Int) = 1) rfl (fun hc10 => ?_) (fun hc10 => ?_)
  ·
   replace h := ite_t hc10 h
   refine zaj (zaf rfl (zag (zak (v := (zS ([116, 101, 120, 116] : List UInt8))) rfl ?_)))
   refine zan (zbi ?_)
   obtain rfl := zah h
   refine ⟨[(zS ([116, 101, 120, 116] : List UInt8))], zrt, ⟨_, rfl, hL3.done, ?_⟩⟩
   exact zrt
  replace h := ite_f hc10 h
  refine zaj (zaf rfl (zag (zdp (x := pa.Kind) (y := 2) ((pa.Kind : Int) = 2) rfl rfl zbd ?_)))
  refine zag (zak (v := (zab (decide ((pa.Kind : Int) = 2)))) rfl (zan ?_))
  refine zba ((pa.Kind : Int) = 2) rfl (fun hc11 => ?_) (fun hc11 => ?_)
  ·
   replace h := ite_t hc11 h
   refine zaj (zaf rfl (zag (zam (q := 3) zaz rfl ti70 rfl rfl rfl ?_)))
   refine zag (zbj (vs := [pa_v, pa_v1, (zab pa.Proof.Bound.Negative), pa_v2, pa_v3]) zbk rfl ti70 rfl (hL3.at 0 rfl rfl) rfl rfl ?_)
   obtain ⟨r10, q12, h⟩ := zec h
   have f10 := (pa_h.mono (K4 S))
   have f11 := (pa_h1.mono (K4 S))
   have f12 := (pa_h2.mono (K4 S))
   have f13 := (pa_h3.mono (K4 S))
   refine zag (zay en65 rfl rfl (cSize_w N pa.Proof pa_v pa_v1 pa_v2 pa_v3 _ Any (f10.mono vw_any) (f11.mono vw_any) (f12.mono vw_any) (f13.mono vw_any) r10 q12) ?_)
   rintro _ w11 hE11 ⟨rfl, -⟩
   have hL11 := hL3.ext hE11
   obtain ⟨r11, q13, h⟩ := zec h
   refine zag (zay en67 rfl rfl (fmtI_w N r10 _ Any (hG.ext hL11.done) r11 q13) ?_)
   rintro _ w12 hE12 ⟨rfl, -⟩
   have hL12 := hL11.ext hE12
   obtain ⟨u11, q14, h⟩ := zec h
   have q15 := zer q14
   refine zag (zdy (x := ([105, 110, 116, 101, 103, 101, 114, 115, 32] : List UInt8)) (y := r11) rfl rfl q15 ?_)
   refine zag (zak (v := (zbe (s8 (([105, 110, 116, 101, 103, 101, 114, 115, 32] : List UInt8) ++ r11)))) rfl ?_)
   refine zan (zbi ?_)
   obtain rfl := zah h
   refine ⟨[(zbe (s8 (([105, 110, 116, 101, 103, 101, 114, 115, 32] : List UInt8) ++ r11)))], zrt, ⟨_, rfl, hL12.done, ?_⟩⟩
   exact zrt
  replace h := ite_f hc11 h
  refine zaj (zaf rfl (zag (zdp (x := pa.Kind) (y := 3) ((pa.Kind : Int) = 3) rfl rfl zbd ?_)))
  refine zag (zak (v := (zab (decide ((pa.Kind : Int) = 3)))) rfl (zan ?_))
  refine zba ((pa.Kind : Int) = 3) rfl (fun hc12 => ?_) (fun hc12 => ?_)
  ·
   replace h := ite_t hc12 h
   refine zaj (zaf rfl (zag (OpY.newBl ?_)))
   intro b10 w13 hE13 hB10
   have hL13 := hL3.ext hE13
   refine zan (zaj ?_)
   obtain ⟨r12, q16, h⟩ := zec h
   obtain ⟨u12, q17, h⟩ := zec h
   have q18 := zer q17
   obtain ⟨u13, q19, h⟩ := zec h
   have q20 := zer q19
   obtain ⟨r13, q21, h⟩ := zec h
   refine zcj 8 [] [] (fun W1 => [.det (zal (some ⟨b1, 1, none⟩)), .det (zI pa.Var), .det (zS r12), .det (zbe (s8 (([108, 101, 110, 103, 116, 104, 32, 120] : List UInt8) ++ r12))), .det (zbe (s8 ((([108, 101, 110, 103, 116, 104, 32, 120] : List UInt8) ++ r12) ++ ([32, 60, 61, 32] : List UInt8)))), .det (zal (some ⟨b1, 2, none⟩)), .det (zI pa.At), .det (zS r13)]) mixed rfl rfl rfl (fun _ => rfl) (fun _ => rfl) ?_ ?_
   ·
    intro W1 _
    exact trivial
   intro w14 hE14
   have hL14 := hL13.ext hE14
   refine zat (fun _ _ => zaw (zam zaz rfl ti3 rfl rfl rfl (er rfl))) ?_
   refine zat (fun _ hE16 => zaw (zau zax rfl rfl ((hL14.ext hE16).at 0 rfl rfl) rfl (er rfl))) ?_
   refine DrH.det ?_ ?_
   ·
    rintro w17 Z21 hE17 hZ12 ⟨-⟩
    refine zaw (zay en67 rfl rfl (fmtI_w N pa.Var _ Any (hG.ext (hL14.done.trans hE17)) r12 q16) ?_)
    rintro _ w18 hE18 ⟨rfl, -⟩
    exact ⟨hE18, rfl⟩
   refine zat (fun _ _ => zaw (zdy (x := ([108, 101, 110, 103, 116, 104, 32, 120] : List UInt8)) (y := r12) rfl rfl q18 (er rfl))) ?_
   refine zat (fun _ _ => zaw (zdy (x := (([108, 101, 110, 103, 116, 104, 32, 120] : List UInt8) ++ r12)) (y := ([32, 60, 61, 32] : List UInt8)) rfl rfl q20 (er rfl))) ?_
   refine zat (fun _ _ => zaw (zam zaz rfl ti3 rfl rfl rfl (er rfl))) ?_
   refine zat (fun _ hE22 => zaw (zau zax rfl rfl ((hL14.ext hE22).at 0 rfl rfl) rfl (er rfl))) ?_
   refine DrH.det ?_ ?_
   ·
    rintro w23 Z27 hE23 hZ17 ⟨-⟩
    refine zaw (zay en67 rfl rfl (fmtI_w N pa.At _ Any (hG.ext (hL14.done.trans hE23)) r13 q21) ?_)
    rintro _ w24 hE24 ⟨rfl, -⟩
    exact ⟨hE24, rfl⟩
   refine zcx ?_
   rintro w25 Z28 hE25 hZ18 ⟨-⟩ ap10
   have hB11 := @zhb w14 Z28
   have hL17 := hL14.ext hE25
   obtain ⟨u14, q22, h⟩ := zec h
   have q23 := zer q22
   refine zag (zdy (x := ((([108, 101, 110, 103, 116, 104, 32, 120] : List UInt8) ++ r12) ++ ([32, 60, 61, 32] : List UInt8))) (y := r13) rfl rfl q23 ?_)
   obtain ⟨z0, qz0, h⟩ := zec h
   refine zag (OpY.wrBl en68 rfl rfl rfl ((hB10.ext hE14).ext hE25) qz0 ?_)
   intro v0_ wB hBl1 hW1
   refine zan ?_
   have hsz : w.heap.size ≤ w2.heap.size := hL3.size
   have hO1 := (hL17.at 0 rfl rfl).same (w' := wB) (fun k hk => hW1.block k (hL3.own.lt k (by rw [← hk]; exact zbm)))
   have hX1 : Ext w wB := Below.trans hL17.done (hW1.mono hsz)
   refine zaj (zaj (zaf rfl (zag (zam (q := 8) zaz rfl ti71 rfl rfl rfl ?_))))
   refine zag (zau (v := pa_v4) zby rfl rfl hO1 rfl ?_)
   have fB_ := pa_h4.mono (Hv.ext hX1)
   refine zag (zbc (v := pa_v4) zby rfl fB_ ?_)
   refine zag (zai (v := (zI 0)) rfl (zan ?_))
   obtain ⟨s1_, hl_, g_⟩ := zec h
   refine zbs (fun e w' => ∃ (z : List UInt8) (u : Env), z = s1_ ∧ e = upds [(3, (zal (some ⟨b10, 0, none⟩)))] u ∧ Ext w w' ∧ Bl w2.heap.size b10 z w' ∧ True) ?_ ?_
   ·
    refine zbb ?_
    refine zcb hl_ (fun (ss : (List UInt8 × Int)) (e : Env) (w' : World) => match ss with | (z, x) => ∃ (u : Env), e = upds [(3, (zal (some ⟨b10, 0, none⟩))), (36, pa_v4), (37, (zI (pa.Children.length : Int))), (38, (zI x))] u ∧ Ext w w' ∧ Bl w2.heap.size b10 z w' ∧ True) ⟨_, (zeg ⟨rfl, rfl, rfl, rfl, trivial⟩), hX1, hBl1, trivial⟩ ?_
    rintro ⟨z, x⟩ oo _ wC ⟨u, rfl, hXC, hBC, -⟩ h hd_
    rw [vFormat_b1] at h
    refine zaj (zaf rfl (zag (zci (x := x) (y := (pa.Children.length : Int)) ((x : Int) < (pa.Children.length : Int)) rfl rfl zbd ?_)))
    refine zan (zaj ?_)
    refine zba ((x : Int) < (pa.Children.length : Int)) rfl (fun hc_ => ?_) (fun hc_ => ?_)
    ·
     replace h := ite_t hc_ h
     refine zbf (zaj (zbb (zaj (zaf rfl ?_))))
     obtain ⟨y, n_, q2_, q3_, -, h⟩ := zix h
     have f1_ := pa_h4.mono (Hv.ext hXC)
     obtain ⟨b_, o_, c_, vs_, q4_, q5_, f2_, q6_⟩ := zcw f1_ q3_
     obtain ⟨v0_, v1_, v2_, v3_, v4_, rfl, k0_, k1_, k2_, k3_, k4_, -⟩ := rRefut_open q6_
     have hLC := Go.X.Loc.begin0 wC
     refine zag (zbp (r := rRefut) (v := pa_v4) (n := n_) (m := (o_ + n_ * rRefut.sz)) zby ti73 rfl q4_ rfl q2_ q3_ rfl ?_)
     refine zag (zdl (vs := [(zI y.Kind), (zI y.Var), (zI y.At), v0_, v1_, (zab y.Proof.Bound.Negative), v2_, v3_, v4_]) zaz rfl ti73 rfl rfl zek f2_ ?_)
     refine zag (zbw (cs := [(zI 0), (zI 0), (zI 0), zN, zN, zF, zN, zN, zN]) ti73 rfl hLC ?_)
     intro b2_ w2_ hL2_ hS2_
     have K1_ := ks w hS2_
     refine zcf (zbo (vs := [(zI y.Kind), (zI y.Var), (zI y.At), v0_, v1_, (zab y.Proof.Bound.Negative), v2_, v3_, v4_]) ti73 rfl rfl rfl rfl (zee rfl (zee rfl (zee rfl (zee (k0_.mono (K1_ S)).one (zee (k1_.mono (K1_ S)).one (zee rfl (zee (k2_.mono (K1_ S)).one (zee (k3_.mono (K1_ S)).one (zee (k4_.mono (K1_ S)).one zej))))))))) hL2_ 0 rfl rfl (zae rfl) ?_)
     intro w3_ (hL3_ : Go.X.Loc [] [] wC w3_ [some b2_] [zac [(zI y.Kind), (zI y.Var), (zI y.At), v0_, v1_, (zab y.Proof.Bound.Negative), v2_, v3_, v4_]]) hS3_
     have K2_ := ks w hS3_
     refine zan (zaf rfl (zag (zbj (vs := [(zI y.Kind), (zI y.Var), (zI y.At), v0_, v1_, (zab y.Proof.Bound.Negative), v2_, v3_, v4_]) zaz rfl ti73 rfl (hL3_.at 0 rfl rfl) rfl rfl ?_)))
     obtain ⟨t, q7_, h⟩ := zec h
     refine zag (zay en33 rfl rfl (ih y v0_ v1_ v2_ v3_ v4_ _ Any (hG.ext ((hXC.trans hL3_.done))) (((k0_.mono (K1_ S)).mono (K2_ S)).mono vw_any) (((k1_.mono (K1_ S)).mono (K2_ S)).mono vw_any) (((k2_.mono (K1_ S)).mono (K2_ S)).mono vw_any) (((k3_.mono (K1_ S)).mono (K2_ S)).mono vw_any) (((k4_.mono (K1_ S)).mono (K2_ S)).mono vw_any) t q7_) ?_)
     rintro _ w4_ hE4_ ⟨rfl, -⟩
     have hE5_ : Ext wC w4_ := (hL3_.ext hE4_).done
     obtain ⟨u1_, q8_, h⟩ := zec h
     refine zag (zdy (x := ([32, 40] : List UInt8)) (y := t) rfl rfl (zer q8_) ?_)
     obtain ⟨u2_, q9_, h⟩ := zec h
     refine zag (zdy (x := (([32, 40] : List UInt8) ++ t)) (y := ([41] : List UInt8)) rfl rfl (zer q9_) ?_)
     obtain ⟨z1, q10_, h⟩ := zec h
     refine zag (OpY.wrBl en68 rfl rfl rfl (hBC.ext hE5_) q10_ ?_)
     intro v1_ wD hBD hWD
     refine zan (zbn (zaf rfl (zag (zbz (x := x) (y := 1) (z := (iw (x + 1))) rfl rfl rfl ?_))))
     refine zag (zai (v := (zI (iw (x + 1)))) rfl (zan ?_))
     obtain rfl := zah h
     refine zaq ⟨(z1, (iw (x + 1))), rfl, ?_⟩
     exact ⟨_, (zeg ⟨rfl, rfl, rfl, rfl, trivial⟩), Below.trans (hXC.trans hE5_) (hWD.mono hsz), hBD, trivial⟩
    replace h := ite_f hc_ h
    refine zck rfl ?_
    obtain rfl := zah h
    obtain rfl := hd_ _ rfl
    refine zaq ?_
    exact ⟨z, _, rfl, (zeg zrt), hXC, hBC, trivial⟩
   rintro _ wE ⟨z, u, rfl, rfl, hXE, hBE, -⟩
   replace h := g_
   refine zaj (zaf rfl (zag (OpY.rdBl en69 rfl rfl hBE ?_)))
   intro wF hWF
   refine zag (zak (v := (zS z)) rfl ?_)
   refine zan (zbi ?_)
   obtain rfl := zah h
   refine ⟨[(zS z)], zrt, ⟨_, rfl, Below.trans hXE (hWF.mono hsz), ?_⟩⟩
   exact zrt
  replace h := ite_f hc12 h
  refine zbf (zbn (zaj (zaf rfl (zag (zak (v := (zS ([105, 110, 118, 97, 108, 105, 100] : List UInt8))) rfl ?_)))))
  refine zan (zbi ?_)
  obtain rfl := zah h
  refine ⟨[(zS ([105, 110, 118, 97, 108, 105, 100] : List UInt8))], zrt, ⟨_, rfl, hL3.done, ?_⟩⟩
  exact zrt
end Go.Proofs.YtcakdidcpoolcaaGreatDoor.WV

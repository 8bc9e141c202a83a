/- Walks, written by a program of mine (wip/tool); the kernel checks them. -/
import Derived.Test.YtcakdidcpoolcaaGreatDoorProg
import Derived.Test.YtcakdidcpoolcaaGreatDoorSqInts
import Derived.Test.YtcakdidcpoolcaaGreatDoorF25
import Derived.Test.YtcakdidcpoolcaaGreatDoorPU
import Derived.Test.YtcakdidcpoolcaaGreatDoorWAInts
import Derived.Test.YtcakdidcpoolcaaGreatDoorWRInts
import Derived.Test.YtcakdidcpoolcaaGreatDoorWBInts
import Derived.Test.YtcakdidcpoolcaaGreatDoorWCInts
import Derived.Test.YtcakdidcpoolcaaGreatDoorWIInts
import Derived.Test.YtcakdidcpoolcaaGreatDoorWSInts
import Derived.Test.YtcakdidcpoolcaaGreatDoorWVInts
set_option maxRecDepth 100000
set_option maxHeartbeats 40000000
set_option linter.unusedVariables false
set_option linter.unusedSimpArgs false
namespace Go.Proofs.YtcakdidcpoolcaaGreatDoor.WU
open Go Go.RowKit Go.X Go.D Go.Proofs.YtcakdidcpoolcaaGreatDoor.WF Go.Proofs.YtcakdidcpoolcaaGreatDoor.WA Go.Proofs.YtcakdidcpoolcaaGreatDoor.WR Go.Proofs.YtcakdidcpoolcaaGreatDoor.WB Go.Proofs.YtcakdidcpoolcaaGreatDoor.WC Go.Proofs.YtcakdidcpoolcaaGreatDoor.WI Go.Proofs.YtcakdidcpoolcaaGreatDoor.WS Go.Proofs.YtcakdidcpoolcaaGreatDoor.WV
theorem en43 : Go.X.Enters Tryz.prog 43 := ⟨Tryz.f43, Tryz.func43, by kernel_rfl, by kernel_rfl⟩
theorem en44 : Go.X.Enters Tryz.prog 44 := ⟨Tryz.f44, Tryz.func44, by kernel_rfl, by kernel_rfl⟩
theorem en45 : Go.X.Enters Tryz.prog 45 := ⟨Tryz.f45, Tryz.func45, by kernel_rfl, by kernel_rfl⟩
theorem eq2_87 : Eq2 Tryz.prog 87 := ⟨by kernel_rfl, by kernel_rfl, by kernel_rfl, .i64, .i64, by kernel_rfl⟩
theorem watMost_w (N : Nat) (pa : Int) (n : Int) (c : Int)  (w : World) (S : Nat → Prop)  (r : Constraint) (h : watMost N pa n c = some r) :
  Calls Tryz.prog 43 #[(zI pa), (zI n), (zI c)] w (Ret w (fun v w' => ∃ (v0_0 : Value), (zar #[(zI r.Linear.Const), v0_0, (zab r.Equal)]) = v ∧ Rs rCoef (vH w None [] w') v0_0 r.Linear.Coefs ∧ True)) := by
 unfold watMost at h
 have hL : vL w w [] [] := Go.X.Loc.begin0 w
 refine calls_of (l := [(zI pa), (zI n), (zI c)]) (rl := [.cell 6 92]) (n := 14) Tryz.func43 rfl rfl rfl (zaf rfl) ?_
 refine zal (zah rfl (zag (zcl (cs := [(zI 0), zN, zF]) ti92 rfl hL ?_)))
 intro b1 w2 hL3 hS5
 refine zap (zal (zah rfl (zag (zai (v := (zI c)) rfl ?_))))
 refine zag (zai (v := (zI pa)) rfl ?_)
 refine zag (zai (v := (zI n)) rfl ?_)
 refine zag (zcm (zc := [(zI 0), (zI 0)]) (cs := [(zI pa), (zI n)]) (is := [0, 1]) (vs := [(zI pa), (zI n)]) (css := [[(zI pa)], [(zI n)]]) pl87 ti87 rfl rfl rfl ⟨rfl, rfl, trivial⟩ rfl ?_)
 have hE7 : Els rCoef (vH w None [some b1] w2) [(zI pa), (zI n)] [(Coef.mk pa n)] := (zdg (a := [(zI pa), (zI n)]) (rCoef_close ⟨rfl, trivial⟩) zdh)
 refine zag (zda (r := rCoef) (vs := [(zar #[(zI pa), (zI n)])]) (css := [[(zI pa), (zI n)]]) (xs := [(Coef.mk pa n)]) zay ti87 (zaf rfl) rfl rfl ⟨rfl, rfl, trivial⟩ (zaf rfl) hE7 rfl hL3 ?_)
 intro b6 w10 hc8 hL10 hS10
 have K10 := ks w hS10
 refine zag (zcm (zc := [(zI 0), zN]) (cs := [(zI c), (osv (some b6) 0 1 1)]) (is := [0, 1]) (vs := [(zI c), (osv (some b6) 0 1 1)]) (css := [[(zI c)], [(osv (some b6) 0 1 1)]]) pl90 ti90 rfl rfl rfl ⟨rfl, ⟨(zex (zev _ _ _ _)), trivial⟩⟩ rfl ?_)
 refine zag (zcm (zc := [(zI 0), zN, zF]) (cs := [(zI c), (osv (some b6) 0 1 1), zF]) (is := [0]) (vs := [(zar #[(zI c), (osv (some b6) 0 1 1)])]) (css := [[(zI c), (osv (some b6) 0 1 1)]]) pl92 ti92 rfl rfl rfl zrt rfl ?_)
 refine zdc (zbw (vs := [(zI c), (osv (some b6) 0 1 1), zF]) ti92 rfl rfl rfl rfl (zep rfl (zep (zev _ _ _ _) (zep rfl zet))) hL10 1 rfl rfl (zaf rfl) ?_)
 intro w11 (hL11 : vL w w11 [some b6, some b1] [zac ([] ++ ([(zI pa), (zI n)] ++ [])), zac [(zI c), (osv (some b6) 0 1 1), zF]]) hS11
 have K11 := ks w hS11
 refine zap ?_
 have f10 := ((hE7.mono (K10 None)).mono (K11 None))
 have f11 := hL11.freezeRow 0 rfl rfl f10 rfl rfl rfl hc8
 have hp10 := hL11.pick [1] rfl rfl rfl
 have hL12 : vL w w11 [some b1] [zac [(zI c), (osv (some b6) 0 1 1), zF]] := hp10.1
 refine zbo ?_
 obtain rfl := zae h
 refine ⟨[(zar #[(zI c), (osv (some b6) 0 1 1), zF])], ⟨⟨⟨b1, 0, none⟩, rfl, zey zbv rfl ti92 (hL12.at 0 rfl rfl) rfl⟩, trivial⟩, ⟨_, rfl, hL12.done, ?_⟩⟩
 exact ⟨(osv (some b6) 0 1 1), rfl, (f11.mono Hv.out), trivial⟩
theorem wscaled_w (N : Nat) (f : Linear) (n : Int) (more : Coef) (f_v : Value) (w : World) (S : Nat → Prop) (f_h : Rs rCoef (vH w S [] w) f_v f.Coefs) (r : (List Coef)) (h : wscaled N f n more = some r) :
  Calls Tryz.prog 45 #[(zar #[(zI f.Const), f_v]), (zI n), (zar #[(zI more.Var), (zI more.N)])] w (Ret w (fun v w' => ∃ (ob0 : Option Nat) (cap0 : Nat) (cs0 : List Value) (sp0 : List Value), (zO ob0 r cap0) = v ∧ NewOwn w w' [ob0] [zac ([] ++ (cs0 ++ sp0))] ∧ Els rCoef (vH w None [ob0] w') cs0 r ∧ (cs0 ++ sp0).length = cap0 * rCoef.sz ∧ True)) := by
 unfold wscaled at h
 have hL : vL w w [] [] := Go.X.Loc.begin0 w
 refine calls_of (l := [(zar #[(zI f.Const), f_v]), (zI n), (zar #[(zI more.Var), (zI more.N)])]) (rl := [.tmp 6]) (n := 38) Tryz.func45 rfl rfl rfl (zaf rfl) ?_
 refine zal (zah rfl (zag (zdt (cs := [(zI f.Const), f_v]) rfl rfl hL ?_)))
 intro b1 w2 hL3 hS5
 have K4 := ks w hS5
 refine zag (zdt (cs := [(zI more.Var), (zI more.N)]) rfl rfl hL3 ?_)
 intro b6 w7 hL8 hS10
 have K9 := ks w hS10
 refine zag (zam (v := zN) rfl ?_)
 refine zap (zal (zah rfl (zag (zam (v := zN) rfl ?_))))
 refine zap (zal (zal (zah rfl (zag (zam (v := (zI 0)) rfl (zap ?_))))))
 obtain ⟨s10, hl10, g10⟩ := zen h
 refine zch (fun e w' => ∃ (out10 : (List Coef)) (ob10 : Option Nat) (cap10 : Nat) (sp10 : List Value) (cs10 : List Value) (ln10 : Nat) (u : Env), out10 = s10 ∧ e = upds [(5, (zak (some ⟨b6, 0, none⟩))), (7, (osv ob10 0 ln10 cap10))] u ∧ vL w w' [some b6, ob10] [zac [(zI more.Var), (zI more.N)], zac ([] ++ (cs10 ++ sp10))] ∧ Keep w.heap.size [some b6, some b1] w7 [some b6, ob10] w' ∧ Els rCoef (vH w None [some b6, ob10] w') cs10 out10 ∧ ln10 = List.length out10 ∧ (cs10 ++ sp10).length = cap10 * rCoef.sz ∧ True) ?_ ?_
 ·
  refine zbq ?_
  have hp10 := hL8.addNil
  have hL10 : vL w w7 [none, some b6, some b1] [zac ([] ++ ([] ++ [])), zac [(zI more.Var), (zI more.N)], zac [(zI f.Const), f_v]] := hp10.1
  have K10 := ks w hp10.2
  have hp11 := hL10.pick [2, 1, 0] rfl rfl rfl
  have hL11 : vL w w7 [some b1, some b6, none] [zac [(zI f.Const), f_v], zac [(zI more.Var), (zI more.N)], zac ([] ++ ([] ++ []))] := hp11.1
  have K11 := ks w hp11.2
  have f10 := ((zdh (r := rCoef)).mono (K11 None))
  refine zcx hl10 (fun (ss : ((List Coef) × Int)) (e : Env) (w' : World) => match ss with | (out11, i10) => ∃ (ob11 : Option Nat) (cap11 : Nat) (sp11 : List Value) (cs11 : List Value) (ln11 : Nat) (u : Env), e = upds [(1, (zI n)), (3, (zak (some ⟨b1, 0, none⟩))), (5, (zak (some ⟨b6, 0, none⟩))), (7, (osv ob11 0 ln11 cap11)), (8, (zI i10))] u ∧ vL w w' [some b1, some b6, ob11] [zac [(zI f.Const), f_v], zac [(zI more.Var), (zI more.N)], zac ([] ++ (cs11 ++ sp11))] ∧ Keep w.heap.size [some b6, some b1] w7 [some b1, some b6, ob11] w' ∧ Els rCoef (vH w None [some b1, some b6, ob11] w') cs11 out11 ∧ ln11 = List.length out11 ∧ (cs11 ++ sp11).length = cap11 * rCoef.sz ∧ True) ⟨none, 0, [], [], (List.length ([] : (List Coef))), _, (zeq ⟨rfl, rfl, rfl, rfl, rfl, trivial⟩), hL11, (zao K10 K11), f10, rfl, (show ([] ++ [] : List Value).length = 0 * rCoef.sz by simp), trivial⟩ ?_
  rintro ⟨out11, i10⟩ oo _ w10 ⟨ob11, cap11, sp11, cs11, ln11, u, rfl, hL12, K12, hE10, rfl, hc10, -⟩ h hd10
  rw [wscaled_b1] at h
  refine zal (zal (zah rfl (zag (zai (v := (zI i10)) rfl ?_))))
  refine zag (zaj (q := 1) zaz rfl ti88 rfl rfl rfl ?_)
  refine zag (zat (v := f_v) zay rfl rfl (hL12.at 0 rfl rfl) rfl ?_)
  have f11 := (((f_h.mono (K4 S)).mono (K9 S)).mono (K12 S))
  refine zag (zbl (v := f_v) zay rfl f11 ?_)
  refine zag (zcq (x := i10) (y := (f.Coefs.length : Int)) ((i10 : Int) < (f.Coefs.length : Int)) rfl rfl zbe (zap ?_))
  refine zbk ((i10 : Int) < (f.Coefs.length : Int)) rfl (fun hc11 => ?_) (fun hc11 => ?_)
  ·
   replace h := ite_t hc11 h
   refine zbp (zal (zbq ?_))
   obtain ⟨x10, n10, q11, q12, -, h⟩ := zix h
   obtain ⟨b10, o10, c10, vs10, q13, q14, f12, q15⟩ := zcz f11 q12
   obtain ⟨rfl, -⟩ := rCoef_open q15
   have f13 := (f12.part (us := [(zI x10.Var)]) 0 rfl)
   obtain ⟨x11, n11, q17, q18, -, h⟩ := zix h
   obtain ⟨b11, o11, c11, vs11, q19, q20, f14, q21⟩ := zcz f11 q18
   obtain ⟨rfl, -⟩ := rCoef_open q21
   have f15 := (f14.part (us := [(zI x11.N)]) 1 rfl)
   refine zck 17 [] [] (fun W1 => [.det (zO ob11 out11 cap11), .det (zak (some ⟨b1, 1, none⟩)), .det f_v, .det (zI i10), .det (zak (some ⟨b10, (o10 + n10 * rCoef.sz), none⟩)), .det (zak (some ⟨b10, (o10 + n10 * rCoef.sz) + 0, none⟩)), .det (zI x10.Var), .det (zI n), .det (zak (some ⟨b1, 1, none⟩)), .det f_v, .det (zI i10), .det (zak (some ⟨b11, (o11 + n11 * rCoef.sz), none⟩)), .det (zak (some ⟨b11, (o11 + n11 * rCoef.sz) + 1, none⟩)), .det (zI x11.N), .det (zI (iw (n * x11.N))), .det (zar #[(zI x10.Var), (zI (iw (n * x11.N)))]), .rel (fun v Z w' => ∃ b12 cs12, (osv (some b12) 0 1 1) = v ∧ OwnC w' (some b12) (zac ([] ++ (cs12 ++ []))) ∧ Els rCoef (vZ W1 w None [some b1, some b6, ob11] Z w') cs12 [(Coef.mk x10.Var (iw (n * x11.N)))] ∧ (cs12 ++ [] : List Value).length = 1 * rCoef.sz ∧ True) footV]) mixed rfl rfl rfl (fun _ => rfl) (fun _ => rfl) ?_ ?_
   ·
    intro W1 _
    exact ⟨fun v Z Z' w w' hΦ hz _ _ hs => by obtain ⟨b12, cs12, rfl, hO10, hE11, hc12, -⟩ := hΦ; exact ⟨b12, cs12, rfl, (hO10.stay (fun b hb => by cases hb; exact zbs) hs), (hE11.mono (zdo hz hs)), hc12, trivial⟩, trivial⟩
   intro w11 hE12
   obtain ⟨hL13, K13⟩ := zl hL12 hE12
   refine zan (fun _ _ => zaq (zai rfl (er rfl))) ?_
   refine zan (fun _ _ => zaq (zaj zaz rfl ti88 rfl rfl rfl (er rfl))) ?_
   refine zan (fun _ hE15 => zaq (zat zay rfl rfl ((hL13.ext hE15).at 0 rfl rfl) rfl (er rfl))) ?_
   refine zan (fun _ _ => zaq (zai rfl (er rfl))) ?_
   refine zan (fun _ _ => zaq (zbf (r := rCoef) (v := f_v) (n := n10) (m := (o10 + n10 * rCoef.sz)) zay ti87 rfl q13 rfl q11 q12 rfl (er rfl))) ?_
   refine zan (fun _ _ => zaq (zaj zbu rfl ti3 rfl rfl rfl (er rfl))) ?_
   refine zan (fun _ hE19 => zaq (zbx zau rfl rfl zes (zbi ((ke hL13 hE19) S) (zbi (K13 S) f13)) (er rfl))) ?_
   refine zan (fun _ _ => zaq (zai rfl (er rfl))) ?_
   refine zan (fun _ _ => zaq (zaj zaz rfl ti88 rfl rfl rfl (er rfl))) ?_
   refine zan (fun _ hE22 => zaq (zat zay rfl rfl ((hL13.ext hE22).at 0 rfl rfl) rfl (er rfl))) ?_
   refine zan (fun _ _ => zaq (zai rfl (er rfl))) ?_
   refine zan (fun _ _ => zaq (zbf (r := rCoef) (v := f_v) (n := n11) (m := (o11 + n11 * rCoef.sz)) zay ti87 rfl q19 rfl q17 q18 rfl (er rfl))) ?_
   refine zan (fun _ _ => zaq (zaj zbu rfl ti2 rfl rfl rfl (er rfl))) ?_
   refine zan (fun _ hE26 => zaq (zbx zbr rfl rfl zes (zbi ((ke hL13 hE26) S) (zbi (K13 S) f15)) (er rfl))) ?_
   refine zan (fun _ _ => zaq (OpY.mul rfl rfl rfl (er rfl))) ?_
   refine zan (fun _ _ => zaq (zcm (zc := [(zI 0), (zI 0)]) (cs := [(zI x10.Var), (zI (iw (n * x11.N)))]) (is := [0, 1]) (vs := [(zI x10.Var), (zI (iw (n * x11.N)))]) (css := [[(zI x10.Var)], [(zI (iw (n * x11.N)))]]) pl87 ti87 rfl rfl rfl ⟨rfl, rfl, trivial⟩ rfl (er rfl))) ?_
   refine zdp ?_ ?_
   ·
    rintro w28 Z35 hE29 hZ26 ⟨-⟩
    have hE30 : Els rCoef (vZ w11 w None [some b1, some b6, ob11] Z35 w28) [(zI x10.Var), (zI (iw (n * x11.N)))] [(Coef.mk x10.Var (iw (n * x11.N)))] := (zdg (a := [(zI x10.Var), (zI (iw (n * x11.N)))]) (rCoef_close ⟨rfl, trivial⟩) zdh)
    refine zaq (zda (r := rCoef) (vs := [(zar #[(zI x10.Var), (zI (iw (n * x11.N)))])]) (css := [[(zI x10.Var), (zI (iw (n * x11.N)))]]) (xs := [(Coef.mk x10.Var (iw (n * x11.N)))]) zay ti87 (zaf rfl) rfl rfl ⟨rfl, rfl, trivial⟩ (zaf rfl) hE30 rfl (Go.X.Loc.begin0 w28) ?_)
    intro b12 w29 hc13 hL16 hS11
    have hN10 : NewOwn w28 w29 [some b12] [zac ([] ++ ([(zI x10.Var), (zI (iw (n * x11.N)))] ++ []))] := hL16.newOwn [0] rfl rfl rfl
    exact zdm hL16.done hZ26 hN10 (fun _ h => h) ⟨b12, [(zI x10.Var), (zI (iw (n * x11.N)))], rfl, hN10.2.2.1, (hE30.mono (Zv.grow hL16.done)), hc13, trivial⟩
   intro z10
   refine zcw ?_
   rintro w30 Z36 hE31 hZ27 ⟨⟨⟨b12, cs12, rfl, hO10, hE11, hc12, -⟩, hB10⟩, -⟩ ap10
   have hB11 : ∀ b, some b ∈ ([some b12] : List (Option Nat)) → w11.heap.size ≤ b ∧ ¬ Z36 b := by
    intro b hb
    rcases List.mem_cons.1 hb with hb' | hb
    ·
     have := hB10 b (by rw [hb']; exact zbs); exact ⟨this.1, this.2.2⟩
    cases hb
   replace hE11 := hE11.mono (zdw hL13 hZ27 hB11)
   have hN11 : NewOwn w11 w30 [some b12] [zac ([] ++ (cs12 ++ []))] := (zdy zcv hO10 (fun b hb => (hB11 b (by rw [← hb]; simp)).1) (fun b _ hb => by cases hb))
   have hp12 := hL13.adoptL hE31 hN11
   have hL17 := hp12.1
   have K16 := ks w hp12.2
   obtain ⟨x12, q22, h⟩ := zen h
   obtain ⟨q23, q24, q25⟩ := zew q22
   have f16 := ((hE10.mono (K13 None)).mono (K16 None))
   refine zag (zds (r := rCoef) (H := (vH w None [some b12, some b1, some b6, ob11] w30)) (cs := cs11) (sp := sp11) (xs := out11) (ys := [(Coef.mk x10.Var (iw (n * x11.N)))]) (Y := x12) (n := out11.length) (cap := cap11) (i := 3) zay ti87 rfl rfl rfl rfl hL17 rfl rfl f16 rfl hc10 (zeh (pre := []) (o := 0) (n := 1) (cap := 1) (hL17.at 0 rfl rfl) hE11 rfl rfl rfl) (Els.anyH (fun _ _ _ _ h => h) hE11) q23 q24 q25 ?_)
   intro ob12 cap12 sp12 cs13 w31 hE32 hc14 (hL18 : vL w w31 [some b12, some b1, some b6, ob12] [zac ([] ++ (cs12 ++ [])), zac [(zI f.Const), f_v], zac [(zI more.Var), (zI more.N)], zac ([] ++ (cs13 ++ sp12))]) hS12
   have K17 := ks w hS12
   refine zag (zam (v := (zO ob12 x12 cap12)) rfl ?_)
   refine zap (zcd (zah rfl (zag (zai (v := (zI i10)) rfl ?_))))
   refine zag (zco (x := i10) (y := 1) (z := (iw (i10 + 1))) rfl rfl rfl ?_)
   refine zag (zam (v := (zI (iw (i10 + 1)))) rfl (zap ?_))
   have hp13 := hL18.pick [1, 2, 3] rfl rfl rfl
   have hL19 : vL w w31 [some b1, some b6, ob12] [zac [(zI f.Const), f_v], zac [(zI more.Var), (zI more.N)], zac ([] ++ (cs13 ++ sp12))] := hp13.1
   have K18 := ks w hp13.2
   have f17 := ((hE32.mono (K17 None)).mono (K18 None))
   obtain rfl := zae h
   refine zas ⟨(x12, (iw (i10 + 1))), rfl, ?_⟩
   exact ⟨ob12, cap12, sp12, cs13, x12.length, _, (zeq ⟨rfl, rfl, rfl, rfl, rfl, trivial⟩), hL19, (zao (zao (zao (zao K12 K13) K16) K17) K18), f17, rfl, hc14, trivial⟩
  replace h := ite_f hc11 h
  refine zde rfl ?_
  have hp14 := hL12.pick [1, 2] rfl rfl rfl
  have hL20 : vL w w10 [some b6, ob11] [zac [(zI more.Var), (zI more.N)], zac ([] ++ (cs11 ++ sp11))] := hp14.1
  have K19 := ks w hp14.2
  have f18 := (hE10.mono (K19 None))
  obtain rfl := zae h
  obtain rfl := hd10 _ rfl
  replace h := g10
  try dsimp only at h
  refine zas ?_
  exact ⟨out11, ob11, cap11, sp11, cs11, out11.length, _, rfl, (zeq ⟨rfl, rfl, trivial⟩), hL20, (zao K12 K19), f18, rfl, hc10, trivial⟩
 rintro _ w32 ⟨out10, ob10, cap10, sp10, cs10, ln10, u, rfl, rfl, hL21, K20, hE33, rfl, hc15, -⟩
 replace h := g10
 try dsimp only at h
 refine zal (zah rfl (zag (zai (v := (zO ob10 out10 cap10)) rfl ?_)))
 refine zag (zbt (vs := [(zI more.Var), (zI more.N)]) zbu rfl ti87 rfl (hL21.at 0 rfl rfl) rfl rfl ?_)
 have hE34 : Els rCoef (vH w None [some b6, ob10] w32) [(zI more.Var), (zI more.N)] [more] := (zdg (a := [(zI more.Var), (zI more.N)]) (rCoef_close ⟨rfl, trivial⟩) zdh)
 refine zag (zda (r := rCoef) (vs := [(zar #[(zI more.Var), (zI more.N)])]) (css := [[(zI more.Var), (zI more.N)]]) (xs := [more]) zay ti87 (zaf rfl) rfl rfl ⟨rfl, rfl, trivial⟩ (zaf rfl) hE34 rfl hL21 ?_)
 intro b13 w33 hc16 hL22 hS13
 have K21 := ks w hS13
 obtain ⟨x13, q26, h⟩ := zen h
 obtain ⟨q27, q28, q29⟩ := zew q26
 have f19 := (hE34.mono (K21 None))
 have f20 := (hE33.mono (K21 None))
 refine zag (zds (r := rCoef) (H := (vH w None [some b13, some b6, ob10] w33)) (cs := cs10) (sp := sp10) (xs := out10) (ys := [more]) (Y := x13) (n := out10.length) (cap := cap10) (i := 2) zay ti87 rfl rfl rfl rfl hL22 rfl rfl f20 rfl hc15 (zeh (pre := []) (o := 0) (n := 1) (cap := 1) (hL22.at 0 rfl rfl) f19 rfl rfl rfl) (Els.anyH (fun _ _ _ _ h => h) f19) q27 q28 q29 ?_)
 intro ob13 cap13 sp13 cs14 w34 hE35 hc17 (hL23 : vL w w34 [some b13, some b6, ob13] [zac ([] ++ ([(zI more.Var), (zI more.N)] ++ [])), zac [(zI more.Var), (zI more.N)], zac ([] ++ (cs14 ++ sp13))]) hS14
 have K22 := ks w hS14
 refine zag (zam (v := (zO ob13 x13 cap13)) rfl ?_)
 refine zap (zbo ?_)
 obtain rfl := zae h
 refine ⟨[(zO ob13 x13 cap13)], zrt, ⟨_, rfl, hL23.done, ?_⟩⟩
 have f21 := (hE35.mono (K22 None))
 exact ⟨ob13, cap13, cs14, sp13, rfl, (hL23.newOwn [2] rfl rfl rfl), (f21.mono (zed [2] rfl)), hc17, trivial⟩
theorem whigh_w (N : Nat) (l : (List RVar)) (ranges : (List Arr2Int)) (pc : Int) (l_v : Value) (ranges_v : Value) (w : World) (S : Nat → Prop) (l_h : Rs rRVar (vH w S [] w) l_v l) (ranges_h : Rs rArr2Int (vH w S [] w) ranges_v ranges) (r : Int) (h : whigh N l ranges pc = some r) :
  Calls Tryz.prog 44 #[l_v, ranges_v, (zI pc)] w (Ret w (fun v w' => (zI r) = v ∧ True)) := by
 unfold whigh at h
 have hL : vL w w [] [] := Go.X.Loc.begin0 w
 refine calls_of (l := [l_v, ranges_v, (zI pc)]) (rl := [.tmp 6]) (n := 28) Tryz.func44 rfl rfl rfl (zaf rfl) ?_
 refine zal (zah rfl (zag (zam (v := (zI 0)) rfl ?_)))
 refine zap (zal (zal ?_))
 obtain ⟨x1, n3, q4, q5, -, h⟩ := zix h
 obtain ⟨b6, o7, c8, vs9, q10, q11, f10, q12⟩ := zcz ranges_h q5
 obtain ⟨rfl, -⟩ := rArr2Int_open q12
 have f11 := (f10.part (us := [(zI x1.e1)]) 1 rfl)
 obtain ⟨x10, n10, q14, q15, -, h⟩ := zix h
 obtain ⟨b10, o10, c10, vs10, q16, q17, f12, q18⟩ := zcz l_h q15
 obtain ⟨rfl, -⟩ := rRVar_open q18
 have f13 := (f12.part (us := [(zI x10.Max)]) 3 rfl)
 refine zck 10 [] [] (fun W1 => [.det ranges_v, .det (zI pc), .det (zak (some ⟨b6, (o7 + n3 * rArr2Int.sz), none⟩)), .det (zak (some ⟨b6, (o7 + n3 * rArr2Int.sz) + 1, none⟩)), .det (zI x1.e1), .det l_v, .det (zI pc), .det (zak (some ⟨b10, (o10 + n10 * rRVar.sz), none⟩)), .det (zak (some ⟨b10, (o10 + n10 * rRVar.sz) + 3, none⟩)), .det (zI x10.Max)]) mixed rfl rfl rfl (fun _ => rfl) (fun _ => rfl) ?_ ?_
 ·
  intro W1 _
  exact trivial
 intro w10 hE10
 obtain ⟨hL10, K10⟩ := zl hL hE10
 refine zan (fun _ _ => zaq (zai rfl (er rfl))) ?_
 refine zan (fun _ _ => zaq (zai rfl (er rfl))) ?_
 refine zan (fun _ _ => zaq (zbf (r := rArr2Int) (v := ranges_v) (n := n3) (m := (o7 + n3 * rArr2Int.sz)) zca ti54 rfl q10 rfl q4 q5 rfl (er rfl))) ?_
 refine zan (fun _ _ => zaq (zcu (i := 1) (q := (o7 + n3 * rArr2Int.sz) + 1) zct ti3 rfl rfl (by decide) rfl (er rfl))) ?_
 refine zan (fun _ hE15 => zaq (zbx zau rfl rfl zes (zbi ((ke hL10 hE15) S) (zbi (K10 S) f11)) (er rfl))) ?_
 refine zan (fun _ _ => zaq (zai rfl (er rfl))) ?_
 refine zan (fun _ _ => zaq (zai rfl (er rfl))) ?_
 refine zan (fun _ _ => zaq (zbf (r := rRVar) (v := l_v) (n := n10) (m := (o10 + n10 * rRVar.sz)) zbm ti83 rfl q16 rfl q14 q15 rfl (er rfl))) ?_
 refine zan (fun _ _ => zaq (zaj zcc rfl ti3 rfl rfl rfl (er rfl))) ?_
 refine zan (fun _ hE20 => zaq (zbx zau rfl rfl zes (zbi ((ke hL10 hE20) S) (zbi (K10 S) f13)) (er rfl))) ?_
 refine zcw ?_
 rintro w21 Z29 hE21 hZ20 ⟨-⟩ ap10
 have hB10 := @zhb w10 Z29
 obtain ⟨hL11, K13⟩ := zl hL10 hE21
 refine zag (zcq (x := x1.e1) (y := x10.Max) ((x1.e1 : Int) < x10.Max) rfl rfl zbe (zap ?_))
 refine zbk ((x1.e1 : Int) < x10.Max) rfl (fun hc10 => ?_) (fun hc10 => ?_)
 ·
  replace h := ite_t hc10 h
  refine zal (zah rfl (zag (zai (v := ranges_v) rfl ?_)))
  refine zag (zai (v := (zI pc)) rfl ?_)
  obtain ⟨x11, n11, q20, q21, -, h⟩ := zix h
  have f14 := ((ranges_h.mono (K10 S)).mono (K13 S))
  obtain ⟨b11, o11, c11, vs11, q22, q23, f15, q24⟩ := zcz f14 q21
  obtain ⟨rfl, -⟩ := rArr2Int_open q24
  refine zag (zbf (r := rArr2Int) (v := ranges_v) (n := n11) (m := (o11 + n11 * rArr2Int.sz)) zca ti54 rfl q22 rfl q20 q21 rfl ?_)
  have f16 := (f15.part (us := [(zI x11.e1)]) 1 rfl)
  refine zag (zcu (i := 1) (q := (o11 + n11 * rArr2Int.sz) + 1) zct ti3 rfl rfl (by decide) rfl ?_)
  refine zag (zbx (v := (zI x11.e1)) zau rfl rfl zes f16 ?_)
  refine zag (zam (v := (zI x11.e1)) rfl ?_)
  refine zap (zbo ?_)
  obtain rfl := zae h
  refine ⟨[(zI x11.e1)], zrt, ⟨_, rfl, hL11.done, ?_⟩⟩
  exact zrt
 replace h := ite_f hc10 h
 refine zbp (zal (zah rfl (zag (zai (v := l_v) rfl ?_))))
 refine zag (zai (v := (zI pc)) rfl ?_)
 obtain ⟨x12, n12, q26, q27, -, h⟩ := zix h
 have f17 := ((l_h.mono (K10 S)).mono (K13 S))
 obtain ⟨b12, o12, c12, vs12, q28, q29, f18, q30⟩ := zcz f17 q27
 obtain ⟨rfl, -⟩ := rRVar_open q30
 refine zag (zbf (r := rRVar) (v := l_v) (n := n12) (m := (o12 + n12 * rRVar.sz)) zbm ti83 rfl q28 rfl q26 q27 rfl ?_)
 have f19 := (f18.part (us := [(zI x12.Max)]) 3 rfl)
 refine zag (zaj (q := (o12 + n12 * rRVar.sz) + 3) zcc rfl ti3 rfl rfl rfl ?_)
 refine zag (zbx (v := (zI x12.Max)) zau rfl rfl zes f19 ?_)
 refine zag (zam (v := (zI x12.Max)) rfl ?_)
 refine zap (zbo ?_)
 obtain rfl := zae h
 refine ⟨[(zI x12.Max)], zrt, ⟨_, rfl, hL11.done, ?_⟩⟩
 exact zrt
theorem wInts_w (N : Nat) (l : (List RVar)) (c : RClause) (ranges : (List Arr2Int)) (l_v : Value) (c_v : Value) (c_v1 : Value) (c_v2 : Value) (c_v3 : Value) (c_v4 : Value) (c_v5 : Value) (c_v6 : Value) (ranges_v : Value) (w : World) (S : Nat → Prop) (l_h : Rs rRVar (vH w S [] w) l_v l) (c_h : Rs rI (vH w S [] w) c_v c.Null) (c_h1 : Rs rI (vH w S [] w) c_v1 c.NotNull) (c_h2 : Rs rRAux (vH w S [] w) c_v2 c.Auxiliary) (c_h3 : Rs rConstraint (vH w S [] w) c_v3 c.Ints) (c_h4 : Rs rTTest (vH w S [] w) c_v4 c.Tests) (c_h5 : Rs rArr2Int (vH w S [] w) c_v5 c.Same) (c_h6 : Rs rArr2Int (vH w S [] w) c_v6 c.Different) (ranges_h : Rs rArr2Int (vH w S [] w) ranges_v ranges) (r : (List Constraint)) (h : wInts N l c ranges = some r) :
  Calls Tryz.prog 14 #[l_v, (zar #[c_v, c_v1, c_v2, c_v3, c_v4, c_v5, c_v6]), ranges_v] w (Ret w (fun v w' => ∃ (ob0 : Option Nat) (cap0 : Nat) (cs0 : List Value) (sp0 : List Value), (zO ob0 r cap0) = v ∧ NewOwn w w' [ob0] [zac ([] ++ (cs0 ++ sp0))] ∧ Els rConstraint (vH w S [ob0] w') cs0 r ∧ (cs0 ++ sp0).length = cap0 * rConstraint.sz ∧ True)) := by
 unfold wInts at h
 have hL : vL w w [] [] := Go.X.Loc.begin0 w
 refine calls_of (l := [l_v, (zar #[c_v, c_v1, c_v2, c_v3, c_v4, c_v5, c_v6]), ranges_v]) (rl := [.tmp 6]) (n := 127) Tryz.func14 rfl rfl rfl (zaf rfl) ?_
 refine zal (zah rfl (zag (zdt (cs := [c_v, c_v1, c_v2, c_v3, c_v4, c_v5, c_v6]) rfl rfl hL ?_)))
 intro b1 w2 hL3 hS5
 have K4 := ks w hS5
 refine zag (zam (v := zN) rfl ?_)
 refine zap (zal (zah rfl (zag (zam (v := zN) rfl ?_))))
 refine zap (zal (zal (zah rfl (zag (zam (v := (zI 0)) rfl (zap ?_))))))
 obtain ⟨s10, hl10, g10⟩ := zen h
 refine zch (fun e w' => ∃ (out10 : (List Constraint)) (ob10 : Option Nat) (cap10 : Nat) (sp10 : List Value) (cs10 : List Value) (ln10 : Nat) (u : Env), out10 = s10 ∧ e = upds [(0, l_v), (2, ranges_v), (4, (zak (some ⟨b1, 0, none⟩))), (7, (osv ob10 0 ln10 cap10))] u ∧ vL w w' [some b1, ob10] [zac [c_v, c_v1, c_v2, c_v3, c_v4, c_v5, c_v6], zac ([] ++ (cs10 ++ sp10))] ∧ Keep w.heap.size [some b1] w2 [some b1, ob10] w' ∧ Els rConstraint (vH w None [some b1, ob10] w') cs10 out10 ∧ ln10 = List.length out10 ∧ (cs10 ++ sp10).length = cap10 * rConstraint.sz ∧ True) ?_ ?_
 ·
  refine zbq ?_
  have hp10 := hL3.addNil
  have hL10 : vL w w2 [none, some b1] [zac ([] ++ ([] ++ [])), zac [c_v, c_v1, c_v2, c_v3, c_v4, c_v5, c_v6]] := hp10.1
  have K10 := ks w hp10.2
  have hp11 := hL10.pick [1, 0] rfl rfl rfl
  have hL11 : vL w w2 [some b1, none] [zac [c_v, c_v1, c_v2, c_v3, c_v4, c_v5, c_v6], zac ([] ++ ([] ++ []))] := hp11.1
  have K11 := ks w hp11.2
  have f10 := ((zdh (r := rConstraint)).mono (K11 None))
  refine zcx hl10 (fun (ss : ((List Constraint) × Int)) (e : Env) (w' : World) => match ss with | (out11, i10) => ∃ (ob11 : Option Nat) (cap11 : Nat) (sp11 : List Value) (cs11 : List Value) (ln11 : Nat) (u : Env), e = upds [(0, l_v), (2, ranges_v), (4, (zak (some ⟨b1, 0, none⟩))), (7, (osv ob11 0 ln11 cap11)), (8, (zI i10))] u ∧ vL w w' [some b1, ob11] [zac [c_v, c_v1, c_v2, c_v3, c_v4, c_v5, c_v6], zac ([] ++ (cs11 ++ sp11))] ∧ Keep w.heap.size [some b1] w2 [some b1, ob11] w' ∧ Els rConstraint (vH w None [some b1, ob11] w') cs11 out11 ∧ ln11 = List.length out11 ∧ (cs11 ++ sp11).length = cap11 * rConstraint.sz ∧ True) ⟨none, 0, [], [], (List.length ([] : (List Constraint))), _, (zeq ⟨rfl, rfl, rfl, rfl, rfl, trivial⟩), hL11, (zao K10 K11), f10, rfl, (show ([] ++ [] : List Value).length = 0 * rConstraint.sz by simp), trivial⟩ ?_
  rintro ⟨out11, i10⟩ oo _ w10 ⟨ob11, cap11, sp11, cs11, ln11, u, rfl, hL12, K12, hE10, rfl, hc10, -⟩ h hd10
  rw [wInts_b1] at h
  refine zal (zal (zah rfl (zag (zai (v := (zI i10)) rfl ?_))))
  refine zag (zaj (q := 1) zax rfl ti23 rfl rfl rfl ?_)
  refine zag (zat (v := c_v1) zbd rfl rfl (hL12.at 0 rfl rfl) rfl ?_)
  have f11 := ((c_h1.mono (K4 S)).mono (K12 S))
  refine zag (zbl (v := c_v1) zbd rfl f11 ?_)
  refine zag (zcq (x := i10) (y := (c.NotNull.length : Int)) ((i10 : Int) < (c.NotNull.length : Int)) rfl rfl zbe (zap ?_))
  refine zbk ((i10 : Int) < (c.NotNull.length : Int)) rfl (fun hc11 => ?_) (fun hc11 => ?_)
  ·
   replace h := ite_t hc11 h
   refine zbp (zal (zbq (zal (zah rfl (zag (zaj (q := 1) zax rfl ti23 rfl rfl rfl ?_))))))
   refine zag (zat (v := c_v1) zbd rfl rfl (hL12.at 0 rfl rfl) rfl ?_)
   refine zag (zai (v := (zI i10)) rfl ?_)
   obtain ⟨x10, n10, q11, q12, -, h⟩ := zix h
   obtain ⟨b10, o10, c10, vs10, q13, q14, f12, q15⟩ := zcz f11 q12
   obtain rfl := q15
   refine zag (zbf (r := rI) (v := c_v1) (n := n10) (m := (o10 + n10 * rI.sz)) zbd ti3 rfl q13 rfl q11 q12 rfl ?_)
   refine zag (zbx (v := (zI x10)) zau rfl rfl zes f12 ?_)
   refine zag (zam (v := (zI x10)) rfl ?_)
   refine zap (zal (zah rfl (zag (zai (v := l_v) rfl ?_))))
   refine zag (zai (v := (zI x10)) rfl ?_)
   obtain ⟨x11, n11, q17, q18, -, h⟩ := zix h
   have f13 := ((l_h.mono (K4 S)).mono (K12 S))
   obtain ⟨b11, o11, c11, vs11, q19, q20, f14, q21⟩ := zcz f13 q18
   obtain ⟨rfl, -⟩ := rRVar_open q21
   refine zag (zbf (r := rRVar) (v := l_v) (n := n11) (m := (o11 + n11 * rRVar.sz)) zbm ti83 rfl q19 rfl q17 q18 rfl ?_)
   have f15 := (f14.part (us := [(zI x11.Ty)]) 0 rfl)
   refine zag (zaj (q := (o11 + n11 * rRVar.sz) + 0) zcc rfl ti3 rfl rfl rfl ?_)
   refine zag (zbx (v := (zI x11.Ty)) zau rfl rfl zes f15 ?_)
   refine zag (zeb (x := x11.Ty) (y := 1) ((x11.Ty : Int) = 1) rfl rfl zbe (zap ?_))
   refine zbk ((x11.Ty : Int) = 1) rfl (fun hc12 => ?_) (fun hc12 => ?_)
   ·
    replace h := ite_t hc12 h
    obtain ⟨x12, n12, q23, q24, -, h⟩ := zix h
    obtain ⟨b12, o12, c12, vs12, q25, q26, f16, q27⟩ := zcz f13 q24
    obtain ⟨rfl, -⟩ := rRVar_open q27
    have f17 := (f16.part (us := [(zI x12.Low)]) 1 rfl)
    obtain ⟨r10, q28, h⟩ := zen h
    obtain ⟨x13, n13, q30, q31, -, h⟩ := zix h
    obtain ⟨b13, o13, c13, vs13, q32, q33, f18, q34⟩ := zcz f13 q31
    obtain ⟨rfl, -⟩ := rRVar_open q34
    have f19 := (f18.part (us := [(zI x13.High)]) 2 rfl)
    obtain ⟨r11, q35, h⟩ := zen h
    refine zck 17 [] [] (fun W1 => [.det (zO ob11 out11 cap11), .det (zI x10), .det l_v, .det (zI x10), .det (zak (some ⟨b12, (o12 + n12 * rRVar.sz), none⟩)), .det (zak (some ⟨b12, (o12 + n12 * rRVar.sz) + 1, none⟩)), .det (zI x12.Low), .rel (fun v Z w' => ∃ v10, (zar #[(zI r10.Linear.Const), v10, (zab r10.Equal)]) = v ∧ Rs rCoef (vZ W1 w None [some b1, ob11] Z w') v10 r10.Linear.Coefs ∧ True) (fun _ => []), .det (zI x10), .det l_v, .det (zI x10), .det (zak (some ⟨b13, (o13 + n13 * rRVar.sz), none⟩)), .det (zak (some ⟨b13, (o13 + n13 * rRVar.sz) + 2, none⟩)), .det (zI x13.High), .det (zI (iw (0 - x13.High))), .rel (fun v Z w' => ∃ v11, (zar #[(zI r11.Linear.Const), v11, (zab r11.Equal)]) = v ∧ Rs rCoef (vZ W1 w None [some b1, ob11] Z w') v11 r11.Linear.Coefs ∧ True) (fun _ => []), .rel (fun v Z w' => ∃ b14 cs12, (osv (some b14) 0 2 2) = v ∧ OwnC w' (some b14) (zac ([] ++ (cs12 ++ []))) ∧ Els rConstraint (vZ W1 w None [some b1, ob11] Z w') cs12 [r10, r11] ∧ (cs12 ++ [] : List Value).length = 2 * rConstraint.sz ∧ True) footV]) mixed rfl rfl rfl (fun _ => rfl) (fun _ => rfl) ?_ ?_
    ·
     intro W1 _
     exact ⟨fun v Z Z' w w' hΦ hz _ _ hs => by obtain ⟨v10, rfl, k10, -⟩ := hΦ; exact ⟨v10, rfl, (k10.mono (zdo hz hs)), trivial⟩, ⟨fun v Z Z' w w' hΦ hz _ _ hs => by obtain ⟨v11, rfl, k11, -⟩ := hΦ; exact ⟨v11, rfl, (k11.mono (zdo hz hs)), trivial⟩, ⟨fun v Z Z' w w' hΦ hz _ _ hs => by obtain ⟨b14, cs12, rfl, hO10, hE11, hc13, -⟩ := hΦ; exact ⟨b14, cs12, rfl, (hO10.stay (fun b hb => by cases hb; exact zbs) hs), (hE11.mono (zdo hz hs)), hc13, trivial⟩, trivial⟩⟩⟩
    intro w11 hE12
    obtain ⟨hL13, K13⟩ := zl hL12 hE12
    refine zan (fun _ _ => zaq (zai rfl (er rfl))) ?_
    refine zan (fun _ _ => zaq (zai rfl (er rfl))) ?_
    refine zan (fun _ _ => zaq (zai rfl (er rfl))) ?_
    refine zan (fun _ _ => zaq (zai rfl (er rfl))) ?_
    refine zan (fun _ _ => zaq (zbf (r := rRVar) (v := l_v) (n := n12) (m := (o12 + n12 * rRVar.sz)) zbm ti83 rfl q25 rfl q23 q24 rfl (er rfl))) ?_
    refine zan (fun _ _ => zaq (zaj zcc rfl ti2 rfl rfl rfl (er rfl))) ?_
    refine zan (fun _ hE19 => zaq (zbx zbr rfl rfl zes (zbi ((ke hL13 hE19) S) (zbi (K13 S) f17)) (er rfl))) ?_
    refine zdp ?_ ?_
    ·
     rintro w19 Z26 hE20 hZ17 ⟨-⟩
     refine zaq (zbc en43 rfl rfl (watMost_w N x10 (-1) x12.Low _ Any r10 q28) ?_)
     rintro _ w20 hE21 ⟨v10, rfl, k10, -⟩
     exact zdm hE21 hZ17 zcv (fun _ h => h) ⟨v10, rfl, (k10.mono zdx), trivial⟩
    intro z7
    refine zan (fun _ _ => zaq (zai rfl (er rfl))) ?_
    refine zan (fun _ _ => zaq (zai rfl (er rfl))) ?_
    refine zan (fun _ _ => zaq (zai rfl (er rfl))) ?_
    refine zan (fun _ _ => zaq (zbf (r := rRVar) (v := l_v) (n := n13) (m := (o13 + n13 * rRVar.sz)) zbm ti83 rfl q32 rfl q30 q31 rfl (er rfl))) ?_
    refine zan (fun _ _ => zaq (zaj zcc rfl ti2 rfl rfl rfl (er rfl))) ?_
    refine zan (fun _ hE27 => zaq (zbx zbr rfl rfl zes (zbi ((ke hL13 hE27) S) (zbi (K13 S) f19)) (er rfl))) ?_
    refine zan (fun _ _ => zaq (OpY.neg (x := x13.High) (z := (iw (0 - x13.High))) rfl rfl (er rfl))) ?_
    refine zdp ?_ ?_
    ·
     rintro w28 Z34 hE29 hZ25 ⟨⟨⟨v10, rfl, k10, -⟩, hB7⟩, -⟩
     refine zaq (zbc en43 rfl rfl (watMost_w N x10 1 (iw (0 - x13.High)) _ Any r11 q35) ?_)
     rintro _ w29 hE30 ⟨v11, rfl, k11, -⟩
     exact zdm hE30 hZ25 zcv (fun _ h => h) ⟨v11, rfl, (k11.mono zdx), trivial⟩
    intro z10
    refine zdp ?_ ?_
    ·
     rintro w30 Z35 hE31 hZ26 ⟨⟨⟨v11, rfl, k11, -⟩, hB10⟩, ⟨⟨v10, rfl, k10, -⟩, hB7⟩, -⟩
     have hE32 : Els rConstraint (vZ w11 w None [some b1, ob11] Z35 w30) [(zI r10.Linear.Const), v10, (zab r10.Equal), (zI r11.Linear.Const), v11, (zab r11.Equal)] [r10, r11] := (zdg (a := [(zI r10.Linear.Const), v10, (zab r10.Equal)]) (rConstraint_close ⟨v10, rfl, k10, trivial⟩) (zdg (a := [(zI r11.Linear.Const), v11, (zab r11.Equal)]) (rConstraint_close ⟨v11, rfl, k11, trivial⟩) zdh))
     refine zaq (zda (r := rConstraint) (vs := [(zar #[(zI r10.Linear.Const), v10, (zab r10.Equal)]), (zar #[(zI r11.Linear.Const), v11, (zab r11.Equal)])]) (css := [[(zI r10.Linear.Const), v10, (zab r10.Equal)], [(zI r11.Linear.Const), v11, (zab r11.Equal)]]) (xs := [r10, r11]) zbb ti92 (zaf rfl) rfl rfl ⟨rfl, rfl, ⟨rfl, rfl, trivial⟩⟩ (zaf rfl) hE32 rfl (Go.X.Loc.begin0 w30) ?_)
     intro b14 w31 hc14 hL14 hS10
     have hN10 : NewOwn w30 w31 [some b14] [zac ([] ++ ([(zI r10.Linear.Const), v10, (zab r10.Equal), (zI r11.Linear.Const), v11, (zab r11.Equal)] ++ []))] := hL14.newOwn [0] rfl rfl rfl
     exact zdm hL14.done hZ26 hN10 (fun _ h => h) ⟨b14, [(zI r10.Linear.Const), v10, (zab r10.Equal), (zI r11.Linear.Const), v11, (zab r11.Equal)], rfl, hN10.2.2.1, (hE32.mono (Zv.grow hL14.done)), hc14, trivial⟩
    intro z11
    refine zcw ?_
    rintro w32 Z36 hE33 hZ27 ⟨⟨⟨b14, cs12, rfl, hO10, hE11, hc13, -⟩, hB11⟩, ⟨⟨v11, rfl, k11, -⟩, hB10⟩, ⟨⟨v10, rfl, k10, -⟩, hB7⟩, -⟩ ap10
    have hB12 : ∀ b, some b ∈ ([some b14] : List (Option Nat)) → w11.heap.size ≤ b ∧ ¬ Z36 b := by
     intro b hb
     rcases List.mem_cons.1 hb with hb' | hb
     ·
      have := hB11 b (by rw [hb']; exact zbs); exact ⟨this.1, this.2.2⟩
     cases hb
    replace hE11 := hE11.mono (zdw hL13 hZ27 hB12)
    replace k11 := k11.mono (zdw hL13 hZ27 hB12)
    replace k10 := k10.mono (zdw hL13 hZ27 hB12)
    have hN11 : NewOwn w11 w32 [some b14] [zac ([] ++ (cs12 ++ []))] := (zdy zcv hO10 (fun b hb => (hB12 b (by rw [← hb]; simp)).1) (fun b _ hb => by cases hb))
    have hp12 := hL13.adoptL hE33 hN11
    have hL15 := hp12.1
    have K16 := ks w hp12.2
    obtain ⟨x14, q36, h⟩ := zen h
    obtain ⟨q37, q38, q39⟩ := zew q36
    have f20 := ((hE10.mono (K13 None)).mono (K16 None))
    refine zag (zds (r := rConstraint) (H := (vH w None [some b14, some b1, ob11] w32)) (cs := cs11) (sp := sp11) (xs := out11) (ys := [r10, r11]) (Y := x14) (n := out11.length) (cap := cap11) (i := 2) zbb ti92 rfl rfl rfl rfl hL15 rfl rfl f20 rfl hc10 (zeh (pre := []) (o := 0) (n := 2) (cap := 2) (hL15.at 0 rfl rfl) hE11 rfl rfl rfl) hE11 q37 q38 q39 ?_)
    intro ob12 cap12 sp12 cs13 w33 hE34 hc15 (hL16 : vL w w33 [some b14, some b1, ob12] [zac ([] ++ (cs12 ++ [])), zac [c_v, c_v1, c_v2, c_v3, c_v4, c_v5, c_v6], zac ([] ++ (cs13 ++ sp12))]) hS11
    have K17 := ks w hS11
    refine zag (zam (v := (zO ob12 x14 cap12)) rfl ?_)
    refine zap (zcd (zah rfl (zag (zai (v := (zI i10)) rfl ?_))))
    refine zag (zco (x := i10) (y := 1) (z := (iw (i10 + 1))) rfl rfl rfl ?_)
    refine zag (zam (v := (zI (iw (i10 + 1)))) rfl (zap ?_))
    have hp13 := hL16.pick [1, 2] rfl rfl rfl
    have hL17 : vL w w33 [some b1, ob12] [zac [c_v, c_v1, c_v2, c_v3, c_v4, c_v5, c_v6], zac ([] ++ (cs13 ++ sp12))] := hp13.1
    have K18 := ks w hp13.2
    have f21 := ((hE34.mono (K17 None)).mono (K18 None))
    obtain rfl := zae h
    refine zas ⟨(x14, (iw (i10 + 1))), rfl, ?_⟩
    exact ⟨ob12, cap12, sp12, cs13, x14.length, _, (zeq ⟨rfl, rfl, rfl, rfl, rfl, trivial⟩), hL17, (zao (zao (zao (zao K12 K13) K16) K17) K18), f21, rfl, hc15, trivial⟩
   replace h := ite_f hc12 h
   refine zbp (zcd (zah rfl (zag (zai (v := (zI i10)) rfl ?_))))
   refine zag (zco (x := i10) (y := 1) (z := (iw (i10 + 1))) rfl rfl rfl ?_)
   refine zag (zam (v := (zI (iw (i10 + 1)))) rfl (zap ?_))
   obtain rfl := zae h
   refine zas ⟨(out11, (iw (i10 + 1))), rfl, ?_⟩
   exact ⟨ob11, cap11, sp11, cs11, out11.length, _, (zeq ⟨rfl, rfl, rfl, rfl, rfl, trivial⟩), hL12, K12, hE10, rfl, hc10, trivial⟩
  replace h := ite_f hc11 h
  refine zde rfl ?_
  obtain rfl := zae h
  obtain rfl := hd10 _ rfl
  replace h := g10
  try dsimp only at h
  refine zas ?_
  exact ⟨out11, ob11, cap11, sp11, cs11, out11.length, _, rfl, (zeq ⟨rfl, rfl, rfl, rfl, trivial⟩), hL12, K12, hE10, rfl, hc10, trivial⟩
 rintro _ w34 ⟨out10, ob10, cap10, sp10, cs10, ln10, u, rfl, rfl, hL18, K19, hE35, rfl, hc16, -⟩
 replace h := g10
 try dsimp only at h
 refine zal (zal (zah rfl (zag (zam (v := (zI 0)) rfl (zap ?_)))))
 obtain ⟨s11, hl11, g11⟩ := zen h
 refine zch (fun e w' => ∃ (out12 : (List Constraint)) (ob13 : Option Nat) (cap13 : Nat) (sp13 : List Value) (cs14 : List Value) (ln12 : Nat) (u : Env), out12 = s11 ∧ e = upds [(4, (zak (some ⟨b1, 0, none⟩))), (7, (osv ob13 0 ln12 cap13))] u ∧ vL w w' [some b1, ob13] [zac [c_v, c_v1, c_v2, c_v3, c_v4, c_v5, c_v6], zac ([] ++ (cs14 ++ sp13))] ∧ Keep w.heap.size [some b1, ob10] w34 [some b1, ob13] w' ∧ Els rConstraint (vH w None [some b1, ob13] w') cs14 out12 ∧ ln12 = List.length out12 ∧ (cs14 ++ sp13).length = cap13 * rConstraint.sz ∧ True) ?_ ?_
 ·
  refine zbq ?_
  refine zcx hl11 (fun (ss : ((List Constraint) × Int)) (e : Env) (w' : World) => match ss with | (out13, i11) => ∃ (ob14 : Option Nat) (cap14 : Nat) (sp14 : List Value) (cs15 : List Value) (ln13 : Nat) (u : Env), e = upds [(0, l_v), (2, ranges_v), (4, (zak (some ⟨b1, 0, none⟩))), (7, (osv ob14 0 ln13 cap14)), (10, (zI i11))] u ∧ vL w w' [some b1, ob14] [zac [c_v, c_v1, c_v2, c_v3, c_v4, c_v5, c_v6], zac ([] ++ (cs15 ++ sp14))] ∧ Keep w.heap.size [some b1, ob10] w34 [some b1, ob14] w' ∧ Els rConstraint (vH w None [some b1, ob14] w') cs15 out13 ∧ ln13 = List.length out13 ∧ (cs15 ++ sp14).length = cap14 * rConstraint.sz ∧ True) ⟨ob10, cap10, sp10, cs10, out10.length, _, (zeq ⟨rfl, rfl, rfl, rfl, rfl, trivial⟩), hL18, zcj, hE35, rfl, hc16, trivial⟩ ?_
  rintro ⟨out13, i11⟩ oo _ w35 ⟨ob14, cap14, sp14, cs15, ln13, u, rfl, hL19, K20, hE36, rfl, hc17, -⟩ h hd11
  rw [wInts_b2] at h
  refine zal (zal (zah rfl (zag (zai (v := (zI i11)) rfl ?_))))
  refine zag (zaj (q := 2) zax rfl ti24 rfl rfl rfl ?_)
  refine zag (zat (v := c_v2) zcr rfl rfl (hL19.at 0 rfl rfl) rfl ?_)
  have f22 := (((c_h2.mono (K4 S)).mono (K19 S)).mono (K20 S))
  refine zag (zbl (v := c_v2) zcr rfl f22 ?_)
  refine zag (zcq (x := i11) (y := (c.Auxiliary.length : Int)) ((i11 : Int) < (c.Auxiliary.length : Int)) rfl rfl zbe (zap ?_))
  refine zbk ((i11 : Int) < (c.Auxiliary.length : Int)) rfl (fun hc18 => ?_) (fun hc18 => ?_)
  ·
   replace h := ite_t hc18 h
   refine zbp (zal (zbq (zal (zah rfl (zag (zaj (q := 2) zax rfl ti24 rfl rfl rfl ?_))))))
   refine zag (zat (v := c_v2) zcr rfl rfl (hL19.at 0 rfl rfl) rfl ?_)
   refine zag (zai (v := (zI i11)) rfl ?_)
   obtain ⟨x15, n14, q41, q42, -, h⟩ := zix h
   obtain ⟨b15, o14, c14, vs14, q43, q44, f23, q45⟩ := zcz f22 q42
   obtain ⟨v12, rfl, k12, -⟩ := rRAux_open q45
   refine zag (zbf (r := rRAux) (v := c_v2) (n := n14) (m := (o14 + n14 * rRAux.sz)) zcr ti104 rfl q43 rfl q41 q42 rfl ?_)
   refine zag (zdi (vs := [(zI x15.Of.Const), v12, (zI x15.By), (zI x15.Text)]) zcg rfl ti104 rfl rfl zes f23 ?_)
   refine zag (zai (v := l_v) rfl ?_)
   have f24 := (((l_h.mono (K4 S)).mono (K19 S)).mono (K20 S))
   refine zag (zbl (v := l_v) zbm rfl f24 ?_)
   refine zag (zai (v := (zI i11)) rfl ?_)
   refine zag (zco (x := (l.length : Int)) (y := i11) (z := (iw ((l.length : Int) + i11))) rfl rfl rfl ?_)
   refine zag (zcl (cs := [(zI 0), zN, (zI 0), (zI 0)]) ti104 rfl hL19 ?_)
   intro b16 w36 hL20 hS12
   have K21 := ks w hS12
   have f25 := (k12.mono (K21 S))
   refine zdc (zbw (vs := [(zI x15.Of.Const), v12, (zI x15.By), (zI x15.Text)]) ti104 rfl rfl rfl rfl (zep rfl (zep f25.one (zep rfl (zep rfl zet)))) hL20 0 rfl rfl (zaf rfl) ?_)
   intro w37 (hL21 : vL w w37 [some b16, some b1, ob14] [zac [(zI x15.Of.Const), v12, (zI x15.By), (zI x15.Text)], zac [c_v, c_v1, c_v2, c_v3, c_v4, c_v5, c_v6], zac ([] ++ (cs15 ++ sp14))]) hS13
   have K22 := ks w hS13
   refine zag (zam (v := (zI (iw ((l.length : Int) + i11)))) rfl ?_)
   refine zap (zal (zal (zah rfl (zag (zaj (q := 2) zcg rfl ti2 rfl rfl rfl ?_)))))
   refine zag (zat (v := (zI x15.By)) zbr rfl rfl (hL21.at 0 rfl rfl) rfl ?_)
   refine zag (zeb (x := x15.By) (y := 0) ((x15.By : Int) = 0) rfl rfl zbe (zap ?_))
   refine zbk ((x15.By : Int) = 0) rfl (fun hc19 => ?_) (fun hc19 => ?_)
   ·
    replace h := ite_t hc19 h
    refine zal ?_
    obtain ⟨x16, n15, q47, q48, -, h⟩ := zix h
    have f26 := (((((ranges_h.mono (K4 S)).mono (K19 S)).mono (K20 S)).mono (K21 S)).mono (K22 S))
    obtain ⟨b17, o15, c15, vs15, q49, q50, f27, q51⟩ := zcz f26 q48
    obtain ⟨rfl, -⟩ := rArr2Int_open q51
    have f28 := (f27.part (us := [(zI x16.e0)]) 0 rfl)
    obtain ⟨r12, q52, h⟩ := zen h
    obtain ⟨r13, q53, h⟩ := zen h
    obtain ⟨r14, q54, h⟩ := zen h
    refine zck 18 [] [] (fun W1 => [.det (zO ob14 out13 cap14), .det (zI (iw ((l.length : Int) + i11))), .det ranges_v, .det (zak (some ⟨b16, 3, none⟩)), .det (zI x15.Text), .det (zak (some ⟨b17, (o15 + n15 * rArr2Int.sz), none⟩)), .det (zak (some ⟨b17, (o15 + n15 * rArr2Int.sz) + 0, none⟩)), .det (zI x16.e0), .rel (fun v Z w' => ∃ v13, (zar #[(zI r12.Linear.Const), v13, (zab r12.Equal)]) = v ∧ Rs rCoef (vZ W1 w None [some b16, some b1, ob14] Z w') v13 r12.Linear.Coefs ∧ True) (fun _ => []), .det (zI (iw ((l.length : Int) + i11))), .det l_v, .det ranges_v, .det (zak (some ⟨b16, 3, none⟩)), .det (zI x15.Text), .det (zI r13), .det (zI (iw (0 - r13))), .rel (fun v Z w' => ∃ v14, (zar #[(zI r14.Linear.Const), v14, (zab r14.Equal)]) = v ∧ Rs rCoef (vZ W1 w None [some b16, some b1, ob14] Z w') v14 r14.Linear.Coefs ∧ True) (fun _ => []), .rel (fun v Z w' => ∃ b18 cs16, (osv (some b18) 0 2 2) = v ∧ OwnC w' (some b18) (zac ([] ++ (cs16 ++ []))) ∧ Els rConstraint (vZ W1 w None [some b16, some b1, ob14] Z w') cs16 [r12, r14] ∧ (cs16 ++ [] : List Value).length = 2 * rConstraint.sz ∧ True) footV]) mixed rfl rfl rfl (fun _ => rfl) (fun _ => rfl) ?_ ?_
    ·
     intro W1 _
     exact ⟨fun v Z Z' w w' hΦ hz _ _ hs => by obtain ⟨v13, rfl, k13, -⟩ := hΦ; exact ⟨v13, rfl, (k13.mono (zdo hz hs)), trivial⟩, ⟨fun v Z Z' w w' hΦ hz _ _ hs => by obtain ⟨v14, rfl, k14, -⟩ := hΦ; exact ⟨v14, rfl, (k14.mono (zdo hz hs)), trivial⟩, ⟨fun v Z Z' w w' hΦ hz _ _ hs => by obtain ⟨b18, cs16, rfl, hO11, hE37, hc20, -⟩ := hΦ; exact ⟨b18, cs16, rfl, (hO11.stay (fun b hb => by cases hb; exact zbs) hs), (hE37.mono (zdo hz hs)), hc20, trivial⟩, trivial⟩⟩⟩
    intro w38 hE38
    obtain ⟨hL22, K23⟩ := zl hL21 hE38
    refine zan (fun _ _ => zaq (zai rfl (er rfl))) ?_
    refine zan (fun _ _ => zaq (zai rfl (er rfl))) ?_
    refine zan (fun _ _ => zaq (zai rfl (er rfl))) ?_
    refine zan (fun _ _ => zaq (zaj zcg rfl ti3 rfl rfl rfl (er rfl))) ?_
    refine zan (fun _ hE43 => zaq (zat zau rfl rfl ((hL22.ext hE43).at 0 rfl rfl) rfl (er rfl))) ?_
    refine zan (fun _ _ => zaq (zbf (r := rArr2Int) (v := ranges_v) (n := n15) (m := (o15 + n15 * rArr2Int.sz)) zca ti54 rfl q49 rfl q47 q48 rfl (er rfl))) ?_
    refine zan (fun _ _ => zaq (zcu (i := 0) (q := (o15 + n15 * rArr2Int.sz) + 0) zct ti3 rfl rfl (by decide) rfl (er rfl))) ?_
    refine zan (fun _ hE46 => zaq (zbx zau rfl rfl zes (zbi ((ke hL22 hE46) S) (zbi (K23 S) f28)) (er rfl))) ?_
    refine zdp ?_ ?_
    ·
     rintro w47 Z45 hE47 hZ36 ⟨-⟩
     refine zaq (zbc en43 rfl rfl (watMost_w N (iw ((l.length : Int) + i11)) (-1) x16.e0 _ Any r12 q52) ?_)
     rintro _ w48 hE48 ⟨v13, rfl, k13, -⟩
     exact zdm hE48 hZ36 zcv (fun _ h => h) ⟨v13, rfl, (k13.mono zdx), trivial⟩
    intro z8
    refine zan (fun _ _ => zaq (zai rfl (er rfl))) ?_
    refine zan (fun _ _ => zaq (zai rfl (er rfl))) ?_
    refine zan (fun _ _ => zaq (zai rfl (er rfl))) ?_
    refine zan (fun _ _ => zaq (zaj zcg rfl ti3 rfl rfl rfl (er rfl))) ?_
    refine zan (fun _ hE53 => zaq (zat zau rfl rfl ((hL22.ext hE53).at 0 rfl rfl) rfl (er rfl))) ?_
    refine DrH.det ?_ ?_
    ·
     rintro w54 Z51 hE54 hZ42 ⟨⟨⟨v13, rfl, k13, -⟩, hB8⟩, -⟩
     have K25 := ke hL22 hE54
     refine zaq (zbc en44 rfl rfl (whigh_w N l ranges x15.Text l_v ranges_v _ Any (((((f24.mono (K21 S)).mono (K22 S)).mono (K23 S)).mono (K25 S)).mono vw_any) (((f26.mono (K23 S)).mono (K25 S)).mono vw_any) r13 q53) ?_)
     rintro _ w55 hE55 ⟨rfl, -⟩
     exact ⟨hE55, rfl⟩
    refine zan (fun _ _ => zaq (OpY.neg (x := r13) (z := (iw (0 - r13))) rfl rfl (er rfl))) ?_
    refine zdp ?_ ?_
    ·
     rintro w57 Z53 hE57 hZ44 ⟨-, -⟩
     refine zaq (zbc en43 rfl rfl (watMost_w N (iw ((l.length : Int) + i11)) 1 (iw (0 - r13)) _ Any r14 q54) ?_)
     rintro _ w58 hE58 ⟨v14, rfl, k14, -⟩
     exact zdm hE58 hZ44 zcv (fun _ h => h) ⟨v14, rfl, (k14.mono zdx), trivial⟩
    intro z11
    refine zdp ?_ ?_
    ·
     rintro w59 Z54 hE59 hZ45 ⟨⟨⟨v14, rfl, k14, -⟩, hB11⟩, ⟨⟨v13, rfl, k13, -⟩, hB8⟩, -⟩
     have hE60 : Els rConstraint (vZ w38 w None [some b16, some b1, ob14] Z54 w59) [(zI r12.Linear.Const), v13, (zab r12.Equal), (zI r14.Linear.Const), v14, (zab r14.Equal)] [r12, r14] := (zdg (a := [(zI r12.Linear.Const), v13, (zab r12.Equal)]) (rConstraint_close ⟨v13, rfl, k13, trivial⟩) (zdg (a := [(zI r14.Linear.Const), v14, (zab r14.Equal)]) (rConstraint_close ⟨v14, rfl, k14, trivial⟩) zdh))
     refine zaq (zda (r := rConstraint) (vs := [(zar #[(zI r12.Linear.Const), v13, (zab r12.Equal)]), (zar #[(zI r14.Linear.Const), v14, (zab r14.Equal)])]) (css := [[(zI r12.Linear.Const), v13, (zab r12.Equal)], [(zI r14.Linear.Const), v14, (zab r14.Equal)]]) (xs := [r12, r14]) zbb ti92 (zaf rfl) rfl rfl ⟨rfl, rfl, ⟨rfl, rfl, trivial⟩⟩ (zaf rfl) hE60 rfl (Go.X.Loc.begin0 w59) ?_)
     intro b18 w60 hc21 hL25 hS14
     have hN12 : NewOwn w59 w60 [some b18] [zac ([] ++ ([(zI r12.Linear.Const), v13, (zab r12.Equal), (zI r14.Linear.Const), v14, (zab r14.Equal)] ++ []))] := hL25.newOwn [0] rfl rfl rfl
     exact zdm hL25.done hZ45 hN12 (fun _ h => h) ⟨b18, [(zI r12.Linear.Const), v13, (zab r12.Equal), (zI r14.Linear.Const), v14, (zab r14.Equal)], rfl, hN12.2.2.1, (hE60.mono (Zv.grow hL25.done)), hc21, trivial⟩
    intro z12
    refine zcw ?_
    rintro w61 Z55 hE61 hZ46 ⟨⟨⟨b18, cs16, rfl, hO11, hE37, hc20, -⟩, hB13⟩, ⟨⟨v14, rfl, k14, -⟩, hB11⟩, ⟨⟨v13, rfl, k13, -⟩, hB8⟩, -⟩ ap11
    have hB14 : ∀ b, some b ∈ ([some b18] : List (Option Nat)) → w38.heap.size ≤ b ∧ ¬ Z55 b := by
     intro b hb
     rcases List.mem_cons.1 hb with hb' | hb
     ·
      have := hB13 b (by rw [hb']; exact zbs); exact ⟨this.1, this.2.2⟩
     cases hb
    replace hE37 := hE37.mono (zdw hL22 hZ46 hB14)
    replace k14 := k14.mono (zdw hL22 hZ46 hB14)
    replace k13 := k13.mono (zdw hL22 hZ46 hB14)
    have hN13 : NewOwn w38 w61 [some b18] [zac ([] ++ (cs16 ++ []))] := (zdy zcv hO11 (fun b hb => (hB14 b (by rw [← hb]; simp)).1) (fun b _ hb => by cases hb))
    have hp14 := hL22.adoptL hE61 hN13
    have hL26 := hp14.1
    have K26 := ks w hp14.2
    obtain ⟨x17, q55, h⟩ := zen h
    obtain ⟨q56, q57, q58⟩ := zew q55
    have f29 := ((((hE36.mono (K21 None)).mono (K22 None)).mono (K23 None)).mono (K26 None))
    refine zag (zds (r := rConstraint) (H := (vH w None [some b18, some b16, some b1, ob14] w61)) (cs := cs15) (sp := sp14) (xs := out13) (ys := [r12, r14]) (Y := x17) (n := out13.length) (cap := cap14) (i := 3) zbb ti92 rfl rfl rfl rfl hL26 rfl rfl f29 rfl hc17 (zeh (pre := []) (o := 0) (n := 2) (cap := 2) (hL26.at 0 rfl rfl) hE37 rfl rfl rfl) hE37 q56 q57 q58 ?_)
    intro ob15 cap15 sp15 cs17 w62 hE62 hc22 (hL27 : vL w w62 [some b18, some b16, some b1, ob15] [zac ([] ++ (cs16 ++ [])), zac [(zI x15.Of.Const), v12, (zI x15.By), (zI x15.Text)], zac [c_v, c_v1, c_v2, c_v3, c_v4, c_v5, c_v6], zac ([] ++ (cs17 ++ sp15))]) hS15
    have K27 := ks w hS15
    refine zag (zam (v := (zO ob15 x17 cap15)) rfl ?_)
    refine zap (zde rfl (zah rfl (zag (zai (v := (zI i11)) rfl ?_))))
    refine zag (zco (x := i11) (y := 1) (z := (iw (i11 + 1))) rfl rfl rfl ?_)
    refine zag (zam (v := (zI (iw (i11 + 1)))) rfl (zap ?_))
    have hp15 := hL27.pick [2, 3] rfl rfl rfl
    have hL28 : vL w w62 [some b1, ob15] [zac [c_v, c_v1, c_v2, c_v3, c_v4, c_v5, c_v6], zac ([] ++ (cs17 ++ sp15))] := hp15.1
    have K28 := ks w hp15.2
    have f30 := ((hE62.mono (K27 None)).mono (K28 None))
    obtain rfl := zae h
    refine zas ⟨(x17, (iw (i11 + 1))), rfl, ?_⟩
    exact ⟨ob15, cap15, sp15, cs17, x17.length, _, (zeq ⟨rfl, rfl, rfl, rfl, rfl, trivial⟩), hL28, (zao (zao (zao (zao (zao (zao K20 K21) K22) K23) K26) K27) K28), f30, rfl, hc22, trivial⟩
   replace h := ite_f hc19 h
   refine zbp (zal ?_)
   obtain ⟨r15, q59, h⟩ := zen h
   refine zck 15 [] [] (fun W1 => [.det (zO ob14 out13 cap14), .det (zak (some ⟨b16, 0, none⟩)), .det (zak (some ⟨b16, 0, none⟩)), .det (zI x15.Of.Const), .det (zI (iw (0 - x15.Of.Const))), .det (zak (some ⟨b16, 0, none⟩)), .det (zar #[(zI x15.Of.Const), v12]), .det (zI (iw ((l.length : Int) + i11))), .det (zak (some ⟨b16, 2, none⟩)), .det (zI x15.By), .det (zar #[(zI (iw ((l.length : Int) + i11))), (zI x15.By)]), .rel (fun v Z w' => ∃ ob16 cap16, (zO ob16 r15 cap16) = v ∧ Rs rCoef (vZ W1 w None [some b16, some b1, ob14] Z w') (zO ob16 r15 cap16) r15 ∧ True) (fun _ => []), .rel (fun v Z w' => ∃ ob17 cap17, (zar #[(zI (iw (0 - x15.Of.Const))), (zO ob17 r15 cap17)]) = v ∧ Rs rCoef (vZ W1 w None [some b16, some b1, ob14] Z w') (zO ob17 r15 cap17) r15 ∧ True) (fun _ => []), .rel (fun v Z w' => ∃ ob18 cap18, (zar #[(zI (iw (0 - x15.Of.Const))), (zO ob18 r15 cap18), zF]) = v ∧ Rs rCoef (vZ W1 w None [some b16, some b1, ob14] Z w') (zO ob18 r15 cap18) r15 ∧ True) (fun _ => []), .rel (fun v Z w' => ∃ b19 cs18, (osv (some b19) 0 1 1) = v ∧ OwnC w' (some b19) (zac ([] ++ (cs18 ++ []))) ∧ Els rConstraint (vZ W1 w None [some b16, some b1, ob14] Z w') cs18 [(Constraint.mk (Linear.mk (iw (0 - x15.Of.Const)) r15) false)] ∧ (cs18 ++ [] : List Value).length = 1 * rConstraint.sz ∧ True) footV]) mixed rfl rfl rfl (fun _ => rfl) (fun _ => rfl) ?_ ?_
   ·
    intro W1 _
    exact ⟨fun v Z Z' w w' hΦ hz _ _ hs => by obtain ⟨ob16, cap16, rfl, k15, -⟩ := hΦ; exact ⟨ob16, cap16, rfl, (k15.mono (zdo hz hs)), trivial⟩, ⟨fun v Z Z' w w' hΦ hz _ _ hs => by obtain ⟨ob17, cap17, rfl, k16, -⟩ := hΦ; exact ⟨ob17, cap17, rfl, (k16.mono (zdo hz hs)), trivial⟩, ⟨fun v Z Z' w w' hΦ hz _ _ hs => by obtain ⟨ob18, cap18, rfl, k17, -⟩ := hΦ; exact ⟨ob18, cap18, rfl, (k17.mono (zdo hz hs)), trivial⟩, ⟨fun v Z Z' w w' hΦ hz _ _ hs => by obtain ⟨b19, cs18, rfl, hO12, hE63, hc23, -⟩ := hΦ; exact ⟨b19, cs18, rfl, (hO12.stay (fun b hb => by cases hb; exact zbs) hs), (hE63.mono (zdo hz hs)), hc23, trivial⟩, trivial⟩⟩⟩⟩
   intro w63 hE64
   obtain ⟨hL29, K29⟩ := zl hL21 hE64
   refine zan (fun _ _ => zaq (zai rfl (er rfl))) ?_
   refine zan (fun _ _ => zaq (zaj zcg rfl ti90 rfl rfl rfl (er rfl))) ?_
   refine zan (fun _ _ => zaq (zaj zaz rfl ti2 rfl rfl rfl (er rfl))) ?_
   refine zan (fun _ hE68 => zaq (zat zbr rfl rfl ((hL29.ext hE68).at 0 rfl rfl) rfl (er rfl))) ?_
   refine zan (fun _ _ => zaq (OpY.neg (x := x15.Of.Const) (z := (iw (0 - x15.Of.Const))) rfl rfl (er rfl))) ?_
   refine zan (fun _ _ => zaq (zaj zcg rfl ti90 rfl rfl rfl (er rfl))) ?_
   refine zan (fun _ hE71 => zaq (zbt (vs := [(zI x15.Of.Const), v12]) zaz rfl ti90 rfl ((hL29.ext hE71).at 0 rfl rfl) rfl rfl (er rfl))) ?_
   refine zan (fun _ _ => zaq (zai rfl (er rfl))) ?_
   refine zan (fun _ _ => zaq (zaj zcg rfl ti2 rfl rfl rfl (er rfl))) ?_
   refine zan (fun _ hE74 => zaq (zat zbr rfl rfl ((hL29.ext hE74).at 0 rfl rfl) rfl (er rfl))) ?_
   refine zan (fun _ _ => zaq (zcm (zc := [(zI 0), (zI 0)]) (cs := [(zI (iw ((l.length : Int) + i11))), (zI x15.By)]) (is := [0, 1]) (vs := [(zI (iw ((l.length : Int) + i11))), (zI x15.By)]) (css := [[(zI (iw ((l.length : Int) + i11)))], [(zI x15.By)]]) pl87 ti87 rfl rfl rfl ⟨rfl, rfl, trivial⟩ rfl (er rfl))) ?_
   refine zdp ?_ ?_
   ·
    rintro w75 Z67 hE76 hZ58 ⟨-⟩
    have K30 := ke hL29 hE76
    refine zaq (zbc en45 rfl rfl (wscaled_w N x15.Of (-1) (Coef.mk (iw ((l.length : Int) + i11)) x15.By) v12 _ Any ((((f25.mono (K22 S)).mono (K29 S)).mono (K30 S)).mono vw_any) r15 q59) ?_)
    rintro _ w76 hE77 ⟨ob16, cap16, cs19, sp16, rfl, hN14, hE78, hc24, -⟩
    have k15 := own_row_made (pre := []) (o := 0) (n := List.length r15) (cap := cap16) hN14 hE78 rfl rfl rfl hc24
    exact zdm hE77 hZ58 zcv (fun _ h => h) ⟨ob16, cap16, rfl, (k15.mono zdx), trivial⟩
   intro z13
   refine zdp ?_ ?_
   ·
    rintro w77 Z68 hE79 hZ59 ⟨⟨⟨ob16, cap16, rfl, k15, -⟩, hB15⟩, -⟩
    refine zaq (zcm (zc := [(zI 0), zN]) (cs := [(zI (iw (0 - x15.Of.Const))), (zO ob16 r15 cap16)]) (is := [0, 1]) (vs := [(zI (iw (0 - x15.Of.Const))), (zO ob16 r15 cap16)]) (css := [[(zI (iw (0 - x15.Of.Const)))], [(zO ob16 r15 cap16)]]) pl90 ti90 rfl rfl rfl ⟨rfl, ⟨(zex k15.one), trivial⟩⟩ rfl ?_)
    exact Go.X.Made.same ⟨ob16, cap16, rfl, k15, trivial⟩
   intro z14
   refine zdp ?_ ?_
   ·
    rintro w78 Z69 hE80 hZ60 ⟨⟨⟨ob17, cap17, rfl, k16, -⟩, hB16⟩, -, -⟩
    refine zaq (zcm (zc := [(zI 0), zN, zF]) (cs := [(zI (iw (0 - x15.Of.Const))), (zO ob17 r15 cap17), zF]) (is := [0]) (vs := [(zar #[(zI (iw (0 - x15.Of.Const))), (zO ob17 r15 cap17)])]) (css := [[(zI (iw (0 - x15.Of.Const))), (zO ob17 r15 cap17)]]) pl92 ti92 rfl rfl rfl zrt rfl ?_)
    exact Go.X.Made.same ⟨ob17, cap17, rfl, k16, trivial⟩
   intro z15
   refine zdp ?_ ?_
   ·
    rintro w79 Z70 hE81 hZ61 ⟨⟨⟨ob18, cap18, rfl, k17, -⟩, hB17⟩, -, -, -⟩
    have hE82 : Els rConstraint (vZ w63 w None [some b16, some b1, ob14] Z70 w79) [(zI (iw (0 - x15.Of.Const))), (zO ob18 r15 cap18), zF] [(Constraint.mk (Linear.mk (iw (0 - x15.Of.Const)) r15) false)] := (zdg (a := [(zI (iw (0 - x15.Of.Const))), (zO ob18 r15 cap18), zF]) (rConstraint_close ⟨(zO ob18 r15 cap18), rfl, k17, trivial⟩) zdh)
    refine zaq (zda (r := rConstraint) (vs := [(zar #[(zI (iw (0 - x15.Of.Const))), (zO ob18 r15 cap18), zF])]) (css := [[(zI (iw (0 - x15.Of.Const))), (zO ob18 r15 cap18), zF]]) (xs := [(Constraint.mk (Linear.mk (iw (0 - x15.Of.Const)) r15) false)]) zbb ti92 (zaf rfl) rfl rfl ⟨rfl, rfl, trivial⟩ (zaf rfl) hE82 rfl (Go.X.Loc.begin0 w79) ?_)
    intro b19 w80 hc25 hL33 hS16
    have hN15 : NewOwn w79 w80 [some b19] [zac ([] ++ ([(zI (iw (0 - x15.Of.Const))), (zO ob18 r15 cap18), zF] ++ []))] := hL33.newOwn [0] rfl rfl rfl
    exact zdm hL33.done hZ61 hN15 (fun _ h => h) ⟨b19, [(zI (iw (0 - x15.Of.Const))), (zO ob18 r15 cap18), zF], rfl, hN15.2.2.1, (hE82.mono (Zv.grow hL33.done)), hc25, trivial⟩
   intro z16
   refine zcw ?_
   rintro w81 Z71 hE83 hZ62 ⟨⟨⟨b19, cs18, rfl, hO12, hE63, hc23, -⟩, hB18⟩, ⟨⟨ob18, cap18, rfl, k17, -⟩, hB17⟩, ⟨⟨ob17, cap17, rfl, k16, -⟩, hB16⟩, ⟨⟨ob16, cap16, rfl, k15, -⟩, hB15⟩, -⟩ ap12
   have hB19 : ∀ b, some b ∈ ([some b19] : List (Option Nat)) → w63.heap.size ≤ b ∧ ¬ Z71 b := by
    intro b hb
    rcases List.mem_cons.1 hb with hb' | hb
    ·
     have := hB18 b (by rw [hb']; exact zbs); exact ⟨this.1, this.2.2⟩
    cases hb
   replace hE63 := hE63.mono (zdw hL29 hZ62 hB19)
   replace k17 := k17.mono (zdw hL29 hZ62 hB19)
   replace k16 := k16.mono (zdw hL29 hZ62 hB19)
   replace k15 := k15.mono (zdw hL29 hZ62 hB19)
   have hN16 : NewOwn w63 w81 [some b19] [zac ([] ++ (cs18 ++ []))] := (zdy zcv hO12 (fun b hb => (hB19 b (by rw [← hb]; simp)).1) (fun b _ hb => by cases hb))
   have hp16 := hL29.adoptL hE83 hN16
   have hL34 := hp16.1
   have K31 := ks w hp16.2
   obtain ⟨x18, q60, h⟩ := zen h
   obtain ⟨q61, q62, q63⟩ := zew q60
   have f31 := ((((hE36.mono (K21 None)).mono (K22 None)).mono (K29 None)).mono (K31 None))
   refine zag (zds (r := rConstraint) (H := (vH w None [some b19, some b16, some b1, ob14] w81)) (cs := cs15) (sp := sp14) (xs := out13) (ys := [(Constraint.mk (Linear.mk (iw (0 - x15.Of.Const)) r15) false)]) (Y := x18) (n := out13.length) (cap := cap14) (i := 3) zbb ti92 rfl rfl rfl rfl hL34 rfl rfl f31 rfl hc17 (zeh (pre := []) (o := 0) (n := 1) (cap := 1) (hL34.at 0 rfl rfl) hE63 rfl rfl rfl) hE63 q61 q62 q63 ?_)
   intro ob19 cap19 sp17 cs20 w82 hE84 hc26 (hL35 : vL w w82 [some b19, some b16, some b1, ob19] [zac ([] ++ (cs18 ++ [])), zac [(zI x15.Of.Const), v12, (zI x15.By), (zI x15.Text)], zac [c_v, c_v1, c_v2, c_v3, c_v4, c_v5, c_v6], zac ([] ++ (cs20 ++ sp17))]) hS17
   have K32 := ks w hS17
   refine zag (zam (v := (zO ob19 x18 cap19)) rfl (zap ?_))
   obtain ⟨r16, q64, h⟩ := zen h
   refine zck 19 [] [] (fun W1 => [.det (zO ob19 x18 cap19), .det (zak (some ⟨b16, 0, none⟩)), .det (zak (some ⟨b16, 0, none⟩)), .det (zI x15.Of.Const), .det (zak (some ⟨b16, 2, none⟩)), .det (zI x15.By), .det (zI (iw (x15.Of.Const - x15.By))), .det (zI (iw ((iw (x15.Of.Const - x15.By)) + 1))), .det (zak (some ⟨b16, 0, none⟩)), .det (zar #[(zI x15.Of.Const), v12]), .det (zI (iw ((l.length : Int) + i11))), .det (zak (some ⟨b16, 2, none⟩)), .det (zI x15.By), .det (zI (iw (0 - x15.By))), .det (zar #[(zI (iw ((l.length : Int) + i11))), (zI (iw (0 - x15.By)))]), .rel (fun v Z w' => ∃ ob20 cap20, (zO ob20 r16 cap20) = v ∧ Rs rCoef (vZ W1 w None [some b19, some b16, some b1, ob19] Z w') (zO ob20 r16 cap20) r16 ∧ True) (fun _ => []), .rel (fun v Z w' => ∃ ob21 cap21, (zar #[(zI (iw ((iw (x15.Of.Const - x15.By)) + 1))), (zO ob21 r16 cap21)]) = v ∧ Rs rCoef (vZ W1 w None [some b19, some b16, some b1, ob19] Z w') (zO ob21 r16 cap21) r16 ∧ True) (fun _ => []), .rel (fun v Z w' => ∃ ob22 cap22, (zar #[(zI (iw ((iw (x15.Of.Const - x15.By)) + 1))), (zO ob22 r16 cap22), zF]) = v ∧ Rs rCoef (vZ W1 w None [some b19, some b16, some b1, ob19] Z w') (zO ob22 r16 cap22) r16 ∧ True) (fun _ => []), .rel (fun v Z w' => ∃ b20 cs21, (osv (some b20) 0 1 1) = v ∧ OwnC w' (some b20) (zac ([] ++ (cs21 ++ []))) ∧ Els rConstraint (vZ W1 w None [some b19, some b16, some b1, ob19] Z w') cs21 [(Constraint.mk (Linear.mk (iw ((iw (x15.Of.Const - x15.By)) + 1)) r16) false)] ∧ (cs21 ++ [] : List Value).length = 1 * rConstraint.sz ∧ True) footV]) mixed rfl rfl rfl (fun _ => rfl) (fun _ => rfl) ?_ ?_
   ·
    intro W1 _
    exact ⟨fun v Z Z' w w' hΦ hz _ _ hs => by obtain ⟨ob20, cap20, rfl, k18, -⟩ := hΦ; exact ⟨ob20, cap20, rfl, (k18.mono (zdo hz hs)), trivial⟩, ⟨fun v Z Z' w w' hΦ hz _ _ hs => by obtain ⟨ob21, cap21, rfl, k19, -⟩ := hΦ; exact ⟨ob21, cap21, rfl, (k19.mono (zdo hz hs)), trivial⟩, ⟨fun v Z Z' w w' hΦ hz _ _ hs => by obtain ⟨ob22, cap22, rfl, k20, -⟩ := hΦ; exact ⟨ob22, cap22, rfl, (k20.mono (zdo hz hs)), trivial⟩, ⟨fun v Z Z' w w' hΦ hz _ _ hs => by obtain ⟨b20, cs21, rfl, hO13, hE85, hc27, -⟩ := hΦ; exact ⟨b20, cs21, rfl, (hO13.stay (fun b hb => by cases hb; exact zbs) hs), (hE85.mono (zdo hz hs)), hc27, trivial⟩, trivial⟩⟩⟩⟩
   intro w83 hE86
   obtain ⟨hL36, K33⟩ := zl hL35 hE86
   refine zan (fun _ _ => zaq (zai rfl (er rfl))) ?_
   refine zan (fun _ _ => zaq (zaj zcg rfl ti90 rfl rfl rfl (er rfl))) ?_
   refine zan (fun _ _ => zaq (zaj zaz rfl ti2 rfl rfl rfl (er rfl))) ?_
   refine zan (fun _ hE90 => zaq (zat zbr rfl rfl ((hL36.ext hE90).at 1 rfl rfl) rfl (er rfl))) ?_
   refine zan (fun _ _ => zaq (zaj zcg rfl ti2 rfl rfl rfl (er rfl))) ?_
   refine zan (fun _ hE92 => zaq (zat zbr rfl rfl ((hL36.ext hE92).at 1 rfl rfl) rfl (er rfl))) ?_
   refine zan (fun _ _ => zaq (OpY.sub rfl rfl rfl (er rfl))) ?_
   refine zan (fun _ _ => zaq (zco rfl rfl rfl (er rfl))) ?_
   refine zan (fun _ _ => zaq (zaj zcg rfl ti90 rfl rfl rfl (er rfl))) ?_
   refine zan (fun _ hE96 => zaq (zbt (vs := [(zI x15.Of.Const), v12]) zaz rfl ti90 rfl ((hL36.ext hE96).at 1 rfl rfl) rfl rfl (er rfl))) ?_
   refine zan (fun _ _ => zaq (zai rfl (er rfl))) ?_
   refine zan (fun _ _ => zaq (zaj zcg rfl ti2 rfl rfl rfl (er rfl))) ?_
   refine zan (fun _ hE99 => zaq (zat zbr rfl rfl ((hL36.ext hE99).at 1 rfl rfl) rfl (er rfl))) ?_
   refine zan (fun _ _ => zaq (OpY.neg (x := x15.By) (z := (iw (0 - x15.By))) rfl rfl (er rfl))) ?_
   refine zan (fun _ _ => zaq (zcm (zc := [(zI 0), (zI 0)]) (cs := [(zI (iw ((l.length : Int) + i11))), (zI (iw (0 - x15.By)))]) (is := [0, 1]) (vs := [(zI (iw ((l.length : Int) + i11))), (zI (iw (0 - x15.By)))]) (css := [[(zI (iw ((l.length : Int) + i11)))], [(zI (iw (0 - x15.By)))]]) pl87 ti87 rfl rfl rfl ⟨rfl, rfl, trivial⟩ rfl (er rfl))) ?_
   refine zdp ?_ ?_
   ·
    rintro w99 Z87 hE102 hZ78 ⟨-⟩
    have K34 := ke hL36 hE102
    refine zaq (zbc en45 rfl rfl (wscaled_w N x15.Of 1 (Coef.mk (iw ((l.length : Int) + i11)) (iw (0 - x15.By))) v12 _ Any (((((((f25.mono (K22 S)).mono (K29 S)).mono (K31 S)).mono (K32 S)).mono (K33 S)).mono (K34 S)).mono vw_any) r16 q64) ?_)
    rintro _ w100 hE103 ⟨ob20, cap20, cs22, sp18, rfl, hN17, hE104, hc28, -⟩
    have k18 := own_row_made (pre := []) (o := 0) (n := List.length r16) (cap := cap20) hN17 hE104 rfl rfl rfl hc28
    exact zdm hE103 hZ78 zcv (fun _ h => h) ⟨ob20, cap20, rfl, (k18.mono zdx), trivial⟩
   intro z10
   refine zdp ?_ ?_
   ·
    rintro w101 Z88 hE105 hZ79 ⟨⟨⟨ob20, cap20, rfl, k18, -⟩, hB10⟩, -⟩
    refine zaq (zcm (zc := [(zI 0), zN]) (cs := [(zI (iw ((iw (x15.Of.Const - x15.By)) + 1))), (zO ob20 r16 cap20)]) (is := [0, 1]) (vs := [(zI (iw ((iw (x15.Of.Const - x15.By)) + 1))), (zO ob20 r16 cap20)]) (css := [[(zI (iw ((iw (x15.Of.Const - x15.By)) + 1)))], [(zO ob20 r16 cap20)]]) pl90 ti90 rfl rfl rfl ⟨rfl, ⟨(zex k18.one), trivial⟩⟩ rfl ?_)
    exact Go.X.Made.same ⟨ob20, cap20, rfl, k18, trivial⟩
   intro z11
   refine zdp ?_ ?_
   ·
    rintro w102 Z89 hE106 hZ80 ⟨⟨⟨ob21, cap21, rfl, k19, -⟩, hB11⟩, -, -⟩
    refine zaq (zcm (zc := [(zI 0), zN, zF]) (cs := [(zI (iw ((iw (x15.Of.Const - x15.By)) + 1))), (zO ob21 r16 cap21), zF]) (is := [0]) (vs := [(zar #[(zI (iw ((iw (x15.Of.Const - x15.By)) + 1))), (zO ob21 r16 cap21)])]) (css := [[(zI (iw ((iw (x15.Of.Const - x15.By)) + 1))), (zO ob21 r16 cap21)]]) pl92 ti92 rfl rfl rfl zrt rfl ?_)
    exact Go.X.Made.same ⟨ob21, cap21, rfl, k19, trivial⟩
   intro z12
   refine zdp ?_ ?_
   ·
    rintro w103 Z90 hE107 hZ81 ⟨⟨⟨ob22, cap22, rfl, k20, -⟩, hB13⟩, -, -, -⟩
    have hE108 : Els rConstraint (vZ w83 w None [some b19, some b16, some b1, ob19] Z90 w103) [(zI (iw ((iw (x15.Of.Const - x15.By)) + 1))), (zO ob22 r16 cap22), zF] [(Constraint.mk (Linear.mk (iw ((iw (x15.Of.Const - x15.By)) + 1)) r16) false)] := (zdg (a := [(zI (iw ((iw (x15.Of.Const - x15.By)) + 1))), (zO ob22 r16 cap22), zF]) (rConstraint_close ⟨(zO ob22 r16 cap22), rfl, k20, trivial⟩) zdh)
    refine zaq (zda (r := rConstraint) (vs := [(zar #[(zI (iw ((iw (x15.Of.Const - x15.By)) + 1))), (zO ob22 r16 cap22), zF])]) (css := [[(zI (iw ((iw (x15.Of.Const - x15.By)) + 1))), (zO ob22 r16 cap22), zF]]) (xs := [(Constraint.mk (Linear.mk (iw ((iw (x15.Of.Const - x15.By)) + 1)) r16) false)]) zbb ti92 (zaf rfl) rfl rfl ⟨rfl, rfl, trivial⟩ (zaf rfl) hE108 rfl (Go.X.Loc.begin0 w103) ?_)
    intro b20 w104 hc29 hL41 hS18
    have hN18 : NewOwn w103 w104 [some b20] [zac ([] ++ ([(zI (iw ((iw (x15.Of.Const - x15.By)) + 1))), (zO ob22 r16 cap22), zF] ++ []))] := hL41.newOwn [0] rfl rfl rfl
    exact zdm hL41.done hZ81 hN18 (fun _ h => h) ⟨b20, [(zI (iw ((iw (x15.Of.Const - x15.By)) + 1))), (zO ob22 r16 cap22), zF], rfl, hN18.2.2.1, (hE108.mono (Zv.grow hL41.done)), hc29, trivial⟩
   intro z17
   refine zcw ?_
   rintro w105 Z91 hE109 hZ82 ⟨⟨⟨b20, cs21, rfl, hO13, hE85, hc27, -⟩, hB20⟩, ⟨⟨ob22, cap22, rfl, k20, -⟩, hB13⟩, ⟨⟨ob21, cap21, rfl, k19, -⟩, hB11⟩, ⟨⟨ob20, cap20, rfl, k18, -⟩, hB10⟩, -⟩ ap13
   have hB21 : ∀ b, some b ∈ ([some b20] : List (Option Nat)) → w83.heap.size ≤ b ∧ ¬ Z91 b := by
    intro b hb
    rcases List.mem_cons.1 hb with hb' | hb
    ·
     have := hB20 b (by rw [hb']; exact zbs); exact ⟨this.1, this.2.2⟩
    cases hb
   replace hE85 := hE85.mono (zdw hL36 hZ82 hB21)
   replace k20 := k20.mono (zdw hL36 hZ82 hB21)
   replace k19 := k19.mono (zdw hL36 hZ82 hB21)
   replace k18 := k18.mono (zdw hL36 hZ82 hB21)
   have hN19 : NewOwn w83 w105 [some b20] [zac ([] ++ (cs21 ++ []))] := (zdy zcv hO13 (fun b hb => (hB21 b (by rw [← hb]; simp)).1) (fun b _ hb => by cases hb))
   have hp17 := hL36.adoptL hE109 hN19
   have hL42 := hp17.1
   have K35 := ks w hp17.2
   obtain ⟨x19, q65, h⟩ := zen h
   obtain ⟨q66, q67, q68⟩ := zew q65
   have f32 := (((hE84.mono (K32 None)).mono (K33 None)).mono (K35 None))
   refine zag (zds (r := rConstraint) (H := (vH w None [some b20, some b19, some b16, some b1, ob19] w105)) (cs := cs20) (sp := sp17) (xs := x18) (ys := [(Constraint.mk (Linear.mk (iw ((iw (x15.Of.Const - x15.By)) + 1)) r16) false)]) (Y := x19) (n := x18.length) (cap := cap19) (i := 4) zbb ti92 rfl rfl rfl rfl hL42 rfl rfl f32 rfl hc26 (zeh (pre := []) (o := 0) (n := 1) (cap := 1) (hL42.at 0 rfl rfl) hE85 rfl rfl rfl) hE85 q66 q67 q68 ?_)
   intro ob23 cap23 sp19 cs23 w106 hE110 hc30 (hL43 : vL w w106 [some b20, some b19, some b16, some b1, ob23] [zac ([] ++ (cs21 ++ [])), zac ([] ++ (cs18 ++ [])), zac [(zI x15.Of.Const), v12, (zI x15.By), (zI x15.Text)], zac [c_v, c_v1, c_v2, c_v3, c_v4, c_v5, c_v6], zac ([] ++ (cs23 ++ sp19))]) hS19
   have K36 := ks w hS19
   refine zag (zam (v := (zO ob23 x19 cap23)) rfl ?_)
   refine zap (zcd (zah rfl (zag (zai (v := (zI i11)) rfl ?_))))
   refine zag (zco (x := i11) (y := 1) (z := (iw (i11 + 1))) rfl rfl rfl ?_)
   refine zag (zam (v := (zI (iw (i11 + 1)))) rfl (zap ?_))
   have hp18 := hL43.pick [3, 4] rfl rfl rfl
   have hL44 : vL w w106 [some b1, ob23] [zac [c_v, c_v1, c_v2, c_v3, c_v4, c_v5, c_v6], zac ([] ++ (cs23 ++ sp19))] := hp18.1
   have K37 := ks w hp18.2
   have f33 := ((hE110.mono (K36 None)).mono (K37 None))
   obtain rfl := zae h
   refine zas ⟨(x19, (iw (i11 + 1))), rfl, ?_⟩
   exact ⟨ob23, cap23, sp19, cs23, x19.length, _, (zeq ⟨rfl, rfl, rfl, rfl, rfl, trivial⟩), hL44, (zao (zao (zao (zao (zao (zao (zao (zao (zao K20 K21) K22) K29) K31) K32) K33) K35) K36) K37), f33, rfl, hc30, trivial⟩
  replace h := ite_f hc18 h
  refine zde rfl ?_
  obtain rfl := zae h
  obtain rfl := hd11 _ rfl
  replace h := g11
  try dsimp only at h
  refine zas ?_
  exact ⟨out13, ob14, cap14, sp14, cs15, out13.length, _, rfl, (zeq ⟨rfl, rfl, trivial⟩), hL19, K20, hE36, rfl, hc17, trivial⟩
 rintro _ w107 ⟨out12, ob13, cap13, sp13, cs14, ln12, u, rfl, rfl, hL45, K38, hE111, rfl, hc31, -⟩
 replace h := g11
 try dsimp only at h
 refine zal (zah rfl (zag (zai (v := (zO ob13 out12 cap13)) rfl ?_)))
 refine zag (zaj (q := 3) zax rfl ti25 rfl rfl rfl ?_)
 refine zag (zat (v := c_v3) zbb rfl rfl (hL45.at 0 rfl rfl) rfl ?_)
 obtain ⟨x20, q69, h⟩ := zen h
 obtain ⟨q70, q71, q72⟩ := zew q69
 have f34 := (((c_h3.mono (K4 S)).mono (K19 S)).mono (K38 S))
 obtain ⟨ds10, q73, q74⟩ := Rs.src f34
 refine zag (zds (r := rConstraint) (H := (vH w S [some b1, ob13] w107)) (cs := cs14) (sp := sp13) (xs := out12) (ys := c.Ints) (Y := x20) (n := out12.length) (cap := cap13) (i := 1) zbb ti92 rfl rfl rfl rfl hL45 rfl rfl (hE111.mono Hv.none) rfl hc31 q73 q74 q70 q71 q72 ?_)
 intro ob24 cap24 sp20 cs24 w108 hE112 hc32 (hL46 : vL w w108 [some b1, ob24] [zac [c_v, c_v1, c_v2, c_v3, c_v4, c_v5, c_v6], zac ([] ++ (cs24 ++ sp20))]) hS20
 have K39 := ks w hS20
 refine zag (zam (v := (zO ob24 x20 cap24)) rfl ?_)
 refine zap (zbo ?_)
 obtain rfl := zae h
 refine ⟨[(zO ob24 x20 cap24)], zrt, ⟨_, rfl, hL46.done, ?_⟩⟩
 have f35 := (hE112.mono (K39 S))
 exact ⟨ob24, cap24, cs24, sp20, rfl, (hL46.newOwn [1] rfl rfl rfl), (f35.mono (zed [1] rfl)), hc32, trivial⟩
theorem wRight_w (N : Nat) (l : (List RVar)) (ranges : (List Arr2Int)) (l_v : Value) (ranges_v : Value) (w : World) (S : Nat → Prop) (l_h : Rs rRVar (vH w S [] w) l_v l) (ranges_h : Rs rArr2Int (vH w S [] w) ranges_v ranges) (r : Bool) (h : wRight N l ranges = some r) :
  Calls Tryz.prog 38 #[l_v, ranges_v] w (Ret w (fun v w' => (zab r) = v ∧ True)) := by
 unfold wRight at h
 have hL : vL w w [] [] := Go.X.Loc.begin0 w
 refine calls_of (l := [l_v, ranges_v]) (rl := [.tmp 4]) (n := 47) Tryz.func38 rfl rfl rfl (zaf rfl) ?_
 refine zal (zah rfl (zag (zam (v := zF) rfl ?_)))
 refine zap (zal (zal (zah rfl (zag (zai (v := ranges_v) rfl ?_)))))
 refine zag (zbl (v := ranges_v) zca rfl ranges_h ?_)
 refine zag (zai (v := l_v) rfl ?_)
 refine zag (zbl (v := l_v) zbm rfl l_h ?_)
 refine zag (zei (x := (ranges.length : Int)) (y := (l.length : Int)) (((ranges.length : Int) : Int) ≠ (l.length : Int)) rfl rfl zbe (zap ?_))
 refine zbk (((ranges.length : Int) : Int) ≠ (l.length : Int)) rfl (fun hc1 => ?_) (fun hc1 => ?_)
 ·
  replace h := ite_t hc1 h
  refine zal (zah rfl (zag (zam (v := zF) rfl ?_)))
  refine zap (zbo ?_)
  obtain rfl := zae h
  refine ⟨[zF], zrt, ⟨_, rfl, hL.done, ?_⟩⟩
  exact zrt
 replace h := ite_f hc1 h
 refine zbp (zal (zal (zah rfl (zag (zam (v := (zI 0)) rfl (zap ?_))))))
 obtain ⟨s10, hl10, g10⟩ := zen h
 refine zch (fun e w' => ∃  (u : Env), (Sum.inl ()) = s10 ∧ e = upds [] u ∧ vL w w' [] [] ∧ Keep w.heap.size [] w [] w' ∧ True) ?_ ?_
 ·
  refine zbq ?_
  refine zcx hl10 (fun (ss : Int) (e : Env) (w' : World) => match ss with | i10 => ∃ (u : Env), e = upds [(1, ranges_v), (5, (zI i10))] u ∧ vL w w' [] [] ∧ Keep w.heap.size [] w [] w' ∧ True) ⟨_, (zeq ⟨rfl, rfl, trivial⟩), hL, zcj, trivial⟩ ?_
  rintro i10 oo _ w10 ⟨u, rfl, hL10, K10, -⟩ h hd10
  rw [wRight_b1] at h
  refine zal (zal (zah rfl (zag (zai (v := (zI i10)) rfl ?_))))
  refine zag (zai (v := ranges_v) rfl ?_)
  have f10 := (ranges_h.mono (K10 S))
  refine zag (zbl (v := ranges_v) zca rfl f10 ?_)
  refine zag (zcq (x := i10) (y := (ranges.length : Int)) ((i10 : Int) < (ranges.length : Int)) rfl rfl zbe (zap ?_))
  refine zbk ((i10 : Int) < (ranges.length : Int)) rfl (fun hc10 => ?_) (fun hc10 => ?_)
  ·
   replace h := ite_t hc10 h
   refine zbp (zal (zbq (zal ?_)))
   obtain ⟨s11, h, g11⟩ := zen h
   refine zch (fun e w' => ∃ (x10 : Bool) (u : Env), x10 = s11 ∧ e = upds [(1, ranges_v), (5, (zI i10)), (46, (zab x10))] u ∧ vL w w' [] [] ∧ Keep w.heap.size [] w10 [] w' ∧ True) ?_ ?_
   ·
    refine zah rfl (zag (zai (v := ranges_v) rfl ?_))
    refine zag (zai (v := (zI i10)) rfl ?_)
    obtain ⟨x11, n10, q11, q12, -, h⟩ := zix h
    obtain ⟨b10, o10, c10, vs10, q13, q14, f11, q15⟩ := zcz f10 q12
    obtain ⟨rfl, -⟩ := rArr2Int_open q15
    refine zag (zbf (r := rArr2Int) (v := ranges_v) (n := n10) (m := (o10 + n10 * rArr2Int.sz)) zca ti54 rfl q13 rfl q11 q12 rfl ?_)
    have f12 := (f11.part (us := [(zI x11.e0)]) 0 rfl)
    refine zag (zcu (i := 0) (q := (o10 + n10 * rArr2Int.sz) + 0) zct ti3 rfl rfl (by decide) rfl ?_)
    refine zag (zbx (v := (zI x11.e0)) zau rfl rfl zes f12 ?_)
    refine zag (zcq (x := x11.e0) (y := 0) ((x11.e0 : Int) < 0) rfl rfl zbe ?_)
    refine zag (zai (v := (zab (decide ((x11.e0 : Int) < 0)))) rfl ?_)
    by_cases hc11 : (x11.e0 : Int) < 0
    ·
     replace h := ite_t hc11 h
     refine zbg rfl rfl (zem hc11) (zbg rfl rfl (zem hc11) (zbg rfl rfl (zem hc11) (zbg rfl rfl (zem hc11) (zbg rfl rfl (zem hc11) (zbg rfl rfl (zem hc11) ?_)))))
     refine zag (zbj (t := (decide ((x11.e0 : Int) < 0))) (v := zT) rfl (zem hc11) rfl ?_)
     refine zag (zai (v := zT) rfl ?_)
     refine zbg rfl rfl rfl (zbg rfl rfl rfl (zbg rfl rfl rfl (zbg rfl rfl rfl (zbg rfl rfl rfl (zbg rfl rfl rfl ?_)))))
     refine zag (zbj (t := true) (v := zT) rfl rfl rfl ?_)
     refine zag (zai (v := zT) rfl ?_)
     refine zbg rfl rfl rfl (zbg rfl rfl rfl (zbg rfl rfl rfl (zbg rfl rfl rfl (zbg rfl rfl rfl (zbg rfl rfl rfl ?_)))))
     refine zag (zbj (t := true) (v := zT) rfl rfl rfl (zap ?_))
     obtain rfl := zae h
     refine zas ?_
     exact ⟨true, _, rfl, (zeq ⟨rfl, rfl, rfl, trivial⟩), hL10, zcj, trivial⟩
    replace h := ite_f hc11 h
    refine zba rfl rfl (zel hc11) (zai (v := ranges_v) rfl ?_)
    refine zba rfl rfl (zel hc11) (zai (v := (zI i10)) rfl ?_)
    obtain ⟨x12, n11, q17, q18, -, h⟩ := zix h
    obtain ⟨b11, o11, c11, vs11, q19, q20, f13, q21⟩ := zcz f10 q18
    obtain ⟨rfl, -⟩ := rArr2Int_open q21
    refine zba rfl rfl (zel hc11) (zbf (r := rArr2Int) (v := ranges_v) (n := n11) (m := (o11 + n11 * rArr2Int.sz)) zca ti54 rfl q19 rfl q17 q18 rfl ?_)
    have f14 := (f13.part (us := [(zI x12.e0)]) 0 rfl)
    refine zba rfl rfl (zel hc11) (zcu (i := 0) (q := (o11 + n11 * rArr2Int.sz) + 0) zct ti3 rfl rfl (by decide) rfl ?_)
    refine zba rfl rfl (zel hc11) (zbx (v := (zI x12.e0)) zau rfl rfl zes f14 ?_)
    refine zba rfl rfl (zel hc11) (zeg (x := x12.e0) (y := 16) ((x12.e0 : Int) > 16) rfl rfl zbe ?_)
    refine zag (zbn (t := (decide ((x11.e0 : Int) < 0))) (v := (zab (decide ((x12.e0 : Int) > 16)))) rfl (zel hc11) rfl ?_)
    refine zag (zai (v := (zab (decide ((x12.e0 : Int) > 16)))) rfl ?_)
    by_cases hc12 : (x12.e0 : Int) > 16
    ·
     replace h := ite_t hc12 h
     refine zbg rfl rfl (zem hc12) (zbg rfl rfl (zem hc12) (zbg rfl rfl (zem hc12) (zbg rfl rfl (zem hc12) (zbg rfl rfl (zem hc12) (zbg rfl rfl (zem hc12) ?_)))))
     refine zag (zbj (t := (decide ((x12.e0 : Int) > 16))) (v := zT) rfl (zem hc12) rfl ?_)
     refine zag (zai (v := zT) rfl ?_)
     refine zbg rfl rfl rfl (zbg rfl rfl rfl (zbg rfl rfl rfl (zbg rfl rfl rfl (zbg rfl rfl rfl (zbg rfl rfl rfl ?_)))))
     refine zag (zbj (t := true) (v := zT) rfl rfl rfl (zap ?_))
     obtain rfl := zae h
     refine zas ?_
     exact ⟨true, _, rfl, (zeq ⟨rfl, rfl, rfl, trivial⟩), hL10, zcj, trivial⟩
    replace h := ite_f hc12 h
    refine zba rfl rfl (zel hc12) (zai (v := ranges_v) rfl ?_)
    refine zba rfl rfl (zel hc12) (zai (v := (zI i10)) rfl ?_)
    obtain ⟨x13, n12, q23, q24, -, h⟩ := zix h
    obtain ⟨b12, o12, c12, vs12, q25, q26, f15, q27⟩ := zcz f10 q24
    obtain ⟨rfl, -⟩ := rArr2Int_open q27
    refine zba rfl rfl (zel hc12) (zbf (r := rArr2Int) (v := ranges_v) (n := n12) (m := (o12 + n12 * rArr2Int.sz)) zca ti54 rfl q25 rfl q23 q24 rfl ?_)
    have f16 := (f15.part (us := [(zI x13.e1)]) 1 rfl)
    refine zba rfl rfl (zel hc12) (zcu (i := 1) (q := (o12 + n12 * rArr2Int.sz) + 1) zct ti3 rfl rfl (by decide) rfl ?_)
    refine zba rfl rfl (zel hc12) (zbx (v := (zI x13.e1)) zau rfl rfl zes f16 ?_)
    refine zba rfl rfl (zel hc12) (zcq (x := x13.e1) (y := 0) ((x13.e1 : Int) < 0) rfl rfl zbe ?_)
    refine zag (zbn (t := (decide ((x12.e0 : Int) > 16))) (v := (zab (decide ((x13.e1 : Int) < 0)))) rfl (zel hc12) rfl ?_)
    refine zag (zai (v := (zab (decide ((x13.e1 : Int) < 0)))) rfl ?_)
    by_cases hc13 : (x13.e1 : Int) < 0
    ·
     replace h := ite_t hc13 h
     refine zbg rfl rfl (zem hc13) (zbg rfl rfl (zem hc13) (zbg rfl rfl (zem hc13) (zbg rfl rfl (zem hc13) (zbg rfl rfl (zem hc13) (zbg rfl rfl (zem hc13) ?_)))))
     refine zag (zbj (t := (decide ((x13.e1 : Int) < 0))) (v := zT) rfl (zem hc13) rfl (zap ?_))
     obtain rfl := zae h
     refine zas ?_
     exact ⟨true, _, rfl, (zeq ⟨rfl, rfl, rfl, trivial⟩), hL10, zcj, trivial⟩
    replace h := ite_f hc13 h
    refine zba rfl rfl (zel hc13) (zai (v := ranges_v) rfl ?_)
    refine zba rfl rfl (zel hc13) (zai (v := (zI i10)) rfl ?_)
    obtain ⟨x14, n13, q29, q30, -, h⟩ := zix h
    obtain ⟨b13, o13, c13, vs13, q31, q32, f17, q33⟩ := zcz f10 q30
    obtain ⟨rfl, -⟩ := rArr2Int_open q33
    refine zba rfl rfl (zel hc13) (zbf (r := rArr2Int) (v := ranges_v) (n := n13) (m := (o13 + n13 * rArr2Int.sz)) zca ti54 rfl q31 rfl q29 q30 rfl ?_)
    have f18 := (f17.part (us := [(zI x14.e1)]) 1 rfl)
    refine zba rfl rfl (zel hc13) (zcu (i := 1) (q := (o13 + n13 * rArr2Int.sz) + 1) zct ti3 rfl rfl (by decide) rfl ?_)
    refine zba rfl rfl (zel hc13) (zbx (v := (zI x14.e1)) zau rfl rfl zes f18 ?_)
    refine zba rfl rfl (zel hc13) (zeg (x := x14.e1) (y := 16) ((x14.e1 : Int) > 16) rfl rfl zbe ?_)
    refine zag (zbn (t := (decide ((x13.e1 : Int) < 0))) (v := (zab (decide ((x14.e1 : Int) > 16)))) rfl (zel hc13) rfl (zap ?_))
    obtain rfl := zae h
    refine zas ?_
    exact ⟨(decide ((x14.e1 : Int) > 16)), _, rfl, (zeq ⟨rfl, rfl, rfl, trivial⟩), hL10, zcj, trivial⟩
   rintro _ w11 ⟨x10, u, rfl, rfl, hL11, K11, -⟩
   replace h := g11
   try dsimp only at h
   refine zdd x10 rfl (fun hc14 => ?_) (fun hc14 => ?_)
   ·
    replace h := ite_t hc14 h
    refine zal (zah rfl (zag (zam (v := zF) rfl ?_)))
    refine zap (zbo ?_)
    obtain rfl := zae h
    obtain rfl := hd10 _ rfl
    replace h := g10
    try dsimp only at h
    obtain rfl := zae h
    refine ⟨[zF], zrt, ⟨_, rfl, hL11.done, ?_⟩⟩
    exact zrt
   replace h := ite_f hc14 h
   refine zbp (zcd (zah rfl (zag (zai (v := (zI i10)) rfl ?_))))
   refine zag (zco (x := i10) (y := 1) (z := (iw (i10 + 1))) rfl rfl rfl ?_)
   refine zag (zam (v := (zI (iw (i10 + 1)))) rfl (zap ?_))
   obtain rfl := zae h
   refine zas ⟨(iw (i10 + 1)), rfl, ?_⟩
   exact ⟨_, (zeq ⟨rfl, rfl, trivial⟩), hL11, (zao K10 K11), trivial⟩
  replace h := ite_f hc10 h
  refine zde rfl ?_
  obtain rfl := zae h
  obtain rfl := hd10 _ rfl
  replace h := g10
  try dsimp only at h
  refine zas ?_
  exact ⟨_, rfl, (zeq trivial), hL10, K10, trivial⟩
 rintro _ w12 ⟨u, rfl, rfl, hL12, K12, -⟩
 replace h := g10
 try dsimp only at h
 refine zal (zah rfl (zag (zam (v := zT) rfl ?_)))
 refine zap (zbo ?_)
 obtain rfl := zae h
 refine ⟨[zT], zrt, ⟨_, rfl, hL12.done, ?_⟩⟩
 exact zrt
theorem wSame_w (N : Nat) (a : (List Constraint)) (b : (List Constraint)) (a_v : Value) (b_v : Value) (w : World) (S : Nat → Prop) (a_h : Rs rConstraint (vH w S [] w) a_v a) (b_h : Rs rConstraint (vH w S [] w) b_v b) (r : Bool) (h : wSame N a b = some r) :
  Calls Tryz.prog 13 #[a_v, b_v] w (Ret w (fun v w' => (zab r) = v ∧ True)) := by
 unfold wSame at h
 have hL : vL w w [] [] := Go.X.Loc.begin0 w
 refine calls_of (l := [a_v, b_v]) (rl := [.tmp 4]) (n := 75) Tryz.func13 rfl rfl rfl (zaf rfl) ?_
 refine zal (zah rfl (zag (zam (v := zF) rfl ?_)))
 refine zap (zal (zal (zah rfl (zag (zai (v := a_v) rfl ?_)))))
 refine zag (zbl (v := a_v) zbb rfl a_h ?_)
 refine zag (zai (v := b_v) rfl ?_)
 refine zag (zbl (v := b_v) zbb rfl b_h ?_)
 refine zag (zei (x := (a.length : Int)) (y := (b.length : Int)) (((a.length : Int) : Int) ≠ (b.length : Int)) rfl rfl zbe (zap ?_))
 refine zbk (((a.length : Int) : Int) ≠ (b.length : Int)) rfl (fun hc1 => ?_) (fun hc1 => ?_)
 ·
  replace h := ite_t hc1 h
  refine zal (zah rfl (zag (zam (v := zF) rfl ?_)))
  refine zap (zbo ?_)
  obtain rfl := zae h
  refine ⟨[zF], zrt, ⟨_, rfl, hL.done, ?_⟩⟩
  exact zrt
 replace h := ite_f hc1 h
 refine zbp (zal (zal (zah rfl (zag (zam (v := (zI 0)) rfl (zap ?_))))))
 obtain ⟨s10, hl10, g10⟩ := zen h
 refine zch (fun e w' => ∃  (u : Env), (Sum.inl ()) = s10 ∧ e = upds [] u ∧ vL w w' [] [] ∧ Keep w.heap.size [] w [] w' ∧ True) ?_ ?_
 ·
  refine zbq ?_
  refine zcx hl10 (fun (ss : Int) (e : Env) (w' : World) => match ss with | i10 => ∃ (u : Env), e = upds [(0, a_v), (1, b_v), (5, (zI i10))] u ∧ vL w w' [] [] ∧ Keep w.heap.size [] w [] w' ∧ True) ⟨_, (zeq ⟨rfl, rfl, rfl, trivial⟩), hL, zcj, trivial⟩ ?_
  rintro i10 oo _ w10 ⟨u, rfl, hL10, K10, -⟩ h hd10
  rw [wSame_b1] at h
  refine zal (zal (zah rfl (zag (zai (v := (zI i10)) rfl ?_))))
  refine zag (zai (v := a_v) rfl ?_)
  have f10 := (a_h.mono (K10 S))
  refine zag (zbl (v := a_v) zbb rfl f10 ?_)
  refine zag (zcq (x := i10) (y := (a.length : Int)) ((i10 : Int) < (a.length : Int)) rfl rfl zbe (zap ?_))
  refine zbk ((i10 : Int) < (a.length : Int)) rfl (fun hc10 => ?_) (fun hc10 => ?_)
  ·
   replace h := ite_t hc10 h
   refine zbp (zal (zbq (zal ?_)))
   obtain ⟨s11, h, g11⟩ := zen h
   refine zch (fun e w' => ∃ (f11 : Linear) (g12 : Linear) (b10 : Nat) (v10 : Value) (b11 : Nat) (v11 : Value) (u : Env), (f11, g12) = s11 ∧ e = upds [(0, a_v), (1, b_v), (5, (zI i10)), (6, (zak (some ⟨b10, 0, none⟩))), (7, (zak (some ⟨b11, 0, none⟩)))] u ∧ vL w w' [some b10, some b11] [zac [(zI f11.Const), v10], zac [(zI g12.Const), v11]] ∧ Keep w.heap.size [] w10 [some b10, some b11] w' ∧ Rs rCoef (vH w S [some b10, some b11] w') v10 f11.Coefs ∧ Rs rCoef (vH w S [some b10, some b11] w') v11 g12.Coefs ∧ True) ?_ ?_
   ·
    obtain ⟨x10, n10, q11, q12, -, h⟩ := zix h
    obtain ⟨b12, o10, c10, vs10, q13, q14, f12, q15⟩ := zcz f10 q12
    obtain ⟨v12, rfl, k10, -⟩ := rConstraint_open q15
    have f13 := (f12.part (us := [(zI x10.Linear.Const), v12]) 0 rfl)
    obtain ⟨x11, n11, q17, q18, -, h⟩ := zix h
    have f14 := (b_h.mono (K10 S))
    obtain ⟨b13, o11, c11, vs11, q19, q20, f15, q21⟩ := zcz f14 q18
    obtain ⟨v13, rfl, k11, -⟩ := rConstraint_open q21
    have f16 := (f15.part (us := [(zI x11.Linear.Const), v13]) 0 rfl)
    refine Swp.drawF (O := []) [10, 11, 12, 13] [0, 1, 2, 3, 4, 5, 6, 7, 8, 9] [0, 1, 2, 3, 4, 5, 6, 7, 8, 9] [] [(20, a_v), (21, (zI i10)), (22, (zak (some ⟨b12, (o10 + n10 * rConstraint.sz), none⟩))), (23, (zak (some ⟨b12, (o10 + n10 * rConstraint.sz) + 0, none⟩))), (24, (zar #[(zI x10.Linear.Const), v12])), (25, b_v), (26, (zI i10)), (27, (zak (some ⟨b13, (o11 + n11 * rConstraint.sz), none⟩))), (28, (zak (some ⟨b13, (o11 + n11 * rConstraint.sz) + 0, none⟩))), (29, (zar #[(zI x11.Linear.Const), v13]))] (fun f v O w' => Rs rI (vH w None O w') v []) w.heap.size mixed rfl rfl rfl rfl (fun b hb => hL10.own.lt b hb) hL10.size (fun _ _ _ _ _ _ h hs => h.mono (hs _)) FloatP.nil ?_
    intro w11 hE10
    obtain ⟨hL11, K11⟩ := zl hL10 hE10
    refine ⟨?_, ?_⟩
    ·
     intro w12 hE11
     have K12 := ke hL11 hE11
     refine zcf (i := 0) rfl rfl (zaq (zai (v := a_v) rfl zrr)) ?_
     refine zcf (i := 1) rfl rfl (zaq (zai (v := (zI i10)) rfl zrr)) ?_
     refine zcf (i := 2) rfl rfl (zaq (zbf (r := rConstraint) (v := a_v) (n := n10) (m := (o10 + n10 * rConstraint.sz)) zbb ti92 rfl q13 rfl q11 q12 rfl zrr)) ?_
     refine zcf (i := 3) rfl rfl (zaq (zaj (q := (o10 + n10 * rConstraint.sz) + 0) zbv rfl ti90 rfl rfl rfl zrr)) ?_
     refine zcf (i := 4) rfl rfl (zaq (zdi (vs := [(zI x10.Linear.Const), v12]) zaz rfl ti90 rfl rfl zes (zbi (K12 S) (zbi (K11 S) f13)) zrr)) ?_
     refine zcf (i := 5) rfl rfl (zaq (zai (v := b_v) rfl zrr)) ?_
     refine zcf (i := 6) rfl rfl (zaq (zai (v := (zI i10)) rfl zrr)) ?_
     refine zcf (i := 7) rfl rfl (zaq (zbf (r := rConstraint) (v := b_v) (n := n11) (m := (o11 + n11 * rConstraint.sz)) zbb ti92 rfl q19 rfl q17 q18 rfl zrr)) ?_
     refine zcf (i := 8) rfl rfl (zaq (zaj (q := (o11 + n11 * rConstraint.sz) + 0) zbv rfl ti90 rfl rfl rfl zrr)) ?_
     refine zcf (i := 9) rfl rfl (zaq (zdi (vs := [(zI x11.Linear.Const), v13]) zaz rfl ti90 rfl rfl zes (zbi (K12 S) (zbi (K11 S) f16)) zrr)) ?_
     exact LateP.nil
    refine RlF.next (m := 3) [10, 11] rfl rfl (fun q hq => ?_)
    rcases List.mem_cons.1 hq with rfl | hq
    ·
     refine RlF1.op rfl ?_
     intro w13 V10 hE12 hp10
     obtain ⟨hL12, K13⟩ := zl hL11 hE12
     refine zcl (cs := [(zI 0), zN]) ti90 rfl hL12 ?_
     intro b14 w14 hL13 hS10
     have K14 := ks w hS10
     refine ⟨_, [], [], K14, (fun b hb => hL13.own.lt b hb), hL13.size, rfl, rfl, ?_⟩
     refine ⟨?_, ?_⟩
     ·
      intro w15 hE13
      obtain ⟨hL14, K15⟩ := zl hL13 hE13
      refine zcf (i := 0) rfl rfl (zaq (zai (v := a_v) rfl zrr)) ?_
      refine zcf (i := 1) rfl rfl (zaq (zai (v := (zI i10)) rfl zrr)) ?_
      refine zcf (i := 2) rfl rfl (zaq (zbf (r := rConstraint) (v := a_v) (n := n10) (m := (o10 + n10 * rConstraint.sz)) zbb ti92 rfl q13 rfl q11 q12 rfl zrr)) ?_
      refine zcf (i := 3) rfl rfl (zaq (zaj (q := (o10 + n10 * rConstraint.sz) + 0) zbv rfl ti90 rfl rfl rfl zrr)) ?_
      refine zcf (i := 4) rfl rfl (zaq (zdi (vs := [(zI x10.Linear.Const), v12]) zaz rfl ti90 rfl rfl zes (zbi (K15 S) (zbi (K14 S) (zbi (K13 S) (zbi (K11 S) f13)))) zrr)) ?_
      refine zcf (i := 5) rfl rfl (zaq (zai (v := b_v) rfl zrr)) ?_
      refine zcf (i := 6) rfl rfl (zaq (zai (v := (zI i10)) rfl zrr)) ?_
      refine zcf (i := 7) rfl rfl (zaq (zbf (r := rConstraint) (v := b_v) (n := n11) (m := (o11 + n11 * rConstraint.sz)) zbb ti92 rfl q19 rfl q17 q18 rfl zrr)) ?_
      refine zcf (i := 8) rfl rfl (zaq (zaj (q := (o11 + n11 * rConstraint.sz) + 0) zbv rfl ti90 rfl rfl rfl zrr)) ?_
      refine zcf (i := 9) rfl rfl (zaq (zdi (vs := [(zI x11.Linear.Const), v13]) zaz rfl ti90 rfl rfl zes (zbi (K15 S) (zbi (K14 S) (zbi (K13 S) (zbi (K11 S) f16)))) zrr)) ?_
      exact LateP.nil
     refine RlF.next (m := 2) [11] rfl rfl (fun q hq => ?_)
     obtain rfl := List.mem_singleton.1 hq
     refine RlF1.op rfl ?_
     intro w16 V11 hE14 hp11
     obtain ⟨hL15, K16⟩ := zl hL13 hE14
     refine zcl (cs := [(zI 0), zN]) ti90 rfl hL15 ?_
     intro b15 w17 hL16 hS11
     have K17 := ks w hS11
     refine ⟨_, [], [], K17, (fun b hb => hL16.own.lt b hb), hL16.size, rfl, rfl, ?_⟩
     refine ⟨?_, ?_⟩
     ·
      intro w18 hE15
      obtain ⟨hL17, K18⟩ := zl hL16 hE15
      refine zcf (i := 0) rfl rfl (zaq (zai (v := a_v) rfl zrr)) ?_
      refine zcf (i := 1) rfl rfl (zaq (zai (v := (zI i10)) rfl zrr)) ?_
      refine zcf (i := 2) rfl rfl (zaq (zbf (r := rConstraint) (v := a_v) (n := n10) (m := (o10 + n10 * rConstraint.sz)) zbb ti92 rfl q13 rfl q11 q12 rfl zrr)) ?_
      refine zcf (i := 3) rfl rfl (zaq (zaj (q := (o10 + n10 * rConstraint.sz) + 0) zbv rfl ti90 rfl rfl rfl zrr)) ?_
      refine zcf (i := 4) rfl rfl (zaq (zdi (vs := [(zI x10.Linear.Const), v12]) zaz rfl ti90 rfl rfl zes (zbi (K18 S) (zbi (K17 S) (zbi (K16 S) (zbi (K14 S) (zbi (K13 S) (zbi (K11 S) f13)))))) zrr)) ?_
      refine zcf (i := 5) rfl rfl (zaq (zai (v := b_v) rfl zrr)) ?_
      refine zcf (i := 6) rfl rfl (zaq (zai (v := (zI i10)) rfl zrr)) ?_
      refine zcf (i := 7) rfl rfl (zaq (zbf (r := rConstraint) (v := b_v) (n := n11) (m := (o11 + n11 * rConstraint.sz)) zbb ti92 rfl q19 rfl q17 q18 rfl zrr)) ?_
      refine zcf (i := 8) rfl rfl (zaq (zaj (q := (o11 + n11 * rConstraint.sz) + 0) zbv rfl ti90 rfl rfl rfl zrr)) ?_
      refine zcf (i := 9) rfl rfl (zaq (zdi (vs := [(zI x11.Linear.Const), v13]) zaz rfl ti90 rfl rfl zes (zbi (K18 S) (zbi (K17 S) (zbi (K16 S) (zbi (K14 S) (zbi (K13 S) (zbi (K11 S) f16)))))) zrr)) ?_
      exact LateP.nil
     refine RlF.next (m := 1) [12] rfl rfl (fun q hq => ?_)
     obtain rfl := List.mem_singleton.1 hq
     refine RlF1.op0 rfl ?_
     intro w19 V12 hE16 hp12
     obtain ⟨hL18, K19⟩ := zl hL16 hE16
     have f17 := ((((((k10.mono (K11 S)).mono (K13 S)).mono (K14 S)).mono (K16 S)).mono (K17 S)).mono (K19 S))
     refine zbw (vs := [(zI x10.Linear.Const), v12]) ti90 rfl rfl rfl rfl (zep rfl (zep f17.one zet)) hL18 1 rfl rfl (zaf rfl) ?_
     intro w20 (hL19 : vL w w20 [some b15, some b14] [zac [(zI 0), zN], zac [(zI x10.Linear.Const), v12]]) hS12
     have K20 := ks w hS12
     refine ⟨_, [], [], K20, (fun b hb => hL19.own.lt b hb), hL19.size, rfl, rfl, ?_⟩
     refine ⟨?_, ?_⟩
     ·
      intro w21 hE17
      obtain ⟨hL20, K21⟩ := zl hL19 hE17
      refine zcf (i := 5) rfl rfl (zaq (zai (v := b_v) rfl zrr)) ?_
      refine zcf (i := 6) rfl rfl (zaq (zai (v := (zI i10)) rfl zrr)) ?_
      refine zcf (i := 7) rfl rfl (zaq (zbf (r := rConstraint) (v := b_v) (n := n11) (m := (o11 + n11 * rConstraint.sz)) zbb ti92 rfl q19 rfl q17 q18 rfl zrr)) ?_
      refine zcf (i := 8) rfl rfl (zaq (zaj (q := (o11 + n11 * rConstraint.sz) + 0) zbv rfl ti90 rfl rfl rfl zrr)) ?_
      refine zcf (i := 9) rfl rfl (zaq (zdi (vs := [(zI x11.Linear.Const), v13]) zaz rfl ti90 rfl rfl zes (zbi (K21 S) (zbi (K20 S) (zbi (K19 S) (zbi (K17 S) (zbi (K16 S) (zbi (K14 S) (zbi (K13 S) (zbi (K11 S) f16)))))))) zrr)) ?_
      exact LateP.nil
     refine RlF.next (m := 0) [13] rfl rfl (fun q hq => ?_)
     obtain rfl := List.mem_singleton.1 hq
     refine RlF1.op0 rfl ?_
     intro w22 V13 hE18 hp13
     obtain ⟨hL21, K22⟩ := zl hL19 hE18
     have f18 := ((((((((k11.mono (K11 S)).mono (K13 S)).mono (K14 S)).mono (K16 S)).mono (K17 S)).mono (K19 S)).mono (K20 S)).mono (K22 S))
     refine zbw (vs := [(zI x11.Linear.Const), v13]) ti90 rfl rfl rfl rfl (zep rfl (zep f18.one zet)) hL21 0 rfl rfl (zaf rfl) ?_
     intro w23 (hL22 : vL w w23 [some b15, some b14] [zac [(zI x11.Linear.Const), v13], zac [(zI x10.Linear.Const), v12]]) hS13
     have K23 := ks w hS13
     refine ⟨_, [], [], K23, (fun b hb => hL22.own.lt b hb), hL22.size, rfl, rfl, ?_⟩
     refine ⟨?_, ?_⟩
     ·
      intro w24 hE19
      obtain ⟨hL23, K24⟩ := zl hL22 hE19
      exact LateP.nil
     refine RlF.fin ?_
     intro w25 V14 hE20
     obtain ⟨hL24, K25⟩ := zl hL22 hE20
     have hp14 := hL24.pick [1, 0] rfl rfl rfl
     have hL25 : vL w w25 [some b14, some b15] [zac [(zI x10.Linear.Const), v12], zac [(zI x11.Linear.Const), v13]] := hp14.1
     have K26 := ks w hp14.2
     have f19 := (((((f17.mono (K20 S)).mono (K22 S)).mono (K23 S)).mono (K25 S)).mono (K26 S))
     have f20 := (((f18.mono (K23 S)).mono (K25 S)).mono (K26 S))
     obtain rfl := zae h
     refine zas ?_
     exact ⟨x10.Linear, x11.Linear, b14, v12, b15, v13, _, rfl, (zeq ⟨rfl, rfl, rfl, rfl, rfl, trivial⟩), hL25, (zao (zao (zao (zao (zao (zao (zao (zao (zao (zao K11 K13) K14) K16) K17) K19) K20) K22) K23) K25) K26), f19, f20, trivial⟩
    obtain rfl := List.mem_singleton.1 hq
    refine RlF1.op rfl ?_
    intro w13 V10 hE12 hp10
    obtain ⟨hL12, K13⟩ := zl hL11 hE12
    refine zcl (cs := [(zI 0), zN]) ti90 rfl hL12 ?_
    intro b15 w14 hL13 hS10
    have K14 := ks w hS10
    refine ⟨_, [], [], K14, (fun b hb => hL13.own.lt b hb), hL13.size, rfl, rfl, ?_⟩
    refine ⟨?_, ?_⟩
    ·
     intro w15 hE13
     obtain ⟨hL14, K15⟩ := zl hL13 hE13
     refine zcf (i := 0) rfl rfl (zaq (zai (v := a_v) rfl zrr)) ?_
     refine zcf (i := 1) rfl rfl (zaq (zai (v := (zI i10)) rfl zrr)) ?_
     refine zcf (i := 2) rfl rfl (zaq (zbf (r := rConstraint) (v := a_v) (n := n10) (m := (o10 + n10 * rConstraint.sz)) zbb ti92 rfl q13 rfl q11 q12 rfl zrr)) ?_
     refine zcf (i := 3) rfl rfl (zaq (zaj (q := (o10 + n10 * rConstraint.sz) + 0) zbv rfl ti90 rfl rfl rfl zrr)) ?_
     refine zcf (i := 4) rfl rfl (zaq (zdi (vs := [(zI x10.Linear.Const), v12]) zaz rfl ti90 rfl rfl zes (zbi (K15 S) (zbi (K14 S) (zbi (K13 S) (zbi (K11 S) f13)))) zrr)) ?_
     refine zcf (i := 5) rfl rfl (zaq (zai (v := b_v) rfl zrr)) ?_
     refine zcf (i := 6) rfl rfl (zaq (zai (v := (zI i10)) rfl zrr)) ?_
     refine zcf (i := 7) rfl rfl (zaq (zbf (r := rConstraint) (v := b_v) (n := n11) (m := (o11 + n11 * rConstraint.sz)) zbb ti92 rfl q19 rfl q17 q18 rfl zrr)) ?_
     refine zcf (i := 8) rfl rfl (zaq (zaj (q := (o11 + n11 * rConstraint.sz) + 0) zbv rfl ti90 rfl rfl rfl zrr)) ?_
     refine zcf (i := 9) rfl rfl (zaq (zdi (vs := [(zI x11.Linear.Const), v13]) zaz rfl ti90 rfl rfl zes (zbi (K15 S) (zbi (K14 S) (zbi (K13 S) (zbi (K11 S) f16)))) zrr)) ?_
     exact LateP.nil
    refine RlF.next (m := 2) [10] rfl rfl (fun q hq => ?_)
    obtain rfl := List.mem_singleton.1 hq
    refine RlF1.op rfl ?_
    intro w16 V11 hE14 hp11
    obtain ⟨hL15, K16⟩ := zl hL13 hE14
    refine zcl (cs := [(zI 0), zN]) ti90 rfl hL15 ?_
    intro b14 w17 hL16 hS11
    have K17 := ks w hS11
    refine ⟨_, [], [], K17, (fun b hb => hL16.own.lt b hb), hL16.size, rfl, rfl, ?_⟩
    refine ⟨?_, ?_⟩
    ·
     intro w18 hE15
     obtain ⟨hL17, K18⟩ := zl hL16 hE15
     refine zcf (i := 0) rfl rfl (zaq (zai (v := a_v) rfl zrr)) ?_
     refine zcf (i := 1) rfl rfl (zaq (zai (v := (zI i10)) rfl zrr)) ?_
     refine zcf (i := 2) rfl rfl (zaq (zbf (r := rConstraint) (v := a_v) (n := n10) (m := (o10 + n10 * rConstraint.sz)) zbb ti92 rfl q13 rfl q11 q12 rfl zrr)) ?_
     refine zcf (i := 3) rfl rfl (zaq (zaj (q := (o10 + n10 * rConstraint.sz) + 0) zbv rfl ti90 rfl rfl rfl zrr)) ?_
     refine zcf (i := 4) rfl rfl (zaq (zdi (vs := [(zI x10.Linear.Const), v12]) zaz rfl ti90 rfl rfl zes (zbi (K18 S) (zbi (K17 S) (zbi (K16 S) (zbi (K14 S) (zbi (K13 S) (zbi (K11 S) f13)))))) zrr)) ?_
     refine zcf (i := 5) rfl rfl (zaq (zai (v := b_v) rfl zrr)) ?_
     refine zcf (i := 6) rfl rfl (zaq (zai (v := (zI i10)) rfl zrr)) ?_
     refine zcf (i := 7) rfl rfl (zaq (zbf (r := rConstraint) (v := b_v) (n := n11) (m := (o11 + n11 * rConstraint.sz)) zbb ti92 rfl q19 rfl q17 q18 rfl zrr)) ?_
     refine zcf (i := 8) rfl rfl (zaq (zaj (q := (o11 + n11 * rConstraint.sz) + 0) zbv rfl ti90 rfl rfl rfl zrr)) ?_
     refine zcf (i := 9) rfl rfl (zaq (zdi (vs := [(zI x11.Linear.Const), v13]) zaz rfl ti90 rfl rfl zes (zbi (K18 S) (zbi (K17 S) (zbi (K16 S) (zbi (K14 S) (zbi (K13 S) (zbi (K11 S) f16)))))) zrr)) ?_
     exact LateP.nil
    refine RlF.next (m := 1) [12] rfl rfl (fun q hq => ?_)
    obtain rfl := List.mem_singleton.1 hq
    refine RlF1.op0 rfl ?_
    intro w19 V12 hE16 hp12
    obtain ⟨hL18, K19⟩ := zl hL16 hE16
    have f17 := ((((((k10.mono (K11 S)).mono (K13 S)).mono (K14 S)).mono (K16 S)).mono (K17 S)).mono (K19 S))
    refine zbw (vs := [(zI x10.Linear.Const), v12]) ti90 rfl rfl rfl rfl (zep rfl (zep f17.one zet)) hL18 0 rfl rfl (zaf rfl) ?_
    intro w20 (hL19 : vL w w20 [some b14, some b15] [zac [(zI x10.Linear.Const), v12], zac [(zI 0), zN]]) hS12
    have K20 := ks w hS12
    refine ⟨_, [], [], K20, (fun b hb => hL19.own.lt b hb), hL19.size, rfl, rfl, ?_⟩
    refine ⟨?_, ?_⟩
    ·
     intro w21 hE17
     obtain ⟨hL20, K21⟩ := zl hL19 hE17
     refine zcf (i := 5) rfl rfl (zaq (zai (v := b_v) rfl zrr)) ?_
     refine zcf (i := 6) rfl rfl (zaq (zai (v := (zI i10)) rfl zrr)) ?_
     refine zcf (i := 7) rfl rfl (zaq (zbf (r := rConstraint) (v := b_v) (n := n11) (m := (o11 + n11 * rConstraint.sz)) zbb ti92 rfl q19 rfl q17 q18 rfl zrr)) ?_
     refine zcf (i := 8) rfl rfl (zaq (zaj (q := (o11 + n11 * rConstraint.sz) + 0) zbv rfl ti90 rfl rfl rfl zrr)) ?_
     refine zcf (i := 9) rfl rfl (zaq (zdi (vs := [(zI x11.Linear.Const), v13]) zaz rfl ti90 rfl rfl zes (zbi (K21 S) (zbi (K20 S) (zbi (K19 S) (zbi (K17 S) (zbi (K16 S) (zbi (K14 S) (zbi (K13 S) (zbi (K11 S) f16)))))))) zrr)) ?_
     exact LateP.nil
    refine RlF.next (m := 0) [13] rfl rfl (fun q hq => ?_)
    obtain rfl := List.mem_singleton.1 hq
    refine RlF1.op0 rfl ?_
    intro w22 V13 hE18 hp13
    obtain ⟨hL21, K22⟩ := zl hL19 hE18
    have f18 := ((((((((k11.mono (K11 S)).mono (K13 S)).mono (K14 S)).mono (K16 S)).mono (K17 S)).mono (K19 S)).mono (K20 S)).mono (K22 S))
    refine zbw (vs := [(zI x11.Linear.Const), v13]) ti90 rfl rfl rfl rfl (zep rfl (zep f18.one zet)) hL21 1 rfl rfl (zaf rfl) ?_
    intro w23 (hL22 : vL w w23 [some b14, some b15] [zac [(zI x10.Linear.Const), v12], zac [(zI x11.Linear.Const), v13]]) hS13
    have K23 := ks w hS13
    refine ⟨_, [], [], K23, (fun b hb => hL22.own.lt b hb), hL22.size, rfl, rfl, ?_⟩
    refine ⟨?_, ?_⟩
    ·
     intro w24 hE19
     obtain ⟨hL23, K24⟩ := zl hL22 hE19
     exact LateP.nil
    refine RlF.fin ?_
    intro w25 V14 hE20
    obtain ⟨hL24, K25⟩ := zl hL22 hE20
    have f21 := ((((f17.mono (K20 S)).mono (K22 S)).mono (K23 S)).mono (K25 S))
    have f22 := ((f18.mono (K23 S)).mono (K25 S))
    obtain rfl := zae h
    refine zas ?_
    exact ⟨x10.Linear, x11.Linear, b14, v12, b15, v13, _, rfl, (zeq ⟨rfl, rfl, rfl, rfl, rfl, trivial⟩), hL24, (zao (zao (zao (zao (zao (zao (zao (zao (zao K11 K13) K14) K16) K17) K19) K20) K22) K23) K25), f21, f22, trivial⟩
   rintro _ w26 ⟨f11, g12, b10, v10, b11, v11, u, rfl, rfl, hL26, K27, k12, k13, -⟩
   replace h := g11
   try dsimp only at h
   refine zal (zal ?_)
   obtain ⟨s12, h, g13⟩ := zen h
   refine zch (fun e w' => ∃ (x12 : Bool) (u : Env), x12 = s12 ∧ e = upds [(0, a_v), (1, b_v), (5, (zI i10)), (6, (zak (some ⟨b10, 0, none⟩))), (7, (zak (some ⟨b11, 0, none⟩))), (56, (zab x12))] u ∧ vL w w' [some b10, some b11] [zac [(zI f11.Const), v10], zac [(zI g12.Const), v11]] ∧ Keep w.heap.size [some b10, some b11] w26 [some b10, some b11] w' ∧ True) ?_ ?_
   ·
    obtain ⟨x13, n12, q23, q24, -, h⟩ := zix h
    have f23 := (f10.mono (K27 S))
    obtain ⟨b16, o12, c12, vs12, q25, q26, f24, q27⟩ := zcz f23 q24
    obtain ⟨v14, rfl, k14, -⟩ := rConstraint_open q27
    have f25 := (f24.part (us := [(zab x13.Equal)]) 2 rfl)
    obtain ⟨x14, n13, q29, q30, -, h⟩ := zix h
    have f26 := ((b_h.mono (K10 S)).mono (K27 S))
    obtain ⟨b17, o13, c13, vs13, q31, q32, f27, q33⟩ := zcz f26 q30
    obtain ⟨v15, rfl, k15, -⟩ := rConstraint_open q33
    have f28 := (f27.part (us := [(zab x14.Equal)]) 2 rfl)
    by_cases hc11 : (!(x13.Equal == x14.Equal)) = true
    ·
     replace h := ite_t hc11 h
     refine zck 25 [] [] (fun W1 => [.det a_v, .det (zI i10), .det (zak (some ⟨b16, (o12 + n12 * rConstraint.sz), none⟩)), .det (zak (some ⟨b16, (o12 + n12 * rConstraint.sz) + 2, none⟩)), .det (zab x13.Equal), .det b_v, .det (zI i10), .det (zak (some ⟨b17, (o13 + n13 * rConstraint.sz), none⟩)), .det (zak (some ⟨b17, (o13 + n13 * rConstraint.sz) + 2, none⟩)), .det (zab x14.Equal), .det (zab (!(x13.Equal == x14.Equal))), .det (zab (!(x13.Equal == x14.Equal))), .det undef, .det undef, .det undef, .det undef, .det undef, .det zT, .det zT, .det undef, .det undef, .det undef, .det undef, .det undef, .det undef]) mixed rfl rfl rfl (fun _ => rfl) (fun _ => rfl) ?_ ?_
     ·
      intro W1 _
      exact trivial
     intro w27 hE21
     obtain ⟨hL27, K28⟩ := zl hL26 hE21
     refine zan (fun _ _ => zaq (zai rfl (er rfl))) ?_
     refine zan (fun _ _ => zaq (zai rfl (er rfl))) ?_
     refine zan (fun _ _ => zaq (zbf (r := rConstraint) (v := a_v) (n := n12) (m := (o12 + n12 * rConstraint.sz)) zbb ti92 rfl q25 rfl q23 q24 rfl (er rfl))) ?_
     refine zan (fun _ _ => zaq (zaj zbv rfl ti4 rfl rfl rfl (er rfl))) ?_
     refine zan (fun _ hE26 => zaq (zbx zci rfl rfl zes (zbi ((ke hL27 hE26) S) (zbi (K28 S) f25)) (er rfl))) ?_
     refine zan (fun _ _ => zaq (zai rfl (er rfl))) ?_
     refine zan (fun _ _ => zaq (zai rfl (er rfl))) ?_
     refine zan (fun _ _ => zaq (zbf (r := rConstraint) (v := b_v) (n := n13) (m := (o13 + n13 * rConstraint.sz)) zbb ti92 rfl q31 rfl q29 q30 rfl (er rfl))) ?_
     refine zan (fun _ _ => zaq (zaj zbv rfl ti4 rfl rfl rfl (er rfl))) ?_
     refine zan (fun _ hE31 => zaq (zbx zci rfl rfl zes (zbi ((ke hL27 hE31) S) (zbi (K28 S) f28)) (er rfl))) ?_
     refine zan (fun _ _ => zaq (OpY.neqBool zci rfl rfl (er rfl))) ?_
     refine zan (fun _ _ => zaq (zai rfl (er rfl))) ?_
     refine zan (fun _ _ => zce rfl rfl hc11 (er rfl)) ?_
     refine zan (fun _ _ => zce rfl rfl hc11 (er rfl)) ?_
     refine zan (fun _ _ => zce rfl rfl hc11 (er rfl)) ?_
     refine zan (fun _ _ => zce rfl rfl hc11 (er rfl)) ?_
     refine zan (fun _ _ => zce rfl rfl hc11 (er rfl)) ?_
     refine zan (fun _ _ => zaq (zbj rfl hc11 rfl (er rfl))) ?_
     refine zan (fun _ _ => zaq (zai rfl (er rfl))) ?_
     refine zan (fun _ _ => zce rfl rfl rfl (er rfl)) ?_
     refine zan (fun _ _ => zce rfl rfl rfl (er rfl)) ?_
     refine zan (fun _ _ => zce rfl rfl rfl (er rfl)) ?_
     refine zan (fun _ _ => zce rfl rfl rfl (er rfl)) ?_
     refine zan (fun _ _ => zce rfl rfl rfl (er rfl)) ?_
     refine zan (fun _ _ => zce rfl rfl rfl (er rfl)) ?_
     refine zcw ?_
     rintro w53 Z44 hE47 hZ35 ⟨-⟩ ap10
     have hB10 := @zhb w27 Z44
     obtain ⟨hL28, K31⟩ := zl hL27 hE47
     refine zbg rfl rfl rfl ?_
     refine zag (zbj (t := true) (v := zT) rfl rfl rfl (zap ?_))
     obtain rfl := zae h
     refine zas ?_
     exact ⟨true, _, rfl, (zeq ⟨rfl, rfl, rfl, rfl, rfl, rfl, trivial⟩), hL28, (zao K28 K31), trivial⟩
    replace h := ite_f hc11 h
    by_cases hc12 : (f11.Const : Int) ≠ g12.Const
    ·
     replace h := ite_t hc12 h
     refine zck 25 [] [] (fun W1 => [.det a_v, .det (zI i10), .det (zak (some ⟨b16, (o12 + n12 * rConstraint.sz), none⟩)), .det (zak (some ⟨b16, (o12 + n12 * rConstraint.sz) + 2, none⟩)), .det (zab x13.Equal), .det b_v, .det (zI i10), .det (zak (some ⟨b17, (o13 + n13 * rConstraint.sz), none⟩)), .det (zak (some ⟨b17, (o13 + n13 * rConstraint.sz) + 2, none⟩)), .det (zab x14.Equal), .det (zab (!(x13.Equal == x14.Equal))), .det (zab (!(x13.Equal == x14.Equal))), .det (zak (some ⟨b10, 0, none⟩)), .det (zI f11.Const), .det (zak (some ⟨b11, 0, none⟩)), .det (zI g12.Const), .det (zab (decide ((f11.Const : Int) ≠ g12.Const))), .det (zab (decide ((f11.Const : Int) ≠ g12.Const))), .det (zab (decide ((f11.Const : Int) ≠ g12.Const))), .det undef, .det undef, .det undef, .det undef, .det undef, .det undef]) mixed rfl rfl rfl (fun _ => rfl) (fun _ => rfl) ?_ ?_
     ·
      intro W1 _
      exact trivial
     intro w54 hE48
     obtain ⟨hL29, K32⟩ := zl hL26 hE48
     refine zan (fun _ _ => zaq (zai rfl (er rfl))) ?_
     refine zan (fun _ _ => zaq (zai rfl (er rfl))) ?_
     refine zan (fun _ _ => zaq (zbf (r := rConstraint) (v := a_v) (n := n12) (m := (o12 + n12 * rConstraint.sz)) zbb ti92 rfl q25 rfl q23 q24 rfl (er rfl))) ?_
     refine zan (fun _ _ => zaq (zaj zbv rfl ti4 rfl rfl rfl (er rfl))) ?_
     refine zan (fun _ hE53 => zaq (zbx zci rfl rfl zes (zbi ((ke hL29 hE53) S) (zbi (K32 S) f25)) (er rfl))) ?_
     refine zan (fun _ _ => zaq (zai rfl (er rfl))) ?_
     refine zan (fun _ _ => zaq (zai rfl (er rfl))) ?_
     refine zan (fun _ _ => zaq (zbf (r := rConstraint) (v := b_v) (n := n13) (m := (o13 + n13 * rConstraint.sz)) zbb ti92 rfl q31 rfl q29 q30 rfl (er rfl))) ?_
     refine zan (fun _ _ => zaq (zaj zbv rfl ti4 rfl rfl rfl (er rfl))) ?_
     refine zan (fun _ hE58 => zaq (zbx zci rfl rfl zes (zbi ((ke hL29 hE58) S) (zbi (K32 S) f28)) (er rfl))) ?_
     refine zan (fun _ _ => zaq (OpY.neqBool zci rfl rfl (er rfl))) ?_
     refine zan (fun _ _ => zaq (zai rfl (er rfl))) ?_
     refine zan (fun _ _ => zbh rfl rfl (zeo hc11) (zaj zaz rfl ti2 rfl rfl rfl (er rfl))) ?_
     refine zan (fun _ hE62 => zbh rfl rfl (zeo hc11) (zat zbr rfl rfl ((hL29.ext hE62).at 0 rfl rfl) rfl (er rfl))) ?_
     refine zan (fun _ _ => zbh rfl rfl (zeo hc11) (zaj zaz rfl ti2 rfl rfl rfl (er rfl))) ?_
     refine zan (fun _ hE64 => zbh rfl rfl (zeo hc11) (zat zbr rfl rfl ((hL29.ext hE64).at 1 rfl rfl) rfl (er rfl))) ?_
     refine zan (fun _ _ => zbh rfl rfl (zeo hc11) (zei (x := f11.Const) (y := g12.Const) ((f11.Const : Int) ≠ g12.Const) rfl rfl zbe (er rfl))) ?_
     refine zan (fun _ _ => zaq (zbn rfl (zeo hc11) rfl (er rfl))) ?_
     refine zan (fun _ _ => zaq (zai rfl (er rfl))) ?_
     refine zan (fun _ _ => zce rfl rfl (zem hc12) (er rfl)) ?_
     refine zan (fun _ _ => zce rfl rfl (zem hc12) (er rfl)) ?_
     refine zan (fun _ _ => zce rfl rfl (zem hc12) (er rfl)) ?_
     refine zan (fun _ _ => zce rfl rfl (zem hc12) (er rfl)) ?_
     refine zan (fun _ _ => zce rfl rfl (zem hc12) (er rfl)) ?_
     refine zan (fun _ _ => zce rfl rfl (zem hc12) (er rfl)) ?_
     refine zcw ?_
     rintro w80 Z70 hE74 hZ61 ⟨-⟩ ap11
     have hB11 := @zhb w54 Z70
     obtain ⟨hL32, K35⟩ := zl hL29 hE74
     refine zbg rfl rfl (zem hc12) ?_
     refine zag (zbj (t := (decide ((f11.Const : Int) ≠ g12.Const))) (v := zT) rfl (zem hc12) rfl (zap ?_))
     obtain rfl := zae h
     refine zas ?_
     exact ⟨true, _, rfl, (zeq ⟨rfl, rfl, rfl, rfl, rfl, rfl, trivial⟩), hL32, (zao K32 K35), trivial⟩
    replace h := ite_f hc12 h
    refine zck 25 [] [] (fun W1 => [.det a_v, .det (zI i10), .det (zak (some ⟨b16, (o12 + n12 * rConstraint.sz), none⟩)), .det (zak (some ⟨b16, (o12 + n12 * rConstraint.sz) + 2, none⟩)), .det (zab x13.Equal), .det b_v, .det (zI i10), .det (zak (some ⟨b17, (o13 + n13 * rConstraint.sz), none⟩)), .det (zak (some ⟨b17, (o13 + n13 * rConstraint.sz) + 2, none⟩)), .det (zab x14.Equal), .det (zab (!(x13.Equal == x14.Equal))), .det (zab (!(x13.Equal == x14.Equal))), .det (zak (some ⟨b10, 0, none⟩)), .det (zI f11.Const), .det (zak (some ⟨b11, 0, none⟩)), .det (zI g12.Const), .det (zab (decide ((f11.Const : Int) ≠ g12.Const))), .det (zab (decide ((f11.Const : Int) ≠ g12.Const))), .det (zab (decide ((f11.Const : Int) ≠ g12.Const))), .det (zak (some ⟨b10, 1, none⟩)), .det v10, .det (zI (f11.Coefs.length : Int)), .det (zak (some ⟨b11, 1, none⟩)), .det v11, .det (zI (g12.Coefs.length : Int))]) mixed rfl rfl rfl (fun _ => rfl) (fun _ => rfl) ?_ ?_
    ·
     intro W1 _
     exact trivial
    intro w81 hE75
    obtain ⟨hL33, K36⟩ := zl hL26 hE75
    refine zan (fun _ _ => zaq (zai rfl (er rfl))) ?_
    refine zan (fun _ _ => zaq (zai rfl (er rfl))) ?_
    refine zan (fun _ _ => zaq (zbf (r := rConstraint) (v := a_v) (n := n12) (m := (o12 + n12 * rConstraint.sz)) zbb ti92 rfl q25 rfl q23 q24 rfl (er rfl))) ?_
    refine zan (fun _ _ => zaq (zaj zbv rfl ti4 rfl rfl rfl (er rfl))) ?_
    refine zan (fun _ hE80 => zaq (zbx zci rfl rfl zes (zbi ((ke hL33 hE80) S) (zbi (K36 S) f25)) (er rfl))) ?_
    refine zan (fun _ _ => zaq (zai rfl (er rfl))) ?_
    refine zan (fun _ _ => zaq (zai rfl (er rfl))) ?_
    refine zan (fun _ _ => zaq (zbf (r := rConstraint) (v := b_v) (n := n13) (m := (o13 + n13 * rConstraint.sz)) zbb ti92 rfl q31 rfl q29 q30 rfl (er rfl))) ?_
    refine zan (fun _ _ => zaq (zaj zbv rfl ti4 rfl rfl rfl (er rfl))) ?_
    refine zan (fun _ hE85 => zaq (zbx zci rfl rfl zes (zbi ((ke hL33 hE85) S) (zbi (K36 S) f28)) (er rfl))) ?_
    refine zan (fun _ _ => zaq (OpY.neqBool zci rfl rfl (er rfl))) ?_
    refine zan (fun _ _ => zaq (zai rfl (er rfl))) ?_
    refine zan (fun _ _ => zbh rfl rfl (zeo hc11) (zaj zaz rfl ti2 rfl rfl rfl (er rfl))) ?_
    refine zan (fun _ hE89 => zbh rfl rfl (zeo hc11) (zat zbr rfl rfl ((hL33.ext hE89).at 0 rfl rfl) rfl (er rfl))) ?_
    refine zan (fun _ _ => zbh rfl rfl (zeo hc11) (zaj zaz rfl ti2 rfl rfl rfl (er rfl))) ?_
    refine zan (fun _ hE91 => zbh rfl rfl (zeo hc11) (zat zbr rfl rfl ((hL33.ext hE91).at 1 rfl rfl) rfl (er rfl))) ?_
    refine zan (fun _ _ => zbh rfl rfl (zeo hc11) (zei (x := f11.Const) (y := g12.Const) ((f11.Const : Int) ≠ g12.Const) rfl rfl zbe (er rfl))) ?_
    refine zan (fun _ _ => zaq (zbn rfl (zeo hc11) rfl (er rfl))) ?_
    refine zan (fun _ _ => zaq (zai rfl (er rfl))) ?_
    refine zan (fun _ _ => zbh rfl rfl (zel hc12) (zaj zaz rfl ti88 rfl rfl rfl (er rfl))) ?_
    refine zan (fun _ hE96 => zbh rfl rfl (zel hc12) (zat zay rfl rfl ((hL33.ext hE96).at 0 rfl rfl) rfl (er rfl))) ?_
    refine zan (fun _ hE97 => zbh rfl rfl (zel hc12) (zbl (v := v10) zay rfl ((k12.mono (K36 S)).mono ((ke hL33 hE97) S)) (er rfl))) ?_
    refine zan (fun _ _ => zbh rfl rfl (zel hc12) (zaj zaz rfl ti88 rfl rfl rfl (er rfl))) ?_
    refine zan (fun _ hE99 => zbh rfl rfl (zel hc12) (zat zay rfl rfl ((hL33.ext hE99).at 1 rfl rfl) rfl (er rfl))) ?_
    refine zan (fun _ hE100 => zbh rfl rfl (zel hc12) (zbl (v := v11) zay rfl ((k13.mono (K36 S)).mono ((ke hL33 hE100) S)) (er rfl))) ?_
    refine zcw ?_
    rintro w107 Z96 hE101 hZ87 ⟨-⟩ ap12
    have hB12 := @zhb w81 Z96
    obtain ⟨hL38, K41⟩ := zl hL33 hE101
    refine zba rfl rfl (zel hc12) (zei (x := (f11.Coefs.length : Int)) (y := (g12.Coefs.length : Int)) (((f11.Coefs.length : Int) : Int) ≠ (g12.Coefs.length : Int)) rfl rfl zbe ?_)
    refine zag (zbn (t := (decide ((f11.Const : Int) ≠ g12.Const))) (v := (zab (decide (((f11.Coefs.length : Int) : Int) ≠ (g12.Coefs.length : Int))))) rfl (zel hc12) rfl (zap ?_))
    obtain rfl := zae h
    refine zas ?_
    exact ⟨(decide (((f11.Coefs.length : Int) : Int) ≠ (g12.Coefs.length : Int))), _, rfl, (zeq ⟨rfl, rfl, rfl, rfl, rfl, rfl, trivial⟩), hL38, (zao K36 K41), trivial⟩
   rintro _ w108 ⟨x12, u, rfl, rfl, hL39, K42, -⟩
   replace h := g13
   try dsimp only at h
   refine zdd x12 rfl (fun hc13 => ?_) (fun hc13 => ?_)
   ·
    replace h := ite_t hc13 h
    refine zal (zah rfl (zag (zam (v := zF) rfl ?_)))
    refine zap (zbo ?_)
    obtain rfl := zae h
    obtain rfl := hd10 _ rfl
    replace h := g10
    try dsimp only at h
    obtain rfl := zae h
    refine ⟨[zF], zrt, ⟨_, rfl, hL39.done, ?_⟩⟩
    exact zrt
   replace h := ite_f hc13 h
   refine zbp (zal (zah rfl (zag (zam (v := (zI 0)) rfl (zap ?_)))))
   obtain ⟨s13, hl11, g14⟩ := zen h
   refine zch (fun e w' => ∃  (u : Env), (Sum.inl ()) = s13 ∧ e = upds [(0, a_v), (1, b_v), (5, (zI i10))] u ∧ vL w w' [] [] ∧ Keep w.heap.size [some b10, some b11] w108 [] w' ∧ True) ?_ ?_
   ·
    refine zbq ?_
    refine zcx hl11 (fun (ss : Int) (e : Env) (w' : World) => match ss with | k16 => ∃ (u : Env), e = upds [(0, a_v), (1, b_v), (5, (zI i10)), (6, (zak (some ⟨b10, 0, none⟩))), (7, (zak (some ⟨b11, 0, none⟩))), (8, (zI k16))] u ∧ vL w w' [some b10, some b11] [zac [(zI f11.Const), v10], zac [(zI g12.Const), v11]] ∧ Keep w.heap.size [some b10, some b11] w108 [some b10, some b11] w' ∧ True) ⟨_, (zeq ⟨rfl, rfl, rfl, rfl, rfl, rfl, trivial⟩), hL39, zcj, trivial⟩ ?_
    rintro k16 oo _ w109 ⟨u, rfl, hL40, K43, -⟩ h hd11
    rw [wSame_b2] at h
    refine zal (zal (zah rfl (zag (zai (v := (zI k16)) rfl ?_))))
    refine zag (zaj (q := 1) zaz rfl ti88 rfl rfl rfl ?_)
    refine zag (zat (v := v10) zay rfl rfl (hL40.at 0 rfl rfl) rfl ?_)
    have f29 := ((k12.mono (K42 S)).mono (K43 S))
    refine zag (zbl (v := v10) zay rfl f29 ?_)
    refine zag (zcq (x := k16) (y := (f11.Coefs.length : Int)) ((k16 : Int) < (f11.Coefs.length : Int)) rfl rfl zbe (zap ?_))
    refine zbk ((k16 : Int) < (f11.Coefs.length : Int)) rfl (fun hc14 => ?_) (fun hc14 => ?_)
    ·
     replace h := ite_t hc14 h
     refine zbp (zal (zbq (zal ?_)))
     obtain ⟨x15, n14, q35, q36, -, h⟩ := zix h
     obtain ⟨b18, o14, c14, vs14, q37, q38, f30, q39⟩ := zcz f29 q36
     obtain ⟨rfl, -⟩ := rCoef_open q39
     obtain ⟨x16, n15, q41, q42, -, h⟩ := zix h
     have f31 := ((k13.mono (K42 S)).mono (K43 S))
     obtain ⟨b19, o15, c15, vs15, q43, q44, f32, q45⟩ := zcz f31 q42
     obtain ⟨rfl, -⟩ := rCoef_open q45
     refine zck 10 [] [] (fun W1 => [.det (zak (some ⟨b10, 1, none⟩)), .det v10, .det (zI k16), .det (zak (some ⟨b18, (o14 + n14 * rCoef.sz), none⟩)), .det (zar #[(zI x15.Var), (zI x15.N)]), .det (zak (some ⟨b11, 1, none⟩)), .det v11, .det (zI k16), .det (zak (some ⟨b19, (o15 + n15 * rCoef.sz), none⟩)), .det (zar #[(zI x16.Var), (zI x16.N)])]) mixed rfl rfl rfl (fun _ => rfl) (fun _ => rfl) ?_ ?_
     ·
      intro W1 _
      exact trivial
     intro w110 hE102
     obtain ⟨hL41, K44⟩ := zl hL40 hE102
     refine zan (fun _ _ => zaq (zaj zaz rfl ti88 rfl rfl rfl (er rfl))) ?_
     refine zan (fun _ hE104 => zaq (zat zay rfl rfl ((hL41.ext hE104).at 0 rfl rfl) rfl (er rfl))) ?_
     refine zan (fun _ _ => zaq (zai rfl (er rfl))) ?_
     refine zan (fun _ _ => zaq (zbf (r := rCoef) (v := v10) (n := n14) (m := (o14 + n14 * rCoef.sz)) zay ti87 rfl q37 rfl q35 q36 rfl (er rfl))) ?_
     refine zan (fun _ hE107 => zaq (zdi (vs := [(zI x15.Var), (zI x15.N)]) zbu rfl ti87 rfl rfl zes (zbi ((ke hL41 hE107) S) (zbi (K44 S) f30)) (er rfl))) ?_
     refine zan (fun _ _ => zaq (zaj zaz rfl ti88 rfl rfl rfl (er rfl))) ?_
     refine zan (fun _ hE109 => zaq (zat zay rfl rfl ((hL41.ext hE109).at 1 rfl rfl) rfl (er rfl))) ?_
     refine zan (fun _ _ => zaq (zai rfl (er rfl))) ?_
     refine zan (fun _ _ => zaq (zbf (r := rCoef) (v := v11) (n := n15) (m := (o15 + n15 * rCoef.sz)) zay ti87 rfl q43 rfl q41 q42 rfl (er rfl))) ?_
     refine zan (fun _ hE112 => zaq (zdi (vs := [(zI x16.Var), (zI x16.N)]) zbu rfl ti87 rfl rfl zes (zbi ((ke hL41 hE112) S) (zbi (K44 S) f32)) (er rfl))) ?_
     refine zcw ?_
     rintro w121 Z107 hE113 hZ98 ⟨-⟩ ap13
     have hB13 := @zhb w110 Z107
     obtain ⟨hL44, K47⟩ := zl hL41 hE113
     refine zag (OpY.neq2 eq2_87 rfl rfl (zap ?_))
     refine zbk (¬ ((x15.Var : Int) = x16.Var ∧ (x15.N : Int) = x16.N)) rfl (fun hc15 => ?_) (fun hc15 => ?_)
     ·
      replace h := ite_t hc15 h
      refine zal (zah rfl (zag (zam (v := zF) rfl ?_)))
      refine zap (zbo ?_)
      obtain rfl := zae h
      obtain rfl := hd11 _ rfl
      replace h := g14
      try dsimp only at h
      obtain rfl := zae h
      obtain rfl := hd10 _ rfl
      replace h := g10
      try dsimp only at h
      obtain rfl := zae h
      refine ⟨[zF], zrt, ⟨_, rfl, hL44.done, ?_⟩⟩
      exact zrt
     replace h := ite_f hc15 h
     refine zbp (zcd (zah rfl (zag (zai (v := (zI k16)) rfl ?_))))
     refine zag (zco (x := k16) (y := 1) (z := (iw (k16 + 1))) rfl rfl rfl ?_)
     refine zag (zam (v := (zI (iw (k16 + 1)))) rfl (zap ?_))
     obtain rfl := zae h
     refine zas ⟨(iw (k16 + 1)), rfl, ?_⟩
     exact ⟨_, (zeq ⟨rfl, rfl, rfl, rfl, rfl, rfl, trivial⟩), hL44, (zao (zao K43 K44) K47), trivial⟩
    replace h := ite_f hc14 h
    refine zde rfl ?_
    have hp15 := hL40.pick [] rfl rfl rfl
    have hL45 : vL w w109 [] [] := hp15.1
    have K48 := ks w hp15.2
    obtain rfl := zae h
    obtain rfl := hd11 _ rfl
    replace h := g14
    try dsimp only at h
    refine zas ?_
    exact ⟨_, rfl, (zeq ⟨rfl, rfl, rfl, trivial⟩), hL45, (zao K43 K48), trivial⟩
   rintro _ w122 ⟨u, rfl, rfl, hL46, K49, -⟩
   replace h := g14
   try dsimp only at h
   refine zcd (zah rfl (zag (zai (v := (zI i10)) rfl ?_)))
   refine zag (zco (x := i10) (y := 1) (z := (iw (i10 + 1))) rfl rfl rfl ?_)
   refine zag (zam (v := (zI (iw (i10 + 1)))) rfl (zap ?_))
   obtain rfl := zae h
   refine zas ⟨(iw (i10 + 1)), rfl, ?_⟩
   exact ⟨_, (zeq ⟨rfl, rfl, rfl, trivial⟩), hL46, (zao (zao (zao K10 K27) K42) K49), trivial⟩
  replace h := ite_f hc10 h
  refine zde rfl ?_
  obtain rfl := zae h
  obtain rfl := hd10 _ rfl
  replace h := g10
  try dsimp only at h
  refine zas ?_
  exact ⟨_, rfl, (zeq trivial), hL10, K10, trivial⟩
 rintro _ w123 ⟨u, rfl, rfl, hL47, K50, -⟩
 replace h := g10
 try dsimp only at h
 refine zal (zah rfl (zag (zam (v := zT) rfl ?_)))
 refine zap (zbo ?_)
 obtain rfl := zae h
 refine ⟨[zT], zrt, ⟨_, rfl, hL47.done, ?_⟩⟩
 exact zrt
theorem wDomains_w (N : Nat) (l : (List RVar)) (l_v : Value) (w : World) (S : Nat → Prop) (l_h : Rs rRVar (vH w S [] w) l_v l) (r : Bool) (h : wDomains N l = some r) :
  Calls Tryz.prog 35 #[l_v] w (Ret w (fun v w' => (zab r) = v ∧ True)) := by
 unfold wDomains at h
 have hL : vL w w [] [] := Go.X.Loc.begin0 w
 refine calls_of (l := [l_v]) (rl := [.tmp 2]) (n := 64) Tryz.func35 rfl rfl rfl (zaf rfl) ?_
 refine zal (zah rfl (zag (zam (v := zF) rfl ?_)))
 refine zap (zal (zal (zah rfl (zag (zam (v := (zI 0)) rfl (zap ?_))))))
 obtain ⟨s10, hl10, g10⟩ := zen h
 refine zch (fun e w' => ∃  (u : Env), (Sum.inl ()) = s10 ∧ e = upds [(0, l_v)] u ∧ vL w w' [] [] ∧ Keep w.heap.size [] w [] w' ∧ True) ?_ ?_
 ·
  refine zbq ?_
  refine zcx hl10 (fun (ss : Int) (e : Env) (w' : World) => match ss with | i10 => ∃ (u : Env), e = upds [(0, l_v), (3, (zI i10))] u ∧ vL w w' [] [] ∧ Keep w.heap.size [] w [] w' ∧ True) ⟨_, (zeq ⟨rfl, rfl, trivial⟩), hL, zcj, trivial⟩ ?_
  rintro i10 oo _ w10 ⟨u, rfl, hL10, K10, -⟩ h hd10
  rw [wDomains_b1] at h
  refine zal (zal (zah rfl (zag (zai (v := (zI i10)) rfl ?_))))
  refine zag (zai (v := l_v) rfl ?_)
  have f10 := (l_h.mono (K10 S))
  refine zag (zbl (v := l_v) zbm rfl f10 ?_)
  refine zag (zcq (x := i10) (y := (l.length : Int)) ((i10 : Int) < (l.length : Int)) rfl rfl zbe (zap ?_))
  refine zbk ((i10 : Int) < (l.length : Int)) rfl (fun hc10 => ?_) (fun hc10 => ?_)
  ·
   replace h := ite_t hc10 h
   refine zbp (zal (zbq (zal (zah rfl (zag (zai (v := l_v) rfl ?_))))))
   refine zag (zai (v := (zI i10)) rfl ?_)
   obtain ⟨x10, n10, q11, q12, -, h⟩ := zix h
   obtain ⟨b10, o10, c10, vs10, q13, q14, f11, q15⟩ := zcz f10 q12
   obtain ⟨rfl, -⟩ := rRVar_open q15
   refine zag (zbf (r := rRVar) (v := l_v) (n := n10) (m := (o10 + n10 * rRVar.sz)) zbm ti83 rfl q13 rfl q11 q12 rfl ?_)
   refine zag (zdi (vs := [(zI x10.Ty), (zI x10.Low), (zI x10.High), (zI x10.Max), (zab x10.Nullable)]) zcc rfl ti83 rfl rfl zes f11 ?_)
   refine zag (zcl (cs := [(zI 0), (zI 0), (zI 0), (zI 0), zF]) ti83 rfl hL10 ?_)
   intro b11 w11 hL11 hS10
   have K11 := ks w hS10
   refine zdc (zbw (vs := [(zI x10.Ty), (zI x10.Low), (zI x10.High), (zI x10.Max), (zab x10.Nullable)]) ti83 rfl rfl rfl rfl (zep rfl (zep rfl (zep rfl (zep rfl (zep rfl zet))))) hL11 0 rfl rfl (zaf rfl) ?_)
   intro w12 (hL12 : vL w w12 [some b11] [zac [(zI x10.Ty), (zI x10.Low), (zI x10.High), (zI x10.Max), (zab x10.Nullable)]]) hS11
   have K12 := ks w hS11
   refine zap (zal (zal ?_))
   obtain ⟨s11, h, g11⟩ := zen h
   refine zch (fun e w' => ∃ (x11 : Bool) (u : Env), x11 = s11 ∧ e = upds [(0, l_v), (3, (zI i10)), (4, (zak (some ⟨b11, 0, none⟩))), (37, (zab x11))] u ∧ vL w w' [some b11] [zac [(zI x10.Ty), (zI x10.Low), (zI x10.High), (zI x10.Max), (zab x10.Nullable)]] ∧ Keep w.heap.size [some b11] w12 [some b11] w' ∧ True) ?_ ?_
   ·
    refine zah rfl (zag (zaj (q := 0) zcc rfl ti3 rfl rfl rfl ?_))
    refine zag (zat (v := (zI x10.Ty)) zau rfl rfl (hL12.at 0 rfl rfl) rfl ?_)
    refine zag (zeb (x := x10.Ty) (y := 1) ((x10.Ty : Int) = 1) rfl rfl zbe ?_)
    refine zag (zai (v := (zab (decide ((x10.Ty : Int) = 1)))) rfl ?_)
    by_cases hc11 : (x10.Ty : Int) = 1
    ·
     replace h := ite_t hc11 h
     refine zba rfl rfl (zem hc11) (zaj (q := 1) zcc rfl ti2 rfl rfl rfl ?_)
     refine zba rfl rfl (zem hc11) (zat (v := (zI x10.Low)) zbr rfl rfl (hL12.at 0 rfl rfl) rfl ?_)
     refine zba rfl rfl (zem hc11) (zcq (x := x10.Low) (y := (-2147483648)) ((x10.Low : Int) < (-2147483648)) rfl rfl zbe ?_)
     refine zba rfl rfl (zem hc11) (zai (v := (zab (decide ((x10.Low : Int) < (-2147483648))))) rfl ?_)
     by_cases hc12 : (x10.Low : Int) < (-2147483648)
     ·
      replace h := ite_t hc12 h
      refine zbg rfl rfl (zem hc12) (zbg rfl rfl (zem hc12) (zbg rfl rfl (zem hc12) ?_))
      refine zba rfl rfl (zem hc11) (zbj (t := (decide ((x10.Low : Int) < (-2147483648)))) (v := zT) rfl (zem hc12) rfl ?_)
      refine zba rfl rfl (zem hc11) (zai (v := zT) rfl ?_)
      refine zbg rfl rfl rfl (zbg rfl rfl rfl (zbg rfl rfl rfl ?_))
      refine zba rfl rfl (zem hc11) (zbj (t := true) (v := zT) rfl rfl rfl ?_)
      refine zba rfl rfl (zem hc11) (zai (v := zT) rfl ?_)
      refine zbg rfl rfl rfl (zbg rfl rfl rfl (zbg rfl rfl rfl ?_))
      refine zba rfl rfl (zem hc11) (zbj (t := true) (v := zT) rfl rfl rfl ?_)
      refine zag (zbj (t := (decide ((x10.Ty : Int) = 1))) (v := zT) rfl (zem hc11) rfl (zap ?_))
      obtain rfl := zae h
      refine zas ?_
      exact ⟨true, _, rfl, (zeq ⟨rfl, rfl, rfl, rfl, trivial⟩), hL12, zcj, trivial⟩
     replace h := ite_f hc12 h
     refine zba rfl rfl (zel hc12) (zaj (q := 1) zcc rfl ti2 rfl rfl rfl ?_)
     refine zba rfl rfl (zel hc12) (zat (v := (zI x10.Low)) zbr rfl rfl (hL12.at 0 rfl rfl) rfl ?_)
     refine zba rfl rfl (zel hc12) (zeg (x := x10.Low) (y := 2147483647) ((x10.Low : Int) > 2147483647) rfl rfl zbe ?_)
     refine zba rfl rfl (zem hc11) (zbn (t := (decide ((x10.Low : Int) < (-2147483648)))) (v := (zab (decide ((x10.Low : Int) > 2147483647)))) rfl (zel hc12) rfl ?_)
     refine zba rfl rfl (zem hc11) (zai (v := (zab (decide ((x10.Low : Int) > 2147483647)))) rfl ?_)
     by_cases hc13 : (x10.Low : Int) > 2147483647
     ·
      replace h := ite_t hc13 h
      refine zbg rfl rfl (zem hc13) (zbg rfl rfl (zem hc13) (zbg rfl rfl (zem hc13) ?_))
      refine zba rfl rfl (zem hc11) (zbj (t := (decide ((x10.Low : Int) > 2147483647))) (v := zT) rfl (zem hc13) rfl ?_)
      refine zba rfl rfl (zem hc11) (zai (v := zT) rfl ?_)
      refine zbg rfl rfl rfl (zbg rfl rfl rfl (zbg rfl rfl rfl ?_))
      refine zba rfl rfl (zem hc11) (zbj (t := true) (v := zT) rfl rfl rfl ?_)
      refine zag (zbj (t := (decide ((x10.Ty : Int) = 1))) (v := zT) rfl (zem hc11) rfl (zap ?_))
      obtain rfl := zae h
      refine zas ?_
      exact ⟨true, _, rfl, (zeq ⟨rfl, rfl, rfl, rfl, trivial⟩), hL12, zcj, trivial⟩
     replace h := ite_f hc13 h
     refine zba rfl rfl (zel hc13) (zaj (q := 2) zcc rfl ti2 rfl rfl rfl ?_)
     refine zba rfl rfl (zel hc13) (zat (v := (zI x10.High)) zbr rfl rfl (hL12.at 0 rfl rfl) rfl ?_)
     refine zba rfl rfl (zel hc13) (zcq (x := x10.High) (y := (-2147483648)) ((x10.High : Int) < (-2147483648)) rfl rfl zbe ?_)
     refine zba rfl rfl (zem hc11) (zbn (t := (decide ((x10.Low : Int) > 2147483647))) (v := (zab (decide ((x10.High : Int) < (-2147483648))))) rfl (zel hc13) rfl ?_)
     refine zba rfl rfl (zem hc11) (zai (v := (zab (decide ((x10.High : Int) < (-2147483648))))) rfl ?_)
     by_cases hc14 : (x10.High : Int) < (-2147483648)
     ·
      replace h := ite_t hc14 h
      refine zbg rfl rfl (zem hc14) (zbg rfl rfl (zem hc14) (zbg rfl rfl (zem hc14) ?_))
      refine zba rfl rfl (zem hc11) (zbj (t := (decide ((x10.High : Int) < (-2147483648)))) (v := zT) rfl (zem hc14) rfl ?_)
      refine zag (zbj (t := (decide ((x10.Ty : Int) = 1))) (v := zT) rfl (zem hc11) rfl (zap ?_))
      obtain rfl := zae h
      refine zas ?_
      exact ⟨true, _, rfl, (zeq ⟨rfl, rfl, rfl, rfl, trivial⟩), hL12, zcj, trivial⟩
     replace h := ite_f hc14 h
     refine zba rfl rfl (zel hc14) (zaj (q := 2) zcc rfl ti2 rfl rfl rfl ?_)
     refine zba rfl rfl (zel hc14) (zat (v := (zI x10.High)) zbr rfl rfl (hL12.at 0 rfl rfl) rfl ?_)
     refine zba rfl rfl (zel hc14) (zeg (x := x10.High) (y := 2147483647) ((x10.High : Int) > 2147483647) rfl rfl zbe ?_)
     refine zba rfl rfl (zem hc11) (zbn (t := (decide ((x10.High : Int) < (-2147483648)))) (v := (zab (decide ((x10.High : Int) > 2147483647)))) rfl (zel hc14) rfl ?_)
     refine zag (zbj (t := (decide ((x10.Ty : Int) = 1))) (v := (zab (decide ((x10.High : Int) > 2147483647)))) rfl (zem hc11) rfl (zap ?_))
     obtain rfl := zae h
     refine zas ?_
     exact ⟨(decide ((x10.High : Int) > 2147483647)), _, rfl, (zeq ⟨rfl, rfl, rfl, rfl, trivial⟩), hL12, zcj, trivial⟩
    replace h := ite_f hc11 h
    refine zbg rfl rfl (zel hc11) (zbg rfl rfl (zel hc11) (zbg rfl rfl (zel hc11) (zbg rfl rfl (zel hc11) ?_)))
    refine zdf rfl rfl ?_
    refine zdf rfl rfl ?_
    refine zdf rfl rfl ?_
    refine zbg rfl rfl (zel hc11) (zbg rfl rfl (zel hc11) ?_)
    refine zdf rfl rfl ?_
    refine zdf rfl rfl ?_
    refine zdf rfl rfl ?_
    refine zbg rfl rfl (zel hc11) (zbg rfl rfl (zel hc11) ?_)
    refine zdf rfl rfl ?_
    refine zdf rfl rfl ?_
    refine zdf rfl rfl ?_
    refine zbg rfl rfl (zel hc11) ?_
    refine zag (zbn (t := (decide ((x10.Ty : Int) = 1))) (v := zF) rfl (zel hc11) rfl (zap ?_))
    obtain rfl := zae h
    refine zas ?_
    exact ⟨false, _, rfl, (zeq ⟨rfl, rfl, rfl, rfl, trivial⟩), hL12, zcj, trivial⟩
   rintro _ w13 ⟨x11, u, rfl, rfl, hL13, K13, -⟩
   replace h := g11
   try dsimp only at h
   refine zdd x11 rfl (fun hc15 => ?_) (fun hc15 => ?_)
   ·
    replace h := ite_t hc15 h
    refine zal (zah rfl (zag (zam (v := zF) rfl ?_)))
    refine zap (zbo ?_)
    obtain rfl := zae h
    obtain rfl := hd10 _ rfl
    replace h := g10
    try dsimp only at h
    obtain rfl := zae h
    refine ⟨[zF], zrt, ⟨_, rfl, hL13.done, ?_⟩⟩
    exact zrt
   replace h := ite_f hc15 h
   refine zbp (zal ?_)
   obtain ⟨s12, h, g12⟩ := zen h
   refine zch (fun e w' => ∃ (x12 : Bool) (u : Env), x12 = s12 ∧ e = upds [(0, l_v), (3, (zI i10)), (60, (zab x12))] u ∧ vL w w' [] [] ∧ Keep w.heap.size [some b11] w13 [] w' ∧ True) ?_ ?_
   ·
    refine zah rfl (zag (zaj (q := 0) zcc rfl ti3 rfl rfl rfl ?_))
    refine zag (zat (v := (zI x10.Ty)) zau rfl rfl (hL13.at 0 rfl rfl) rfl ?_)
    refine zag (zeb (x := x10.Ty) (y := 2) ((x10.Ty : Int) = 2) rfl rfl zbe ?_)
    refine zag (zai (v := (zab (decide ((x10.Ty : Int) = 2)))) rfl ?_)
    by_cases hc16 : (x10.Ty : Int) = 2
    ·
     replace h := ite_t hc16 h
     refine zba rfl rfl (zem hc16) (zaj (q := 3) zcc rfl ti3 rfl rfl rfl ?_)
     refine zba rfl rfl (zem hc16) (zat (v := (zI x10.Max)) zau rfl rfl (hL13.at 0 rfl rfl) rfl ?_)
     refine zba rfl rfl (zem hc16) (zcq (x := x10.Max) (y := 0) ((x10.Max : Int) < 0) rfl rfl zbe ?_)
     refine zba rfl rfl (zem hc16) (zai (v := (zab (decide ((x10.Max : Int) < 0)))) rfl ?_)
     by_cases hc17 : (x10.Max : Int) < 0
     ·
      replace h := ite_t hc17 h
      refine zbg rfl rfl (zem hc17) (zbg rfl rfl (zem hc17) (zbg rfl rfl (zem hc17) ?_))
      refine zba rfl rfl (zem hc16) (zbj (t := (decide ((x10.Max : Int) < 0))) (v := zT) rfl (zem hc17) rfl ?_)
      refine zag (zbj (t := (decide ((x10.Ty : Int) = 2))) (v := zT) rfl (zem hc16) rfl ?_)
      refine zag (zai (v := zT) rfl ?_)
      refine zbg rfl rfl rfl (zbg rfl rfl rfl (zbg rfl rfl rfl (zbg rfl rfl rfl ?_)))
      refine zdf rfl rfl ?_
      refine zdf rfl rfl ?_
      refine zdf rfl rfl ?_
      refine zbg rfl rfl rfl ?_
      refine zag (zbj (t := true) (v := zT) rfl rfl rfl (zap ?_))
      have hp10 := hL13.pick [] rfl rfl rfl
      have hL14 : vL w w13 [] [] := hp10.1
      have K14 := ks w hp10.2
      obtain rfl := zae h
      refine zas ?_
      exact ⟨true, _, rfl, (zeq ⟨rfl, rfl, rfl, trivial⟩), hL14, K14, trivial⟩
     replace h := ite_f hc17 h
     refine zba rfl rfl (zel hc17) (zaj (q := 3) zcc rfl ti3 rfl rfl rfl ?_)
     refine zba rfl rfl (zel hc17) (zat (v := (zI x10.Max)) zau rfl rfl (hL13.at 0 rfl rfl) rfl ?_)
     refine zba rfl rfl (zel hc17) (zeg (x := x10.Max) (y := 16) ((x10.Max : Int) > 16) rfl rfl zbe ?_)
     refine zba rfl rfl (zem hc16) (zbn (t := (decide ((x10.Max : Int) < 0))) (v := (zab (decide ((x10.Max : Int) > 16)))) rfl (zel hc17) rfl ?_)
     refine zag (zbj (t := (decide ((x10.Ty : Int) = 2))) (v := (zab (decide ((x10.Max : Int) > 16)))) rfl (zem hc16) rfl ?_)
     refine zag (zai (v := (zab (decide ((x10.Max : Int) > 16)))) rfl ?_)
     by_cases hc18 : (x10.Max : Int) > 16
     ·
      replace h := ite_t hc18 h
      refine zbg rfl rfl (zem hc18) (zbg rfl rfl (zem hc18) (zbg rfl rfl (zem hc18) (zbg rfl rfl (zem hc18) ?_)))
      refine zdf rfl rfl ?_
      refine zdf rfl rfl ?_
      refine zdf rfl rfl ?_
      refine zbg rfl rfl (zem hc18) ?_
      refine zag (zbj (t := (decide ((x10.Max : Int) > 16))) (v := zT) rfl (zem hc18) rfl (zap ?_))
      have hp11 := hL13.pick [] rfl rfl rfl
      have hL15 : vL w w13 [] [] := hp11.1
      have K15 := ks w hp11.2
      obtain rfl := zae h
      refine zas ?_
      exact ⟨true, _, rfl, (zeq ⟨rfl, rfl, rfl, trivial⟩), hL15, K15, trivial⟩
     replace h := ite_f hc18 h
     refine zba rfl rfl (zel hc18) (zaj (q := 0) zcc rfl ti3 rfl rfl rfl ?_)
     refine zba rfl rfl (zel hc18) (zat (v := (zI x10.Ty)) zau rfl rfl (hL13.at 0 rfl rfl) rfl ?_)
     refine zba rfl rfl (zel hc18) (zei (x := x10.Ty) (y := 1) ((x10.Ty : Int) ≠ 1) rfl rfl zbe ?_)
     refine zba rfl rfl (zel hc18) (zai (v := (zab (decide ((x10.Ty : Int) ≠ 1)))) rfl ?_)
     by_cases hc19 : (x10.Ty : Int) ≠ 1
     ·
      replace h := ite_t hc19 h
      refine zba rfl rfl (zem hc19) (zaj (q := 0) zcc rfl ti3 rfl rfl rfl ?_)
      refine zba rfl rfl (zem hc19) (zat (v := (zI x10.Ty)) zau rfl rfl (hL13.at 0 rfl rfl) rfl ?_)
      refine zba rfl rfl (zem hc19) (zei (x := x10.Ty) (y := 2) ((x10.Ty : Int) ≠ 2) rfl rfl zbe ?_)
      refine zba rfl rfl (zel hc18) (zbj (t := (decide ((x10.Ty : Int) ≠ 1))) (v := (zab (decide ((x10.Ty : Int) ≠ 2)))) rfl (zem hc19) rfl ?_)
      refine zag (zbn (t := (decide ((x10.Max : Int) > 16))) (v := (zab (decide ((x10.Ty : Int) ≠ 2)))) rfl (zel hc18) rfl (zap ?_))
      have hp12 := hL13.pick [] rfl rfl rfl
      have hL16 : vL w w13 [] [] := hp12.1
      have K16 := ks w hp12.2
      obtain rfl := zae h
      refine zas ?_
      exact ⟨(decide ((x10.Ty : Int) ≠ 2)), _, rfl, (zeq ⟨rfl, rfl, rfl, trivial⟩), hL16, K16, trivial⟩
     replace h := ite_f hc19 h
     refine zbg rfl rfl (zel hc19) (zbg rfl rfl (zel hc19) (zbg rfl rfl (zel hc19) ?_))
     refine zba rfl rfl (zel hc18) (zbn (t := (decide ((x10.Ty : Int) ≠ 1))) (v := zF) rfl (zel hc19) rfl ?_)
     refine zag (zbn (t := (decide ((x10.Max : Int) > 16))) (v := zF) rfl (zel hc18) rfl (zap ?_))
     have hp13 := hL13.pick [] rfl rfl rfl
     have hL17 : vL w w13 [] [] := hp13.1
     have K17 := ks w hp13.2
     obtain rfl := zae h
     refine zas ?_
     exact ⟨false, _, rfl, (zeq ⟨rfl, rfl, rfl, trivial⟩), hL17, K17, trivial⟩
    replace h := ite_f hc16 h
    refine zbg rfl rfl (zel hc16) (zbg rfl rfl (zel hc16) (zbg rfl rfl (zel hc16) (zbg rfl rfl (zel hc16) ?_)))
    refine zdf rfl rfl ?_
    refine zdf rfl rfl ?_
    refine zdf rfl rfl ?_
    refine zbg rfl rfl (zel hc16) ?_
    refine zag (zbn (t := (decide ((x10.Ty : Int) = 2))) (v := zF) rfl (zel hc16) rfl ?_)
    refine zag (zai (v := zF) rfl ?_)
    refine zba rfl rfl rfl (zaj (q := 0) zcc rfl ti3 rfl rfl rfl ?_)
    refine zba rfl rfl rfl (zat (v := (zI x10.Ty)) zau rfl rfl (hL13.at 0 rfl rfl) rfl ?_)
    refine zba rfl rfl rfl (zei (x := x10.Ty) (y := 1) ((x10.Ty : Int) ≠ 1) rfl rfl zbe ?_)
    refine zba rfl rfl rfl (zai (v := (zab (decide ((x10.Ty : Int) ≠ 1)))) rfl ?_)
    by_cases hc20 : (x10.Ty : Int) ≠ 1
    ·
     replace h := ite_t hc20 h
     refine zba rfl rfl (zem hc20) (zaj (q := 0) zcc rfl ti3 rfl rfl rfl ?_)
     refine zba rfl rfl (zem hc20) (zat (v := (zI x10.Ty)) zau rfl rfl (hL13.at 0 rfl rfl) rfl ?_)
     refine zba rfl rfl (zem hc20) (zei (x := x10.Ty) (y := 2) ((x10.Ty : Int) ≠ 2) rfl rfl zbe ?_)
     refine zba rfl rfl rfl (zbj (t := (decide ((x10.Ty : Int) ≠ 1))) (v := (zab (decide ((x10.Ty : Int) ≠ 2)))) rfl (zem hc20) rfl ?_)
     refine zag (zbn (t := false) (v := (zab (decide ((x10.Ty : Int) ≠ 2)))) rfl rfl rfl (zap ?_))
     have hp14 := hL13.pick [] rfl rfl rfl
     have hL18 : vL w w13 [] [] := hp14.1
     have K18 := ks w hp14.2
     obtain rfl := zae h
     refine zas ?_
     exact ⟨(decide ((x10.Ty : Int) ≠ 2)), _, rfl, (zeq ⟨rfl, rfl, rfl, trivial⟩), hL18, K18, trivial⟩
    replace h := ite_f hc20 h
    refine zbg rfl rfl (zel hc20) (zbg rfl rfl (zel hc20) (zbg rfl rfl (zel hc20) ?_))
    refine zba rfl rfl rfl (zbn (t := (decide ((x10.Ty : Int) ≠ 1))) (v := zF) rfl (zel hc20) rfl ?_)
    refine zag (zbn (t := false) (v := zF) rfl rfl rfl (zap ?_))
    have hp15 := hL13.pick [] rfl rfl rfl
    have hL19 : vL w w13 [] [] := hp15.1
    have K19 := ks w hp15.2
    obtain rfl := zae h
    refine zas ?_
    exact ⟨false, _, rfl, (zeq ⟨rfl, rfl, rfl, trivial⟩), hL19, K19, trivial⟩
   rintro _ w14 ⟨x12, u, rfl, rfl, hL20, K20, -⟩
   replace h := g12
   try dsimp only at h
   refine zdd x12 rfl (fun hc21 => ?_) (fun hc21 => ?_)
   ·
    replace h := ite_t hc21 h
    refine zal (zah rfl (zag (zam (v := zF) rfl ?_)))
    refine zap (zbo ?_)
    obtain rfl := zae h
    obtain rfl := hd10 _ rfl
    replace h := g10
    try dsimp only at h
    obtain rfl := zae h
    refine ⟨[zF], zrt, ⟨_, rfl, hL20.done, ?_⟩⟩
    exact zrt
   replace h := ite_f hc21 h
   refine zbp (zcd (zah rfl (zag (zai (v := (zI i10)) rfl ?_))))
   refine zag (zco (x := i10) (y := 1) (z := (iw (i10 + 1))) rfl rfl rfl ?_)
   refine zag (zam (v := (zI (iw (i10 + 1)))) rfl (zap ?_))
   obtain rfl := zae h
   refine zas ⟨(iw (i10 + 1)), rfl, ?_⟩
   exact ⟨_, (zeq ⟨rfl, rfl, trivial⟩), hL20, (zao (zao (zao (zao K10 K11) K12) K13) K20), trivial⟩
  replace h := ite_f hc10 h
  refine zde rfl ?_
  obtain rfl := zae h
  obtain rfl := hd10 _ rfl
  replace h := g10
  try dsimp only at h
  refine zas ?_
  exact ⟨_, rfl, (zeq zrt), hL10, K10, trivial⟩
 rintro _ w15 ⟨u, rfl, rfl, hL21, K21, -⟩
 replace h := g10
 try dsimp only at h
 refine zal (zah rfl (zag (zai (v := l_v) rfl ?_)))
 have f12 := (l_h.mono (K21 S))
 refine zag (zbl (v := l_v) zbm rfl f12 ?_)
 refine zag (OpY.leq (x := (l.length : Int)) (y := 10) (((l.length : Int) : Int) ≤ 10) rfl rfl zbe ?_)
 refine zag (zam (v := (zab (decide (((l.length : Int) : Int) ≤ 10)))) rfl ?_)
 refine zap (zbo ?_)
 obtain rfl := zae h
 refine ⟨[(zab (decide (((l.length : Int) : Int) ≤ 10)))], zrt, ⟨_, rfl, hL21.done, ?_⟩⟩
 exact zrt
end Go.Proofs.YtcakdidcpoolcaaGreatDoor.WU

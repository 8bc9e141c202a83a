/- Walks, written by a program of mine (wip/tool); the kernel checks them. -/
import Derived.Test.YtaakoedphmeenaaWRSolvex0
set_option maxRecDepth 100000
set_option maxHeartbeats 40000000
set_option linter.unusedVariables false
set_option linter.unusedSimpArgs false
namespace Go.Proofs.Ytaakoedphmeenaa.WR
open Go Go.RowKit Go.X Go.D Go.Proofs.Ytaakoedphmeenaa.WA
theorem rWord_w (N : Nat) (p : TProb) (vclass : (List Int)) (s : (List UInt8)) (ak : Value) (ae : Value) (ad : Value) (af : Value) (ag : Value) (aa : Value) (w : World) (S : Nat → Prop) (a6 : Rs rI (vH w S [] w) ak p.Min) (aH : Rs rI (vH w S [] w) ae p.Max) (aI : Rs rTTest (vH w S [] w) ad p.Tests) (a7 : Rs rArr2Int (vH w S [] w) af p.Same) (a8 : Rs rArr2Int (vH w S [] w) ag p.Different) (al : Rs rI (vH w S [] w) aa vclass) (r : Bool) (h : rWord N p vclass s = some r) :
  Calls Try.prog 63 #[(zbr #[ak, ae, ad, af, ag]), aa, (zS s)] w (Ret w (fun v w' => (zac r) = v ∧ True)) := by
 unfold rWord at h
 have hL : vL w w [] [] := Go.X.Loc.begin0 w
 refine calls_of (l := [(zbr #[ak, ae, ad, af, ag]), aa, (zS s)]) (rl := [.tmp 6]) (n := 63) Try.func63 rfl rfl rfl (zaj rfl) ?_
 refine zam (zah rfl (zag (zdo (cs := [ak, ae, ad, af, ag]) rfl rfl hL ?_)))
 intro b1 w2 a9 ba
 have K4 := ks w ba
 refine zag (zai (v := zF) rfl (zar (zam (zam (zah rfl (zag (zai (v := (zI 0)) rfl (zar ?_))))))))
 obtain ⟨bb, aJ, aB⟩ := zee h
 refine zbt (fun e w' => ∃  (u : Env), (Sum.inl ()) = bb ∧ e = upds [] u ∧ vL w w' [] [] ∧ Keep w.heap.size [some b1] w2 [] w' ∧ True) ?_ ?_
 ·
  refine zbc ?_
  refine zbx aJ (fun (ss : Int) (e : Env) (w' : World) => match ss with | ah => ∃ (u : Env), e = upds [(1, aa), (2, (zS s)), (3, (zal (some ⟨b1, 0, none⟩))), (7, (zI ah))] u ∧ vL w w' [some b1] [zab [ak, ae, ad, af, ag]] ∧ Keep w.heap.size [some b1] w2 [some b1] w' ∧ True) ⟨_, (zef ⟨rfl, rfl, rfl, rfl, trivial⟩), a9, zbp, trivial⟩ ?_
  rintro ah oo _ aT ⟨u, rfl, am, K10, -⟩ h ao
  rw [rWord_b1] at h
  refine zam (zam (zah rfl (zag (zae (v := (zI ah)) rfl (zag (zae (v := aa) rfl ?_))))))
  have aU := ((al.mono (K4 S)).mono (K10 S))
  refine zag (zcc (v := aa) zan rfl aU (zag (zcf ((ah : Int) < (vclass.length : Int)) rfl rfl zbg (zar (zbi ((ah : Int) < (vclass.length : Int)) rfl (fun ap => ?_) (fun ap => ?_))))))
  ·
   replace h := ite_t ap h
   refine zbm (zam (zbc (zam (zah rfl (zag (zae (v := aa) rfl ?_))))))
   refine zag (zae (v := (zI ah)) rfl ?_)
   obtain ⟨an, aV, bc, aW, -, h⟩ := zix h
   obtain ⟨b10, bd, c10, be, bf, q14, bg, bh⟩ := zcy aU aW
   obtain rfl := bh
   refine zag (zbs (r := rI) (v := aa) (n := aV) (m := (bd + aV * rI.sz)) zan ti3 rfl bf rfl bc aW rfl (zag (zbu (v := (zI an)) zay rfl rfl zek bg (zag (zai (v := (zI an)) rfl (zar (zam (zam ?_))))))))
   obtain ⟨bi, h, bj⟩ := zee h
   refine zbt (fun e w' => ∃ (aC : Bool) (u : Env), aC = bi ∧ e = upds [(1, aa), (2, (zS s)), (3, (zal (some ⟨b1, 0, none⟩))), (7, (zI ah)), (8, (zI an)), (37, (zac aC))] u ∧ vL w w' [some b1] [zab [ak, ae, ad, af, ag]] ∧ Keep w.heap.size [some b1] aT [some b1] w' ∧ True) ?_ ?_
   ·
    refine zah rfl (zag (zae (v := (zS s)) rfl (zag (zdc zax rfl (zag (zat (q := 0) zba rfl ti22 rfl rfl rfl (zag (zav (v := ak) zan rfl rfl (am.at 0 rfl rfl) rfl (zag (zae (v := (zI an)) rfl ?_))))))))))
    obtain ⟨aD, aX, bk, aY, -, h⟩ := zix h
    have bl := ((a6.mono (K4 S)).mono (K10 S))
    obtain ⟨b11, bm, c11, bn, bo, q20, bp, bq⟩ := zcy bl aY
    obtain rfl := bq
    refine zag (zbs (r := rI) (v := ak) (n := aX) (m := (bm + aX * rI.sz)) zan ti3 rfl bo rfl bk aY rfl (zag (zbu (v := (zI aD)) zay rfl rfl zek bp (zag (zcf (((s.length : Int) : Int) < aD) rfl rfl zbg (zag (zae (v := (zac (decide (((s.length : Int) : Int) < aD)))) rfl ?_)))))))
    by_cases ab : ((s.length : Int) : Int) < aD
    ·
     replace h := ite_t ab h
     refine zbj rfl rfl (zed ab) (zbj rfl rfl (zed ab) (zbj rfl rfl (zed ab) (zbj rfl rfl (zed ab) (zbj rfl rfl (zed ab) (zbj rfl rfl (zed ab) (zbj rfl rfl (zed ab) (zbj rfl rfl (zed ab) (zag (zbo (v := zT) rfl (zed ab) rfl (zar ?_))))))))))
     obtain rfl := zad h
     refine zap ?_
     exact ⟨true, _, rfl, (zef ⟨rfl, rfl, rfl, rfl, rfl, rfl, trivial⟩), am, zbp, trivial⟩
    replace h := ite_f ab h
    refine zbb rfl rfl (zec ab) (zae (v := (zS s)) rfl (zbb rfl rfl (zec ab) (zdc zax rfl (zbb rfl rfl (zec ab) (zat (q := 1) zba rfl ti22 rfl rfl rfl (zbb rfl rfl (zec ab) (zav (v := ae) zan rfl rfl (am.at 0 rfl rfl) rfl (zbb rfl rfl (zec ab) (zae (v := (zI an)) rfl ?_)))))))))
    obtain ⟨aE, aZ, br, a0, -, h⟩ := zix h
    have bu := ((aH.mono (K4 S)).mono (K10 S))
    obtain ⟨b12, bw, c12, bx, bz, q26, bA, bB⟩ := zcy bu a0
    obtain rfl := bB
    refine zbb rfl rfl (zec ab) (zbs (r := rI) (v := ae) (n := aZ) (m := (bw + aZ * rI.sz)) zan ti3 rfl bz rfl br a0 rfl (zbb rfl rfl (zec ab) (zbu (v := (zI aE)) zay rfl rfl zek bA (zbb rfl rfl (zec ab) (OpY.gtr (((s.length : Int) : Int) > aE) rfl rfl zbg (zag (zbk (v := (zac (decide (((s.length : Int) : Int) > aE)))) rfl (zec ab) rfl (zar ?_))))))))
    obtain rfl := zad h
    refine zap ?_
    exact ⟨(decide (((s.length : Int) : Int) > aE)), _, rfl, (zef ⟨rfl, rfl, rfl, rfl, rfl, rfl, trivial⟩), am, zbp, trivial⟩
   rintro _ a1 ⟨aC, u, rfl, rfl, av, K11, -⟩
   replace h := bj
   try dsimp only at h
   refine zci aC rfl (fun aq => ?_) (fun aq => ?_)
   ·
    replace h := ite_t aq h
    refine zam (zah rfl (zag (zai (v := zF) rfl (zar (zbv ?_)))))
    obtain rfl := zad h
    obtain rfl := ao _ rfl
    replace h := aB
    try dsimp only at h
    obtain rfl := zad h
    refine ⟨[zF], zrt, ⟨_, rfl, av.done, ?_⟩⟩
    exact zrt
   replace h := ite_f aq h
   refine zbm (zam (zah rfl (zag (zai (v := (zI 0)) rfl (zar ?_)))))
   obtain ⟨bC, aK, aL⟩ := zee h
   refine zbt (fun e w' => ∃  (u : Env), (Sum.inl ()) = bC ∧ e = upds [(1, aa), (2, (zS s)), (3, (zal (some ⟨b1, 0, none⟩))), (7, (zI ah))] u ∧ vL w w' [some b1] [zab [ak, ae, ad, af, ag]] ∧ Keep w.heap.size [some b1] a1 [some b1] w' ∧ True) ?_ ?_
   ·
    refine zbc ?_
    refine zbx aK (fun (ss : Int) (e : Env) (w' : World) => match ss with | aj => ∃ (u : Env), e = upds [(1, aa), (2, (zS s)), (3, (zal (some ⟨b1, 0, none⟩))), (7, (zI ah)), (8, (zI an)), (9, (zI aj))] u ∧ vL w w' [some b1] [zab [ak, ae, ad, af, ag]] ∧ Keep w.heap.size [some b1] a1 [some b1] w' ∧ True) ⟨_, (zef ⟨rfl, rfl, rfl, rfl, rfl, rfl, trivial⟩), av, zbp, trivial⟩ ?_
    rintro aj oo _ bD ⟨u, rfl, ai, K12, -⟩ h aw
    rw [rWord_b2] at h
    refine zam (zam (zah rfl (zag (zae (v := (zI aj)) rfl (zag (zat (q := 2) zba rfl ti23 rfl rfl rfl (zag (zav (v := ad) zbh rfl rfl (ai.at 0 rfl rfl) rfl ?_))))))))
    have aM := ((((aI.mono (K4 S)).mono (K10 S)).mono (K11 S)).mono (K12 S))
    refine zag (zcc (v := ad) zbh rfl aM (zag (zcf ((aj : Int) < (p.Tests.length : Int)) rfl rfl zbg (zar (zbi ((aj : Int) < (p.Tests.length : Int)) rfl (fun ar => ?_) (fun ar => ?_))))))
    ·
     replace h := ite_t ar h
     refine zbm (zam (zbc (zam ?_)))
     obtain ⟨bE, h, bF⟩ := zee h
     refine zbt (fun e w' => ∃ (aF : Bool) (u : Env), aF = bE ∧ e = upds [(1, aa), (2, (zS s)), (3, (zal (some ⟨b1, 0, none⟩))), (7, (zI ah)), (8, (zI an)), (9, (zI aj)), (62, (zac aF))] u ∧ vL w w' [some b1] [zab [ak, ae, ad, af, ag]] ∧ Keep w.heap.size [some b1] bD [some b1] w' ∧ True) ?_ ?_
     ·
      refine zah rfl (zag (zat (q := 2) zba rfl ti23 rfl rfl rfl (zag (zav (v := ad) zbh rfl rfl (ai.at 0 rfl rfl) rfl (zag (zae (v := (zI aj)) rfl ?_))))))
      obtain ⟨ax, aN, bG, a2, -, h⟩ := zix h
      obtain ⟨b13, a3, c13, bH, bI, q32, bJ, bK⟩ := zcy aM a2
      obtain ⟨rfl, -⟩ := rTTest_open bK
      refine zag (zbs (r := rTTest) (v := ad) (n := aN) (m := (a3 + aN * rTTest.sz)) zbh ti44 rfl bI rfl bG a2 rfl ?_)
      have bL := (bJ.part (us := [(zI ax.Var)]) 0 rfl)
      refine zag (zat (q := (a3 + aN * rTTest.sz) + 0) zbd rfl ti3 rfl rfl rfl (zag (zbu (v := (zI ax.Var)) zay rfl rfl zek bL (zag (zae (v := (zI an)) rfl (zag (zdb ((ax.Var : Int) = an) rfl rfl zbg (zag (zae (v := (zac (decide ((ax.Var : Int) = an)))) rfl ?_)))))))))
      by_cases ac : (ax.Var : Int) = an
      ·
       replace h := ite_t ac h
       refine zbb rfl rfl (zed ac) (zat (q := 2) zba rfl ti23 rfl rfl rfl (zbb rfl rfl (zed ac) (zav (v := ad) zbh rfl rfl (ai.at 0 rfl rfl) rfl (zbb rfl rfl (zed ac) (zae (v := (zI aj)) rfl ?_)))))
       obtain ⟨ay, a4, bM, a5, -, h⟩ := zix h
       obtain ⟨b14, bN, c14, bO, bP, q38, bQ, bR⟩ := zcy aM a5
       obtain ⟨rfl, -⟩ := rTTest_open bR
       refine zbb rfl rfl (zed ac) (zbs (r := rTTest) (v := ad) (n := a4) (m := (bN + a4 * rTTest.sz)) zbh ti44 rfl bP rfl bM a5 rfl (zbb rfl rfl (zed ac) (OpY.ldRoA (vs := [(zI ay.Var), (zI ay.Kind), (zac ay.Negated), (zS ay.Text)]) zbd rfl ti44 rfl rfl zek bQ (zbb rfl rfl (zed ac) (zae (v := (zS s)) rfl ?_)))))
       obtain ⟨aG, bS, h⟩ := zee h
       refine zbb rfl rfl (zed ac) (zce en30 rfl rfl (qPasses_w N ay s _ Any aG bS) ?_)
       rintro _ w13 aO ⟨rfl, -⟩
       obtain ⟨aP, K13⟩ := zl ai aO
       refine zbb rfl rfl (zed ac) (OpY.not (x := aG) rfl (zag (zbo (v := (zac (!aG))) rfl (zed ac) rfl (zar ?_))))
       obtain rfl := zad h
       refine zap ?_
       exact ⟨(!aG), _, rfl, (zef ⟨rfl, rfl, rfl, rfl, rfl, rfl, rfl, trivial⟩), aP, K13, trivial⟩
      replace h := ite_f ac h
      refine zbj rfl rfl (zec ac) (zbj rfl rfl (zec ac) (zbj rfl rfl (zec ac) (zbj rfl rfl (zec ac) (zbj rfl rfl (zec ac) (zbj rfl rfl (zec ac) (zbj rfl rfl (zec ac) (zbj rfl rfl (zec ac) (zag (zbk (v := zF) rfl (zec ac) rfl (zar ?_))))))))))
      obtain rfl := zad h
      refine zap ?_
      exact ⟨false, _, rfl, (zef ⟨rfl, rfl, rfl, rfl, rfl, rfl, rfl, trivial⟩), ai, zbp, trivial⟩
     rintro _ w14 ⟨aF, u, rfl, rfl, az, K14, -⟩
     replace h := bF
     try dsimp only at h
     refine zci aF rfl (fun au => ?_) (fun au => ?_)
     ·
      replace h := ite_t au h
      refine zam (zah rfl (zag (zai (v := zF) rfl (zar (zbv ?_)))))
      obtain rfl := zad h
      obtain rfl := aw _ rfl
      replace h := aL
      try dsimp only at h
      obtain rfl := zad h
      obtain rfl := ao _ rfl
      replace h := aB
      try dsimp only at h
      obtain rfl := zad h
      refine ⟨[zF], zrt, ⟨_, rfl, az.done, ?_⟩⟩
      exact zrt
     replace h := ite_f au h
     refine zbm (zbe (zah rfl (zag (zae (v := (zI aj)) rfl ?_))))
     refine zag (zca (z := (iw (aj + 1))) rfl rfl rfl (zag (zai (v := (zI (iw (aj + 1)))) rfl (zar ?_))))
     obtain rfl := zad h
     refine zap ⟨(iw (aj + 1)), rfl, ?_⟩
     exact ⟨_, (zef ⟨rfl, rfl, rfl, rfl, rfl, rfl, trivial⟩), az, (zak K12 K14), trivial⟩
    replace h := ite_f ar h
    refine zcd rfl ?_
    obtain rfl := zad h
    obtain rfl := aw _ rfl
    replace h := aL
    try dsimp only at h
    refine zap ?_
    exact ⟨_, rfl, (zef ⟨rfl, rfl, rfl, rfl, trivial⟩), ai, K12, trivial⟩
   rintro _ w15 ⟨u, rfl, rfl, aQ, K15, -⟩
   replace h := aL
   try dsimp only at h
   refine zbe (zah rfl (zag (zae (v := (zI ah)) rfl ?_)))
   refine zag (zca (z := (iw (ah + 1))) rfl rfl rfl (zag (zai (v := (zI (iw (ah + 1)))) rfl (zar ?_))))
   obtain rfl := zad h
   refine zap ⟨(iw (ah + 1)), rfl, ?_⟩
   exact ⟨_, (zef ⟨rfl, rfl, rfl, rfl, trivial⟩), aQ, (zak (zak K10 K11) K15), trivial⟩
  replace h := ite_f ap h
  refine zcd rfl ?_
  have aA := am.pick [] rfl rfl rfl
  have aR : vL w aT [] [] := aA.1
  have K16 := ks w aA.2
  obtain rfl := zad h
  obtain rfl := ao _ rfl
  replace h := aB
  try dsimp only at h
  refine zap ?_
  exact ⟨_, rfl, (zef trivial), aR, (zak K10 K16), trivial⟩
 rintro _ w16 ⟨u, rfl, rfl, aS, K17, -⟩
 replace h := aB
 try dsimp only at h
 refine zam (zah rfl (zag (zai (v := zT) rfl (zar (zbv ?_)))))
 obtain rfl := zad h
 refine ⟨[zT], zrt, ⟨_, rfl, aS.done, ?_⟩⟩
 exact zrt
theorem rWords_w (N : Nat) (p : TProb) (vclass : (List Int)) (most : Int) (aT : Value) (aj : Value) (ak : Value) (al : Value) (am : Value) (ae : Value) (w : World) (S : Nat → Prop) (eW : Rs rI (vH w S [] w) aT p.Min) (di : Rs rI (vH w S [] w) aj p.Max) (dj : Rs rTTest (vH w S [] w) ak p.Tests) (dk : Rs rArr2Int (vH w S [] w) al p.Same) (dl : Rs rArr2Int (vH w S [] w) am p.Different) (bo : Rs rI (vH w S [] w) ae vclass) (r : ((List (List UInt8)) × (List Int))) (h : rWords N p vclass most = some r) :
  Calls Try.prog 37 #[(zbr #[aT, aj, ak, al, am]), ae, (zI most)] w (Ret w (fun v w' => ∃ (ci : Value) (cj : Value), .tuple #[ci, cj] = v ∧ Rs rStr (vH w None [] w') ci r.1 ∧ Rs rI (vH w None [] w') cj r.2 ∧ True)) := by
 unfold rWords at h
 have hL : vL w w [] [] := Go.X.Loc.begin0 w
 refine calls_of (l := [(zbr #[aT, aj, ak, al, am]), ae, (zI most)]) (rl := [.tmp 6, .tmp 7]) (n := 76) Try.func37 rfl rfl rfl (zaj rfl) ?_
 refine zam (zah rfl (zag (zdo (cs := [aT, aj, ak, al, am]) rfl rfl hL ?_)))
 intro b1 w2 eX eY
 have K4 := ks w eY
 refine zag (zai (v := zN) rfl (zag (zai (v := zN) rfl (zar (zam (zah rfl (zag (zdr zaz ti9 eX ?_))))))))
 intro b6 eZ dm dn
 have dp : Els rStr (vH w None [some b1] w2) [] [] := zcn
 have K10 := ks w dn
 refine zag (zdr zan ti3 dm ?_)
 intro ch e2 dq dr
 have ds : Els rI (vH w None [some b6, some b1] eZ) [] [] := zcn
 have K11 := ks w dr
 refine zag (zai (v := (osv (some b6) 0 (List.length ([] : (List (List UInt8)))) 0)) rfl (zag (zai (v := (osv (some ch) 0 (List.length ([] : (List Int))) 0)) rfl (zar (zam (zah rfl ?_))))))
 have ck : Els rStr (vH w None [some ch, some b6, some b1] e2) [(zS ([] : List UInt8))] [([] : List UInt8)] := (zcq (a := [(zS ([] : List UInt8))]) rfl zcn)
 refine zag (zco (r := rStr) (vs := [(zS ([] : List UInt8))]) (css := [[(zS ([] : List UInt8))]]) (xs := [([] : List UInt8)]) zaz ti9 (zaj rfl) rfl rfl ⟨rfl, rfl, trivial⟩ (zaj rfl) ck rfl dq ?_)
 intro cp dt du dv dw
 have K12 := ks w dw
 refine zag (zai (v := (osv (some cp) 0 1 1)) rfl (zar (zam (zam (zah rfl (zag (zai (v := (zI 0)) rfl (zar ?_))))))))
 obtain ⟨e3, dx, eE⟩ := zee h
 refine zbt (fun e w' => ∃ (aI : (List (List UInt8))) (af : (List Int)) (aS : Option Nat) (aL : Nat) (bJ : List Value) (bw : List Value) (bK : Nat) (aM : Option Nat) (aN : Nat) (bx : List Value) (bp : List Value) (bL : Nat) (u : Env), (aI, af) = e3 ∧ e = upds [(8, (osv aS 0 bK aL)), (9, (osv aM 0 bL aN))] u ∧ vL w w' [aS, aM] [zab ([] ++ (bw ++ bJ)), zab ([] ++ (bp ++ bx))] ∧ Keep w.heap.size [some cp, some ch, some b6, some b1] dt [aS, aM] w' ∧ Els rStr (vH w None [aS, aM] w') bw aI ∧ bK = List.length aI ∧ (bw ++ bJ).length = aL * rStr.sz ∧ Els rI (vH w None [aS, aM] w') bp af ∧ bL = List.length af ∧ (bp ++ bx).length = aN * rI.sz ∧ True) ?_ ?_
 ·
  refine zbc ?_
  have cq := dv.pick [3, 2, 1, 0] rfl rfl rfl
  have dy : vL w dt [some b1, some b6, some ch, some cp] [zab [aT, aj, ak, al, am], zab ([] ++ ([] ++ [])), zab ([] ++ ([] ++ [])), zab ([] ++ ([(zS ([] : List UInt8))] ++ []))] := cq.1
  have K13 := ks w cq.2
  have e4 := ((((dp.mono (K10 None)).mono (K11 None)).mono (K12 None)).mono (K13 None))
  have e5 := (((ds.mono (K11 None)).mono (K12 None)).mono (K13 None))
  have e6 := ((ck.mono (K12 None)).mono (K13 None))
  refine zbx dx (fun (ss : ((List (List UInt8)) × (List Int) × (List (List UInt8)) × Int)) (e : Env) (w' : World) => match ss with | (aU, aa, ac, ax) => ∃ (aC : Option Nat) (a1 : Nat) (a9 : List Value) (a2 : List Value) (bM : Nat) (ab : Option Nat) (an : Nat) (av : List Value) (ar : List Value) (bN : Nat) (ad : Option Nat) (aq : Nat) (aD : List Value) (aK : List Value) (bO : Nat) (u : Env), e = upds [(1, ae), (2, (zI most)), (3, (zal (some ⟨b1, 0, none⟩))), (8, (osv aC 0 bM a1)), (9, (osv ab 0 bN an)), (10, (osv ad 0 bO aq)), (11, (zI ax))] u ∧ vL w w' [some b1, aC, ab, ad] [zab [aT, aj, ak, al, am], zab ([] ++ (a2 ++ a9)), zab ([] ++ (ar ++ av)), zab ([] ++ (aK ++ aD))] ∧ Keep w.heap.size [some cp, some ch, some b6, some b1] dt [some b1, aC, ab, ad] w' ∧ Els rStr (vH w None [some b1, aC, ab, ad] w') a2 aU ∧ bM = List.length aU ∧ (a2 ++ a9).length = a1 * rStr.sz ∧ Els rI (vH w None [some b1, aC, ab, ad] w') ar aa ∧ bN = List.length aa ∧ (ar ++ av).length = an * rI.sz ∧ Els rStr (vH w None [some b1, aC, ab, ad] w') aK ac ∧ bO = List.length ac ∧ (aK ++ aD).length = aq * rStr.sz ∧ True) ⟨some b6, 0, [], [], (List.length ([] : (List (List UInt8)))), some ch, 0, [], [], (List.length ([] : (List Int))), some cp, 1, [], [(zS ([] : List UInt8))], 1, _, (zef ⟨rfl, rfl, rfl, rfl, rfl, rfl, rfl, trivial⟩), dy, K13, e4, rfl, (show ([] ++ [] : List Value).length = 0 * rStr.sz by simp), e5, rfl, (show ([] ++ [] : List Value).length = 0 * rI.sz by simp), e6, rfl, du, trivial⟩ ?_
  rintro ⟨aU, aa, ac, ax⟩ oo _ eF ⟨aC, a1, a9, a2, bM, ab, an, av, ar, bN, ad, aq, aD, aK, bO, u, rfl, cr, K14, ct, rfl, cu, bP, rfl, bQ, dz, rfl, e7, -⟩ h dA
  rw [rWords_b1] at h
  refine zam (zam (zah rfl (zag (zae (v := (zI ax)) rfl (zag (zeb ((ax : Int) ≤ 2) rfl rfl zbg (zar (zbi ((ax : Int) ≤ 2) rfl (fun bR => ?_) (fun bR => ?_)))))))))
  ·
   replace h := ite_t bR h
   refine zbm (zam (zbc (zam (zah rfl (zag (zdr zaz ti9 cr ?_))))))
   intro cv dB dC dD
   have dE : Els rStr (vH w None [some b1, aC, ab, ad] eF) [] [] := zcn
   have K15 := ks w dD
   refine zag (zai (v := (osv (some cv) 0 (List.length ([] : (List (List UInt8)))) 0)) rfl (zag (zai (v := zF) rfl (zar (zam (zam (zah rfl (zag (zai (v := (zI 0)) rfl (zar ?_))))))))))
   obtain ⟨e8, dF, eG⟩ := zee h
   refine zbt (fun e w' => ∃ (aJ : (List (List UInt8))) (ah : (List (List UInt8))) (aO : Bool) (aP : Option Nat) (a3 : Nat) (bf : List Value) (ba : List Value) (bS : Nat) (ay : Option Nat) (aE : Nat) (bg : List Value) (bb : List Value) (bT : Nat) (u : Env), (aJ, ah, aO) = e8 ∧ e = upds [(1, ae), (2, (zI most)), (3, (zal (some ⟨b1, 0, none⟩))), (8, (osv aP 0 bS a3)), (9, (zO ab aa an)), (11, (zI ax)), (12, (osv ay 0 bT aE)), (13, (zac aO))] u ∧ vL w w' [some b1, aP, ab, ay] [zab [aT, aj, ak, al, am], zab ([] ++ (ba ++ bf)), zab ([] ++ (ar ++ av)), zab ([] ++ (bb ++ bg))] ∧ Keep w.heap.size [some cv, some b1, aC, ab, ad] dB [some b1, aP, ab, ay] w' ∧ Els rStr (vH w None [some b1, aP, ab, ay] w') ba aJ ∧ bS = List.length aJ ∧ (ba ++ bf).length = a3 * rStr.sz ∧ Els rStr (vH w None [some b1, aP, ab, ay] w') bb ah ∧ bT = List.length ah ∧ (bb ++ bg).length = aE * rStr.sz ∧ True) ?_ ?_
   ·
    refine zbc ?_
    have cw := dC.pick [1, 2, 3, 4, 0] rfl rfl rfl
    have dG : vL w dB [some b1, aC, ab, ad, some cv] [zab [aT, aj, ak, al, am], zab ([] ++ (a2 ++ a9)), zab ([] ++ (ar ++ av)), zab ([] ++ (aK ++ aD)), zab ([] ++ ([] ++ []))] := cw.1
    have K16 := ks w cw.2
    have e9 := ((ct.mono (K15 None)).mono (K16 None))
    have fa := ((dE.mono (K15 None)).mono (K16 None))
    refine zbx dF (fun (ss : ((List (List UInt8)) × (List (List UInt8)) × Bool × Int)) (e : Env) (w' : World) => match ss with | (ai, az, aW, a8) => ∃ (aA : Option Nat) (aF : Nat) (a4 : List Value) (aX : List Value) (bU : Nat) (ao : Option Nat) (aV : Nat) (a5 : List Value) (aY : List Value) (bV : Nat) (u : Env), e = upds [(1, ae), (2, (zI most)), (3, (zal (some ⟨b1, 0, none⟩))), (8, (osv aA 0 bU aF)), (9, (zO ab aa an)), (10, (zO ad ac aq)), (11, (zI ax)), (12, (osv ao 0 bV aV)), (13, (zac aW)), (14, (zI a8))] u ∧ vL w w' [some b1, aA, ab, ad, ao] [zab [aT, aj, ak, al, am], zab ([] ++ (aX ++ a4)), zab ([] ++ (ar ++ av)), zab ([] ++ (aK ++ aD)), zab ([] ++ (aY ++ a5))] ∧ Keep w.heap.size [some cv, some b1, aC, ab, ad] dB [some b1, aA, ab, ad, ao] w' ∧ Els rStr (vH w None [some b1, aA, ab, ad, ao] w') aX ai ∧ bU = List.length ai ∧ (aX ++ a4).length = aF * rStr.sz ∧ Els rStr (vH w None [some b1, aA, ab, ad, ao] w') aY az ∧ bV = List.length az ∧ (aY ++ a5).length = aV * rStr.sz ∧ True) ⟨aC, a1, a9, a2, aU.length, some cv, 0, [], [], (List.length ([] : (List (List UInt8)))), _, (zef ⟨rfl, rfl, rfl, rfl, rfl, rfl, rfl, rfl, rfl, rfl, trivial⟩), dG, K16, e9, rfl, cu, fa, rfl, (show ([] ++ [] : List Value).length = 0 * rStr.sz by simp), trivial⟩ ?_
    rintro ⟨ai, az, aW, a8⟩ oo _ fb ⟨aA, aF, a4, aX, bU, ao, aV, a5, aY, bV, u, rfl, bz, K17, bW, rfl, bA, cx, rfl, cy, -⟩ h dH
    rw [rWords_b2] at h
    refine zam (zam (zah rfl (zag (zae (v := (zI a8)) rfl (zag (zae (v := (zO ad ac aq)) rfl ?_))))))
    have cz := ((dz.mono (K15 None)).mono (K17 None))
    refine zag (zcl (pre := []) (r := rStr) (xs := ac) zaz rfl (bz.at 3 rfl rfl) cz rfl rfl (zag (zcf ((a8 : Int) < (ac.length : Int)) rfl rfl zbg (zar (zbi ((a8 : Int) < (ac.length : Int)) rfl (fun bX => ?_) (fun bX => ?_))))))
    ·
     replace h := ite_t bX h
     refine zbm (zam (zbc (zam (zam ?_))))
     obtain ⟨eH, dI, fc, eI, fd, h⟩ := zix h
     obtain ⟨dJ, bB⟩ := bz.row_some 3 rfl rfl (zev (pre := []) cz eI (Nat.lt_of_sub_eq_succ rfl))
     obtain ⟨fe, q14, ff, fg⟩ := zeo (pre := []) (sp := aD) cz eI
     obtain rfl := ff
     refine zcx 6 [] [] (fun W1 => [.det (zbr #[aT, aj, ak, al, am]), .det ae, .det (zO ad ac aq), .det (zI a8), .det (zal (some ⟨dJ, (0 + dI * rStr.sz), none⟩)), .det (zS eH)]) mixed rfl rfl rfl (fun _ => rfl) (fun _ => rfl) ?_ ?_
     ·
      intro W1 _
      exact trivial
     intro fh dK
     obtain ⟨bY, K18⟩ := zl bz dK
     refine zaw (fun _ dL => zaq (zcr (vs := [aT, aj, ak, al, am]) zba rfl ti26 rfl ((bY.ext dL).at 0 rfl rfl) rfl rfl (er rfl))) (zaw (fun _ _ => zaq (zae rfl (er rfl))) (zaw (fun _ _ => zaq (zae rfl (er rfl))) (zaw (fun _ _ => zaq (zae rfl (er rfl))) (zaw (fun _ _ => zaq (zbl (r := rStr) (b := dJ) (o := 0) (n := dI) (m := ac.length) (xs := ac) (q := (0 + dI * rStr.sz)) zaz ti9 (zen bB) rfl rfl fc fd rfl (er rfl))) (zaw (fun _ dM => zaq (zby zax rfl rfl (zer bB ((bY.ext dM).at 3 rfl rfl)) fg (er rfl))) (zdd ?_))))))
     rintro w23 Z26 dN fi ⟨-⟩ fj
     have fk := @zhb fh Z26
     obtain ⟨dO, K19⟩ := zl bY dN
     obtain ⟨eJ, fm, h⟩ := zee h
     have fo := (((((((((eW.mono (K4 S)).mono (K10 S)).mono (K11 S)).mono (K12 S)).mono (K14 S)).mono (K15 S)).mono (K17 S)).mono (K18 S)).mono (K19 S))
     have fp := (((((((((di.mono (K4 S)).mono (K10 S)).mono (K11 S)).mono (K12 S)).mono (K14 S)).mono (K15 S)).mono (K17 S)).mono (K18 S)).mono (K19 S))
     have fq := (((((((((dj.mono (K4 S)).mono (K10 S)).mono (K11 S)).mono (K12 S)).mono (K14 S)).mono (K15 S)).mono (K17 S)).mono (K18 S)).mono (K19 S))
     have fs := (((((((((dk.mono (K4 S)).mono (K10 S)).mono (K11 S)).mono (K12 S)).mono (K14 S)).mono (K15 S)).mono (K17 S)).mono (K18 S)).mono (K19 S))
     have fu := (((((((((dl.mono (K4 S)).mono (K10 S)).mono (K11 S)).mono (K12 S)).mono (K14 S)).mono (K15 S)).mono (K17 S)).mono (K18 S)).mono (K19 S))
     have fv := (((((((((bo.mono (K4 S)).mono (K10 S)).mono (K11 S)).mono (K12 S)).mono (K14 S)).mono (K15 S)).mono (K17 S)).mono (K18 S)).mono (K19 S))
     refine zag (zce en63 rfl rfl (rWord_w N p vclass eH aT aj ak al am ae _ Any (fo.mono vw_any) (fp.mono vw_any) (fq.mono vw_any) (fs.mono vw_any) (fu.mono vw_any) (fv.mono vw_any) eJ fm) ?_)
     rintro _ eK dP ⟨rfl, -⟩
     obtain ⟨bq, K20⟩ := zl dO dP
     refine zar ?_
     obtain ⟨fw, h, fx⟩ := zee h
     refine zbt (fun e w' => ∃ (aG : (List (List UInt8))) (aB : Bool) (ag : Option Nat) (aQ : Nat) (a6 : List Value) (aZ : List Value) (bZ : Nat) (u : Env), (aG, aB) = fw ∧ e = upds [(1, ae), (2, (zI most)), (3, (zal (some ⟨b1, 0, none⟩))), (8, (osv ag 0 bZ aQ)), (9, (zO ab aa an)), (10, (zO ad ac aq)), (11, (zI ax)), (12, (zO ao az aV)), (13, (zac aB)), (14, (zI a8))] u ∧ vL w w' [some b1, ag, ab, ad, ao] [zab [aT, aj, ak, al, am], zab ([] ++ (aZ ++ a6)), zab ([] ++ (ar ++ av)), zab ([] ++ (aK ++ aD)), zab ([] ++ (aY ++ a5))] ∧ Keep w.heap.size [some b1, aA, ab, ad, ao] eK [some b1, ag, ab, ad, ao] w' ∧ Els rStr (vH w None [some b1, ag, ab, ad, ao] w') aZ aG ∧ bZ = List.length aG ∧ (aZ ++ a6).length = aQ * rStr.sz ∧ True) ?_ ?_
     ·
      refine zci eJ rfl (fun b0 => ?_) (fun b0 => ?_)
      ·
       replace h := ite_t b0 h
       refine zam (zah rfl (zag (zai (v := zT) rfl (zar (zam (zah rfl (zag (zae (v := (zO aA ai aF)) rfl ?_))))))))
       have dQ := (((bW.mono (K18 None)).mono (K19 None)).mono (K20 None))
       refine zag (zcl (pre := []) (r := rStr) (xs := ai) zaz rfl (bq.at 1 rfl rfl) dQ rfl rfl (zag (zae (v := (zI most)) rfl (zag (zcf (((ai.length : Int) : Int) < most) rfl rfl zbg (zar (zbi (((ai.length : Int) : Int) < most) rfl (fun b2 => ?_) (fun b2 => ?_))))))))
       ·
        replace h := ite_t b2 h
        refine zah rfl (zag (zae (v := (zO aA ai aF)) rfl (zag (zae (v := (zO ad ac aq)) rfl (zag (zae (v := (zI a8)) rfl ?_))))))
        obtain ⟨bF, eL, fy, fz, fA, h⟩ := zix h
        refine zag (zbl (r := rStr) (b := dJ) (o := 0) (n := eL) (m := ac.length) (xs := ac) (q := (0 + eL * rStr.sz)) zaz ti9 (zen bB) rfl rfl fy fA rfl ?_)
        have fB := (((cz.mono (K18 None)).mono (K19 None)).mono (K20 None))
        obtain ⟨fC, q22, fD, fE⟩ := zeo (pre := []) (sp := aD) fB fz
        obtain rfl := fD
        refine zag (zby (v := (zS bF)) zax rfl rfl (zer bB (bq.at 3 rfl rfl)) fE ?_)
        have cA : Els rStr (vH w None [some b1, aA, ab, ad, ao] eK) [(zS bF)] [bF] := (zcq (a := [(zS bF)]) rfl zcn)
        refine zag (zco (r := rStr) (vs := [(zS bF)]) (css := [[(zS bF)]]) (xs := [bF]) zaz ti9 (zaj rfl) rfl rfl ⟨rfl, rfl, trivial⟩ (zaj rfl) cA rfl bq ?_)
        intro fF fG fH cB dR
        have K21 := ks w dR
        obtain ⟨da, fI, h⟩ := zee h
        obtain ⟨fJ, fK, fL⟩ := zep fI
        have eM := (cA.mono (K21 None))
        have fM := (dQ.mono (K21 None))
        refine zag (zcz (r := rStr) (H := (vH w None [some fF, some b1, aA, ab, ad, ao] fG)) (cs := aX) (sp := a4) (xs := ai) (ys := [bF]) (Y := da) (n := ai.length) (cap := aF) (i := 2) zaz ti9 rfl rfl rfl rfl cB rfl rfl fM rfl bA (zdu (pre := []) (o := 0) (n := 1) (cap := 1) (cB.at 0 rfl rfl) eM rfl rfl rfl) (zcj (fun _ _ _ _ h => h) eM) fJ fK fL ?_)
        intro b3 bG cC cD fN dS dT dU dV
        have K22 := ks w dV
        refine zag (zai (v := (zO b3 da bG)) rfl (zar ?_))
        have cE := dU.pick [1, 2, 3, 4, 5] rfl rfl rfl
        have dW : vL w fN [some b1, b3, ab, ad, ao] [zab [aT, aj, ak, al, am], zab ([] ++ (cD ++ cC)), zab ([] ++ (ar ++ av)), zab ([] ++ (aK ++ aD)), zab ([] ++ (aY ++ a5))] := cE.1
        have K23 := ks w cE.2
        have fO := ((dS.mono (K22 None)).mono (K23 None))
        obtain rfl := zad h
        refine zap ?_
        exact ⟨da, true, b3, bG, cC, cD, da.length, _, rfl, (zef ⟨rfl, rfl, rfl, rfl, rfl, rfl, rfl, rfl, rfl, rfl, trivial⟩), dW, (zak (zak K21 K22) K23), fO, rfl, dT, trivial⟩
       replace h := ite_f b2 h
       refine zbm ?_
       obtain rfl := zad h
       refine zap ?_
       exact ⟨ai, true, aA, aF, a4, aX, ai.length, _, rfl, (zef ⟨rfl, rfl, rfl, rfl, rfl, rfl, rfl, rfl, rfl, rfl, trivial⟩), bq, zbp, dQ, rfl, bA, trivial⟩
      replace h := ite_f b0 h
      refine zbm ?_
      have fP := (((bW.mono (K18 None)).mono (K19 None)).mono (K20 None))
      obtain rfl := zad h
      refine zap ?_
      exact ⟨ai, aW, aA, aF, a4, aX, ai.length, _, rfl, (zef ⟨rfl, rfl, rfl, rfl, rfl, rfl, rfl, rfl, rfl, rfl, trivial⟩), bq, zbp, fP, rfl, bA, trivial⟩
     rintro _ eN ⟨aG, aB, ag, aQ, a6, aZ, bZ, u, rfl, rfl, dX, K24, dY, rfl, dZ, -⟩
     replace h := fx
     try dsimp only at h
     refine zam (zah rfl (zag (zai (v := (zI 32)) rfl (zar ?_))))
     obtain ⟨fQ, d0, eO⟩ := zee h
     refine zbt (fun e w' => ∃ (aH : (List (List UInt8))) (bh : Option Nat) (be : Nat) (bC : List Value) (br : List Value) (b4 : Nat) (u : Env), aH = fQ ∧ e = upds [(1, ae), (2, (zI most)), (3, (zal (some ⟨b1, 0, none⟩))), (8, (zO ag aG aQ)), (9, (zO ab aa an)), (10, (zO ad ac aq)), (11, (zI ax)), (12, (osv bh 0 b4 be)), (13, (zac aB)), (14, (zI a8))] u ∧ vL w w' [some b1, ag, ab, ad, bh] [zab [aT, aj, ak, al, am], zab ([] ++ (aZ ++ a6)), zab ([] ++ (ar ++ av)), zab ([] ++ (aK ++ aD)), zab ([] ++ (br ++ bC))] ∧ Keep w.heap.size [some b1, ag, ab, ad, ao] eN [some b1, ag, ab, ad, bh] w' ∧ Els rStr (vH w None [some b1, ag, ab, ad, bh] w') br aH ∧ b4 = List.length aH ∧ (br ++ bC).length = be * rStr.sz ∧ True) ?_ ?_
     ·
      refine zbc ?_
      have fR := ((((cx.mono (K18 None)).mono (K19 None)).mono (K20 None)).mono (K24 None))
      refine zbx d0 (fun (ss : ((List (List UInt8)) × Int)) (e : Env) (w' : World) => match ss with | (ap, au) => ∃ (aw : Option Nat) (aR : Nat) (bi : List Value) (bc : List Value) (b5 : Nat) (u : Env), e = upds [(1, ae), (2, (zI most)), (3, (zal (some ⟨b1, 0, none⟩))), (8, (zO ag aG aQ)), (9, (zO ab aa an)), (10, (zO ad ac aq)), (11, (zI ax)), (12, (osv aw 0 b5 aR)), (13, (zac aB)), (14, (zI a8)), (15, (zI au))] u ∧ vL w w' [some b1, ag, ab, ad, aw] [zab [aT, aj, ak, al, am], zab ([] ++ (aZ ++ a6)), zab ([] ++ (ar ++ av)), zab ([] ++ (aK ++ aD)), zab ([] ++ (bc ++ bi))] ∧ Keep w.heap.size [some b1, ag, ab, ad, ao] eN [some b1, ag, ab, ad, aw] w' ∧ Els rStr (vH w None [some b1, ag, ab, ad, aw] w') bc ap ∧ b5 = List.length ap ∧ (bc ++ bi).length = aR * rStr.sz ∧ True) ⟨ao, aV, a5, aY, az.length, _, (zef ⟨rfl, rfl, rfl, rfl, rfl, rfl, rfl, rfl, rfl, rfl, rfl, trivial⟩), dX, zbp, fR, rfl, cy, trivial⟩ ?_
      rintro ⟨ap, au⟩ oo _ fS ⟨aw, aR, bi, bc, b5, u, rfl, cF, K25, cG, rfl, cH, -⟩ h d1
      rw [rWords_b3] at h
      refine zam (zam ?_)
      obtain ⟨fT, h, fU⟩ := zee h
      refine zbt (fun e w' => ∃ (db : Bool) (u : Env), db = fT ∧ e = upds [(1, ae), (2, (zI most)), (3, (zal (some ⟨b1, 0, none⟩))), (8, (zO ag aG aQ)), (9, (zO ab aa an)), (10, (zO ad ac aq)), (11, (zI ax)), (12, (zO aw ap aR)), (13, (zac aB)), (14, (zI a8)), (15, (zI au)), (53, (zac db))] u ∧ vL w w' [some b1, ag, ab, ad, aw] [zab [aT, aj, ak, al, am], zab ([] ++ (aZ ++ a6)), zab ([] ++ (ar ++ av)), zab ([] ++ (aK ++ aD)), zab ([] ++ (bc ++ bi))] ∧ Keep w.heap.size [some b1, ag, ab, ad, aw] fS [some b1, ag, ab, ad, aw] w' ∧ True) ?_ ?_
      ·
       refine zah rfl (zag (zae (v := (zI au)) rfl (zag (zeb ((au : Int) ≤ 126) rfl rfl zbg (zag (zae (v := (zac (decide ((au : Int) ≤ 126)))) rfl ?_))))))
       by_cases a7 : (au : Int) ≤ 126
       ·
        replace h := ite_t a7 h
        refine zbb rfl rfl (zed a7) (zae (v := (zI ax)) rfl (zbb rfl rfl (zed a7) (zcf ((ax : Int) < 2) rfl rfl zbg (zag (zbo (v := (zac (decide ((ax : Int) < 2)))) rfl (zed a7) rfl (zar ?_))))))
        obtain rfl := zad h
        refine zap ?_
        exact ⟨(decide ((ax : Int) < 2)), _, rfl, (zef ⟨rfl, rfl, rfl, rfl, rfl, rfl, rfl, rfl, rfl, rfl, rfl, rfl, trivial⟩), cF, zbp, trivial⟩
       replace h := ite_f a7 h
       refine zbj rfl rfl (zec a7) (zbj rfl rfl (zec a7) (zag (zbk (v := zF) rfl (zec a7) rfl (zar ?_))))
       obtain rfl := zad h
       refine zap ?_
       exact ⟨false, _, rfl, (zef ⟨rfl, rfl, rfl, rfl, rfl, rfl, rfl, rfl, rfl, rfl, rfl, rfl, trivial⟩), cF, zbp, trivial⟩
      rintro _ w29 ⟨db, u, rfl, rfl, b7, K26, -⟩
      replace h := fU
      try dsimp only at h
      refine zci db rfl (fun b8 => ?_) (fun b8 => ?_)
      ·
       replace h := ite_t b8 h
       refine zbm (zam (zbc ?_))
       obtain ⟨bj, d2, fV, eP, fW, h⟩ := zix h
       have eQ := ((((((cz.mono (K18 None)).mono (K19 None)).mono (K20 None)).mono (K24 None)).mono (K25 None)).mono (K26 None))
       obtain ⟨eR, cI⟩ := b7.row_some 3 rfl rfl (zev (pre := []) eQ eP (Nat.lt_of_sub_eq_succ rfl))
       obtain ⟨fX, q33, fY, fZ⟩ := zeo (pre := []) (sp := aD) eQ eP
       obtain rfl := fY
       obtain ⟨u10, f0, h⟩ := zee h
       have f1 := chk_some f0
       refine zcx 11 [] [] (fun W1 => [.det (zO aw ap aR), .det (zO ad ac aq), .det (zI a8), .det (zal (some ⟨eR, (0 + d2 * rStr.sz), none⟩)), .det (zS bj), .det (zI au), .det (zaa .u8 (uw8 au)), .rel (fun v Z w' => ∃ bk a0, (osv (some bk) 0 1 1) = v ∧ OwnC w' (some bk) (zab ([] ++ (a0 ++ []))) ∧ Els (rInt .u8) (vZ W1 w None [some b1, ag, ab, ad, aw] Z w') a0 [(uw8 au)] ∧ (a0 ++ [] : List Value).length = 1 * (rInt .u8).sz ∧ True) footV, .det (zaf (s8 (bstr [(uw8 au)]))), .det (zaf (s8 (bj ++ (bstr [(uw8 au)])))), .rel (fun v Z w' => ∃ bn bd, (osv (some bn) 0 1 1) = v ∧ OwnC w' (some bn) (zab ([] ++ (bd ++ []))) ∧ Els rStr (vZ W1 w None [some b1, ag, ab, ad, aw] Z w') bd [(bj ++ (bstr [(uw8 au)]))] ∧ (bd ++ [] : List Value).length = 1 * rStr.sz ∧ True) footV]) mixed rfl rfl rfl (fun _ => rfl) (fun _ => rfl) ?_ ?_
       ·
        intro W1 _
        exact ⟨fun v Z Z' w w' hΦ hz _ _ hs => by obtain ⟨bk, a0, rfl, bu, bl, b9, -⟩ := hΦ; exact ⟨bk, a0, rfl, (bu.stay (fun b hb => by cases hb; exact zbf) hs), (bl.mono (zdz hz hs)), b9, trivial⟩, ⟨fun v Z Z' w w' hΦ hz _ _ hs => by obtain ⟨bn, bd, rfl, ca, bm, cJ, -⟩ := hΦ; exact ⟨bn, bd, rfl, (ca.stay (fun b hb => by cases hb; exact zbf) hs), (bm.mono (zdz hz hs)), cJ, trivial⟩, trivial⟩⟩
       intro dc d3
       obtain ⟨bD, K27⟩ := zl b7 d3
       refine zaw (fun _ _ => zaq (zae rfl (er rfl))) (zaw (fun _ _ => zaq (zae rfl (er rfl))) (zaw (fun _ _ => zaq (zae rfl (er rfl))) (zaw (fun _ _ => zaq (zbl (r := rStr) (b := eR) (o := 0) (n := d2) (m := ac.length) (xs := ac) (q := (0 + d2 * rStr.sz)) zaz ti9 (zen cI) rfl rfl fV fW rfl (er rfl))) (zaw (fun _ d4 => zaq (zby zax rfl rfl (zer cI ((bD.ext d4).at 3 rfl rfl)) fZ (er rfl))) (zaw (fun _ _ => zaq (zae rfl (er rfl))) (zaw (fun _ _ => zaq (zds zay zcw rfl rfl (er rfl))) ?_))))))
       refine zea ?_ ?_
       ·
        rintro d5 Z34 f2 d6 ⟨-⟩
        have cK : Els (rInt .u8) (vZ dc w None [some b1, ag, ab, ad, aw] Z34 d5) [(zaa .u8 (uw8 au))] [(uw8 au)] := (zcq (a := [(zaa .u8 (uw8 au))]) rfl zcn)
        refine zaq (zco (r := (rInt .u8)) (vs := [(zaa .u8 (uw8 au))]) (css := [[(zaa .u8 (uw8 au))]]) (xs := [(uw8 au)]) zcg ti5 (zaj rfl) rfl rfl ⟨rfl, rfl, trivial⟩ (zaj rfl) cK rfl (Go.X.Loc.begin0 d5) ?_)
        intro bk f3 d7 cb f4
        have cL : NewOwn d5 f3 [some bk] [zab ([] ++ ([(zaa .u8 (uw8 au))] ++ []))] := cb.newOwn [0] rfl rfl rfl
        exact Made.ext cb.done d6 cL (fun _ h => h) ⟨bk, [(zaa .u8 (uw8 au))], rfl, cL.2.2.1, (cK.mono (Zv.grow cb.done)), d7, trivial⟩
       intro z7
       refine DrH.det ?_ ?_
       ·
        rintro w40 Z35 f5 f6 ⟨⟨⟨bk, a0, rfl, bu, bl, b9, -⟩, eS⟩, -⟩
        refine zaq (OpY.strRow (pre := []) (cs := a0) (sp := []) (xs := [(uw8 au)]) zcg zax zcw rfl bu bl rfl ?_)
        exact ⟨Ext.refl _, rfl⟩
       refine zaw (fun _ _ => zaq (OpY.sAdd (x := bj) (y := (bstr [(uw8 au)])) rfl rfl f1 (er rfl))) (zea ?_ ?_)
       ·
        rintro d8 Z37 f7 d9 ⟨-, -⟩
        have cM : Els rStr (vZ dc w None [some b1, ag, ab, ad, aw] Z37 d8) [(zaf (s8 (bj ++ (bstr [(uw8 au)]))))] [(bj ++ (bstr [(uw8 au)]))] := (zcq (a := [(zaf (s8 (bj ++ (bstr [(uw8 au)]))))]) rfl zcn)
        refine zaq (zco (r := rStr) (vs := [(zaf (s8 (bj ++ (bstr [(uw8 au)]))))]) (css := [[(zaf (s8 (bj ++ (bstr [(uw8 au)]))))]]) (xs := [(bj ++ (bstr [(uw8 au)]))]) zaz ti9 (zaj rfl) rfl rfl ⟨rfl, rfl, trivial⟩ (zaj rfl) cM rfl (Go.X.Loc.begin0 d8) ?_)
        intro bn f8 ea cc f9
        have cN : NewOwn d8 f8 [some bn] [zab ([] ++ ([(zaf (s8 (bj ++ (bstr [(uw8 au)]))))] ++ []))] := cc.newOwn [0] rfl rfl rfl
        exact Made.ext cc.done d9 cN (fun _ h => h) ⟨bn, [(zaf (s8 (bj ++ (bstr [(uw8 au)]))))], rfl, cN.2.2.1, (cM.mono (Zv.grow cc.done)), ea, trivial⟩
       intro z10
       refine zdd ?_
       rintro eT Z38 eb cO ⟨⟨⟨bn, bd, rfl, ca, bm, cJ, -⟩, ec⟩, ⟨⟨bk, a0, rfl, bu, bl, b9, -⟩, eS⟩, -⟩ ed
       have bE : ∀ b, some b ∈ ([some bn, some bk] : List (Option Nat)) → dc.heap.size ≤ b ∧ ¬ Z38 b := by
        intro b hb
        rcases List.mem_cons.1 hb with hb' | hb
        ·
         have := ec b (by rw [hb']; exact zbf); exact ⟨this.1, this.2.2⟩
        rcases List.mem_cons.1 hb with hb' | hb
        ·
         have := eS b (by rw [hb']; exact zbf); exact ⟨this.1, this.2.2⟩
        cases hb
       replace bm := bm.mono (Zv.fin bD cO bE)
       replace bl := bl.mono (Zv.fin bD cO bE)
       have ee : NewOwn dc eT [some bn, some bk] [zab ([] ++ (bd ++ [])), zab ([] ++ (a0 ++ []))] := (zdx (zdx NewOwn.nil bu (fun b hb => (bE b (by rw [← hb]; simp)).1) (fun b _ hb => by cases hb)) ca (fun b hb => (bE b (by rw [← hb]; simp)).1) (fun b hb hm => (List.mem_cons.1 hm).elim (fun e => apE (ed.1) rfl rfl b ((zel (ob := (some bn)) (o := 0) (n := 1) (cap := 1)).2 hb) ((zel (ob := (some bk)) (o := 0) (n := 1) (cap := 1)).2 (by rw [e]; exact zbf))) (fun hm => by cases hm)))
       have cP := bD.adoptL eb ee
       have cQ := cP.1
       have K28 := ks w cP.2
       obtain ⟨dd, ga, h⟩ := zee h
       obtain ⟨gb, gc, gd⟩ := zep ga
       have gf := (((cG.mono (K26 None)).mono (K27 None)).mono (K28 None))
       refine zag (zcz (r := rStr) (H := (vH w None [some bn, some bk, some b1, ag, ab, ad, aw] eT)) (cs := bc) (sp := bi) (xs := ap) (ys := [(bj ++ (bstr [(uw8 au)]))]) (Y := dd) (n := ap.length) (cap := aR) (i := 6) zaz ti9 rfl rfl rfl rfl cQ rfl rfl gf rfl cH (zdu (pre := []) (o := 0) (n := 1) (cap := 1) (cQ.at 0 rfl rfl) bm rfl rfl rfl) (zcj (fun _ _ _ _ h => h) bm) gb gc gd ?_)
       intro cd bH cR cS gg ef eg eh ei
       have K29 := ks w ei
       refine zag (zai (v := (zO cd dd bH)) rfl (zar (zbe (zah rfl (zag (zae (v := (zI au)) rfl (zag (zca (z := (iw (au + 1))) rfl rfl rfl (zag (zai (v := (zI (iw (au + 1)))) rfl (zar ?_)))))))))))
       have cT := eh.pick [2, 3, 4, 5, 6] rfl rfl rfl
       have ej : vL w gg [some b1, ag, ab, ad, cd] [zab [aT, aj, ak, al, am], zab ([] ++ (aZ ++ a6)), zab ([] ++ (ar ++ av)), zab ([] ++ (aK ++ aD)), zab ([] ++ (cS ++ cR))] := cT.1
       have K30 := ks w cT.2
       have gh := ((ef.mono (K29 None)).mono (K30 None))
       obtain rfl := zad h
       refine zap ⟨(dd, (iw (au + 1))), rfl, ?_⟩
       exact ⟨cd, bH, cR, cS, dd.length, _, (zef ⟨rfl, rfl, rfl, rfl, rfl, rfl, rfl, rfl, rfl, rfl, rfl, trivial⟩), ej, (zak (zak (zak (zak (zak K25 K26) K27) K28) K29) K30), gh, rfl, eg, trivial⟩
      replace h := ite_f b8 h
      refine zcd rfl ?_
      have gi := (cG.mono (K26 None))
      obtain rfl := zad h
      obtain rfl := d1 _ rfl
      replace h := eO
      try dsimp only at h
      refine zap ?_
      exact ⟨ap, aw, aR, bi, bc, ap.length, _, rfl, (zef ⟨rfl, rfl, rfl, rfl, rfl, rfl, rfl, rfl, rfl, rfl, trivial⟩), b7, (zak K25 K26), gi, rfl, cH, trivial⟩
     rintro _ w46 ⟨aH, bh, be, bC, br, b4, u, rfl, rfl, ek, K31, em, rfl, en, -⟩
     replace h := eO
     try dsimp only at h
     refine zbe (zah rfl (zag (zae (v := (zI a8)) rfl ?_)))
     refine zag (zca (z := (iw (a8 + 1))) rfl rfl rfl (zag (zai (v := (zI (iw (a8 + 1)))) rfl (zar ?_))))
     have gj := (dY.mono (K31 None))
     obtain rfl := zad h
     refine zap ⟨(aG, aH, aB, (iw (a8 + 1))), rfl, ?_⟩
     exact ⟨ag, aQ, a6, aZ, aG.length, bh, be, bC, br, aH.length, _, (zef ⟨rfl, rfl, rfl, rfl, rfl, rfl, rfl, rfl, rfl, rfl, trivial⟩), ek, (zak (zak (zak (zak (zak K17 K18) K19) K20) K24) K31), gj, rfl, dZ, em, rfl, en, trivial⟩
    replace h := ite_f bX h
    refine zcd rfl ?_
    have cU := bz.pick [0, 1, 2, 4] rfl rfl rfl
    have eo : vL w fb [some b1, aA, ab, ao] [zab [aT, aj, ak, al, am], zab ([] ++ (aX ++ a4)), zab ([] ++ (ar ++ av)), zab ([] ++ (aY ++ a5))] := cU.1
    have K32 := ks w cU.2
    have gk := (bW.mono (K32 None))
    have gl := (cx.mono (K32 None))
    obtain rfl := zad h
    obtain rfl := dH _ rfl
    replace h := eG
    try dsimp only at h
    refine zap ?_
    exact ⟨ai, az, aW, aA, aF, a4, aX, ai.length, ao, aV, a5, aY, az.length, _, rfl, (zef ⟨rfl, rfl, rfl, rfl, rfl, rfl, rfl, rfl, trivial⟩), eo, (zak K17 K32), gk, rfl, bA, gl, rfl, cy, trivial⟩
   rintro _ gm ⟨aJ, ah, aO, aP, a3, bf, ba, bS, ay, aE, bg, bb, bT, u, rfl, rfl, cV, K33, cW, rfl, cX, cY, rfl, cZ, -⟩
   replace h := eG
   try dsimp only at h
   refine zam (zam (zah rfl (zag (zae (v := (zac aO)) rfl (zar (zci aO rfl (fun ce => ?_) (fun ce => ?_)))))))
   ·
    replace h := ite_t ce h
    refine zah rfl (zag (zae (v := (zO ab aa an)) rfl (zag (zae (v := (zI ax)) rfl ?_))))
    have c0 : Els rI (vH w None [some b1, aP, ab, ay] gm) [(zI ax)] [ax] := (zcq (a := [(zI ax)]) rfl zcn)
    refine zag (zco (r := rI) (vs := [(zI ax)]) (css := [[(zI ax)]]) (xs := [ax]) zan ti3 (zaj rfl) rfl rfl ⟨rfl, rfl, trivial⟩ (zaj rfl) c0 rfl cV ?_)
    intro gn go gp c1 ep
    have K34 := ks w ep
    obtain ⟨dh, gq, h⟩ := zee h
    obtain ⟨gr, gs, gu⟩ := zep gq
    have eU := (c0.mono (K34 None))
    have gv := (((bP.mono (K15 None)).mono (K33 None)).mono (K34 None))
    refine zag (zcz (r := rI) (H := (vH w None [some gn, some b1, aP, ab, ay] go)) (cs := ar) (sp := av) (xs := aa) (ys := [ax]) (Y := dh) (n := aa.length) (cap := an) (i := 3) zan ti3 rfl rfl rfl rfl c1 rfl rfl gv rfl bQ (zdu (pre := []) (o := 0) (n := 1) (cap := 1) (c1.at 0 rfl rfl) eU rfl rfl rfl) (zcj (fun _ _ _ _ h => h) eU) gr gs gu ?_)
    intro cg bI c2 c3 gw es et eu ew
    have K35 := ks w ew
    refine zag (zai (v := (zO cg dh bI)) rfl (zar (zah rfl (zag (zae (v := (zO ay ah aE)) rfl (zag (zai (v := (zO ay ah aE)) rfl (zar (zbe (zah rfl (zag (zae (v := (zI ax)) rfl (zag (zca (z := (iw (ax + 1))) rfl rfl rfl (zag (zai (v := (zI (iw (ax + 1)))) rfl (zar ?_)))))))))))))))))
    have c4 := eu.pick [1, 2, 3, 4] rfl rfl rfl
    have ex : vL w gw [some b1, aP, cg, ay] [zab [aT, aj, ak, al, am], zab ([] ++ (ba ++ bf)), zab ([] ++ (c3 ++ c2)), zab ([] ++ (bb ++ bg))] := c4.1
    have K36 := ks w c4.2
    have gx := (((cW.mono (K34 None)).mono (K35 None)).mono (K36 None))
    have gz := ((es.mono (K35 None)).mono (K36 None))
    have gA := (((cY.mono (K34 None)).mono (K35 None)).mono (K36 None))
    obtain rfl := zad h
    refine zap ⟨(aJ, dh, ah, (iw (ax + 1))), rfl, ?_⟩
    exact ⟨aP, a3, bf, ba, aJ.length, cg, bI, c2, c3, dh.length, ay, aE, bg, bb, ah.length, _, (zef ⟨rfl, rfl, rfl, rfl, rfl, rfl, rfl, trivial⟩), ex, (zak (zak (zak (zak (zak K14 K15) K33) K34) K35) K36), gx, rfl, cX, gz, rfl, et, gA, rfl, cZ, trivial⟩
   replace h := ite_f ce h
   refine zbm (zah rfl (zag (zae (v := (zO ay ah aE)) rfl ?_)))
   refine zag (zai (v := (zO ay ah aE)) rfl (zar (zbe (zah rfl (zag (zae (v := (zI ax)) rfl (zag (zca (z := (iw (ax + 1))) rfl rfl rfl (zag (zai (v := (zI (iw (ax + 1)))) rfl (zar ?_)))))))))))
   have gB := ((bP.mono (K15 None)).mono (K33 None))
   obtain rfl := zad h
   refine zap ⟨(aJ, aa, ah, (iw (ax + 1))), rfl, ?_⟩
   exact ⟨aP, a3, bf, ba, aJ.length, ab, an, av, ar, aa.length, ay, aE, bg, bb, ah.length, _, (zef ⟨rfl, rfl, rfl, rfl, rfl, rfl, rfl, trivial⟩), cV, (zak (zak K14 K15) K33), cW, rfl, cX, gB, rfl, bQ, cY, rfl, cZ, trivial⟩
  replace h := ite_f bR h
  refine zcd rfl ?_
  have c5 := cr.pick [1, 2] rfl rfl rfl
  have ey : vL w eF [aC, ab] [zab ([] ++ (a2 ++ a9)), zab ([] ++ (ar ++ av))] := c5.1
  have K37 := ks w c5.2
  have gC := (ct.mono (K37 None))
  have gE := (bP.mono (K37 None))
  obtain rfl := zad h
  obtain rfl := dA _ rfl
  replace h := eE
  try dsimp only at h
  refine zap ?_
  exact ⟨aU, aa, aC, a1, a9, a2, aU.length, ab, an, av, ar, aa.length, _, rfl, (zef ⟨rfl, rfl, trivial⟩), ey, (zak K14 K37), gC, rfl, cu, gE, rfl, bQ, trivial⟩
 rintro _ eV ⟨aI, af, aS, aL, bJ, bw, bK, aM, aN, bx, bp, bL, u, rfl, rfl, c6, K38, ez, rfl, eA, eB, rfl, eC, -⟩
 replace h := eE
 try dsimp only at h
 refine zam (zah rfl (zag (zae (v := (zO aS aI aL)) rfl (zag (zae (v := (zO aM af aN)) rfl (zag (zai (v := (zO aS aI aL)) rfl (zag (zai (v := (zO aM af aN)) rfl (zar ?_))))))))))
 have gF := c6.freezeRow 0 rfl rfl ez rfl rfl rfl eA
 have c7 := c6.pick [1] rfl rfl rfl
 have c8 : vL w eV [aM] [zab ([] ++ (bp ++ bx))] := c7.1
 have K39 := ks w c7.2
 have gG := (eB.mono (K39 None))
 have gH := c8.freezeRow 0 rfl rfl gG rfl rfl rfl eC
 have c9 := c8.pick [] rfl rfl rfl
 have eD : vL w eV [] [] := c9.1
 have K40 := ks w c9.2
 refine zbv ?_
 obtain rfl := zad h
 refine ⟨[(zO aS aI aL), (zO aM af aN)], ⟨rfl, rfl, trivial⟩, ⟨_, rfl, eD.done, ?_⟩⟩
 have gI := (gF.mono (K40 None))
 exact ⟨(zO aS aI aL), (zO aM af aN), rfl, (gI.mono Hv.out), (gH.mono Hv.out), trivial⟩
theorem rTry_w (N : Nat) : ∀ (p : TProb) (l : (List (List Int))) (choices : (List (List (List UInt8)))) (chosen : (List (List UInt8))) (av : Value) (ac : Value) (af : Value) (ag : Value) (ah : Value) (aq : Value) (ab : Value) (aa : Value) (w : World) (S : Nat → Prop) (bJ : Rs rI (vH w S [] w) av p.Min) (aR : Rs rI (vH w S [] w) ac p.Max) (aS : Rs rTTest (vH w S [] w) af p.Tests) (aT : Rs rArr2Int (vH w S [] w) ag p.Same) (aU : Rs rArr2Int (vH w S [] w) ah p.Different) (bK : Rs (rSl rI) (vH w S [] w) aq l) (al : Rs (rSl rStr) (vH w S [] w) ab choices) (ap : Rs rStr (vH w S [] w) aa chosen) (r : Bool) (h : rTry N p l choices chosen = some r), Calls Try.prog 38 #[(zbr #[av, ac, af, ag, ah]), aq, ab, aa] w (Ret w (fun v w' => (zac r) = v ∧ True)) := by
 induction N with
 | zero => intro p l choices chosen av ac af ag ah aq ab aa w S bJ aR aS aT aU bK al ap r h; cases (show (none : Option Bool) = some r from h)
 | succ N ih =>
  intro p l choices chosen av ac af ag ah aq ab aa w S bJ aR aS aT aU bK al ap r h
  replace h : rTry_step N (rTry N) p l choices chosen = some r := h
  unfold rTry_step at h
  have hL : vL w w [] [] := Go.X.Loc.begin0 w
  refine calls_of (l := [(zbr #[av, ac, af, ag, ah]), aq, ab, aa]) (rl := [.tmp 8]) (n := 78) Try.func38 rfl rfl rfl (zaj rfl) ?_
  refine zam (zah rfl (zag (zdo (cs := [av, ac, af, ag, ah]) rfl rfl hL ?_)))
  intro b1 w2 bL dn
  have K4 := ks w dn
  refine zag (zai (v := zF) rfl (zar (zam (zam (zah rfl (zag (zae (v := aa) rfl ?_)))))))
  have f6 := (ap.mono (K4 S))
  refine zag (zcc (v := aa) zaz rfl f6 (zag (zae (v := aq) rfl ?_)))
  have f7 := (bK.mono (K4 S))
  refine zag (zcc (v := aq) zda rfl f7 (zag (zdb (((chosen.length : Int) : Int) = (l.length : Int)) rfl rfl zbg (zar (zbi (((chosen.length : Int) : Int) = (l.length : Int)) rfl (fun bM => ?_) (fun bM => ?_))))))
  ·
   replace h := ite_t bM h
   refine zam (zah rfl (zag (zat (q := 1) zba rfl ti22 rfl rfl rfl (zag (zav (v := ac) zan rfl rfl (bL.at 0 rfl rfl) rfl ?_)))))
   have f9 := (aR.mono (K4 S))
   refine zag (zcc (v := ac) zan rfl f9 ?_)
   obtain ⟨aA, dp, h⟩ := zee h
   obtain ⟨aD, dq, dr, ds, dt⟩ := mk1_some dp
   refine zag (zdl (r := rStr) (H := (vH w None [some b1] w2)) (zc := [(zaf ⟨#[]⟩)]) (x := []) zaz ti9 rfl rfl rfl rfl dq dr ds dt bL ?_)
   intro an bN bh bO bP bQ bR
   have K10 := ks w bR
   refine zag (zai (v := (zO (some an) aA aD)) rfl (zar (zam (zam (zah rfl (zag (zai (v := (zI 0)) rfl (zar ?_))))))))
   obtain ⟨du, bS, cO⟩ := zee h
   refine zbt (fun e w' => ∃ (ai : (List (List UInt8))) (aV : List Value) (u : Env), ai = du ∧ e = upds [(4, (zal (some ⟨b1, 0, none⟩))), (9, (zO (some an) aA aD))] u ∧ vL w w' [some b1, some an] [zab [av, ac, af, ag, ah], zab ([] ++ (aV ++ []))] ∧ Keep w.heap.size [some an, some b1] bN [some b1, some an] w' ∧ Els rStr (vH w None [some b1, some an] w') aV ai ∧ aA.length = List.length ai ∧ (aV ++ []).length = aD * rStr.sz ∧ True) ?_ ?_
   ·
    refine zbc ?_
    have bi := bQ.pick [1, 0] rfl rfl rfl
    have bT : vL w bN [some b1, some an] [zab [av, ac, af, ag, ah], zab ([] ++ (bh ++ []))] := bi.1
    have K11 := ks w bi.2
    have dv := ((bO.mono (K10 None)).mono (K11 None))
    refine zbx bS (fun (ss : ((List (List UInt8)) × Int)) (e : Env) (w' : World) => match ss with | (ao, aE) => ∃ (aF : List Value) (u : Env), e = upds [(1, aq), (3, aa), (4, (zal (some ⟨b1, 0, none⟩))), (9, (zO (some an) aA aD)), (10, (zI aE))] u ∧ vL w w' [some b1, some an] [zab [av, ac, af, ag, ah], zab ([] ++ (aF ++ []))] ∧ Keep w.heap.size [some an, some b1] bN [some b1, some an] w' ∧ Els rStr (vH w None [some b1, some an] w') aF ao ∧ aA.length = List.length ao ∧ (aF ++ []).length = aD * rStr.sz ∧ True) ⟨bh, _, (zef ⟨rfl, rfl, rfl, rfl, rfl, trivial⟩), bT, K11, dv, rfl, bP, trivial⟩ ?_
    rintro ⟨ao, aE⟩ oo _ cP ⟨aF, u, rfl, bj, K12, bk, bl, bm, -⟩ h bU
    rw [rTry_b1] at h
    refine zam (zam (zah rfl (zag (zae (v := (zI aE)) rfl (zag (zae (v := aq) rfl ?_))))))
    have cQ := ((f7.mono (K10 S)).mono (K12 S))
    refine zag (zcc (v := aq) zda rfl cQ (zag (zcf ((aE : Int) < (l.length : Int)) rfl rfl zbg (zar (zbi ((aE : Int) < (l.length : Int)) rfl (fun a1 => ?_) (fun a1 => ?_))))))
    ·
     replace h := ite_t a1 h
     refine zbm (zam (zbc (zam (zah rfl (zag (zai (v := (zI 0)) rfl (zar ?_)))))))
     obtain ⟨dw, bV, cR⟩ := zee h
     refine zbt (fun e w' => ∃ (aj : (List (List UInt8))) (aH : List Value) (u : Env), aj = dw ∧ e = upds [(1, aq), (3, aa), (4, (zal (some ⟨b1, 0, none⟩))), (9, (zO (some an) aA aD)), (10, (zI aE))] u ∧ vL w w' [some b1, some an] [zab [av, ac, af, ag, ah], zab ([] ++ (aH ++ []))] ∧ Keep w.heap.size [some b1, some an] cP [some b1, some an] w' ∧ Els rStr (vH w None [some b1, some an] w') aH aj ∧ aA.length = List.length aj ∧ (aH ++ []).length = aD * rStr.sz ∧ True) ?_ ?_
     ·
      refine zbc ?_
      refine zbx bV (fun (ss : ((List (List UInt8)) × Int)) (e : Env) (w' : World) => match ss with | (ak, aP) => ∃ (aI : List Value) (u : Env), e = upds [(1, aq), (3, aa), (4, (zal (some ⟨b1, 0, none⟩))), (9, (zO (some an) aA aD)), (10, (zI aE)), (11, (zI aP))] u ∧ vL w w' [some b1, some an] [zab [av, ac, af, ag, ah], zab ([] ++ (aI ++ []))] ∧ Keep w.heap.size [some b1, some an] cP [some b1, some an] w' ∧ Els rStr (vH w None [some b1, some an] w') aI ak ∧ aA.length = List.length ak ∧ (aI ++ []).length = aD * rStr.sz ∧ True) ⟨aF, _, (zef ⟨rfl, rfl, rfl, rfl, rfl, rfl, trivial⟩), bj, zbp, bk, bl, bm, trivial⟩ ?_
      rintro ⟨ak, aP⟩ oo _ w12 ⟨aI, u, rfl, bn, K13, bo, a2, bp, -⟩ h bW
      rw [rTry_b2] at h
      refine zam (zam (zah rfl (zag (zae (v := (zI aP)) rfl (zag (zae (v := aq) rfl (zag (zae (v := (zI aE)) rfl ?_))))))))
      obtain ⟨cS, cT, dx, cU, -, h⟩ := zix h
      have cV := (cQ.mono (K13 S))
      obtain ⟨b11, dy, c10, dz, dA, q19, dB, dC⟩ := zcy cV cU
      obtain ⟨cW, rfl, dD⟩ := dC
      refine zag (zbs (r := (rSl rI)) (v := aq) (n := cT) (m := (dy + cT * (rSl rI).sz)) zda ti22 rfl dA rfl dx cU rfl (zag (zbu (v := cW) zan rfl rfl zek dB (zag (zcc (v := cW) zan rfl dD (zag (zcf ((aP : Int) < (cS.length : Int)) rfl rfl zbg (zar (zbi ((aP : Int) < (cS.length : Int)) rfl (fun a3 => ?_) (fun a3 => ?_))))))))))
      ·
       replace h := ite_t a3 h
       refine zbm (zam (zbc ?_))
       obtain ⟨x12, bX, dE, cX, -, h⟩ := zix h
       obtain ⟨dF, cY, c11, dG, dH, q25, dI, dJ⟩ := zcy cV cX
       obtain ⟨cZ, rfl, dK⟩ := dJ
       obtain ⟨dL, bY, dM, c0, -, h⟩ := zix h
       obtain ⟨dN, c1, c12, dO, dP, q31, dQ, dR⟩ := zcy dK c0
       obtain rfl := dR
       obtain ⟨bZ, b0, dS, c2, -, h⟩ := zix h
       have dT := (((f6.mono (K10 S)).mono (K12 S)).mono (K13 S))
       obtain ⟨dU, c3, c13, dV, dW, q37, dX, dY⟩ := zcy dT c2
       obtain rfl := dY
       refine zcx 12 [] [] (fun W1 => [.det (zO (some an) aA aD), .det aq, .det (zI aE), .det (zal (some ⟨dF, (cY + bX * (rSl rI).sz), none⟩)), .det cZ, .det (zI aP), .det (zal (some ⟨dN, (c1 + bY * rI.sz), none⟩)), .det (zI dL), .det aa, .det (zI aE), .det (zal (some ⟨dU, (c3 + b0 * rStr.sz), none⟩)), .det (zS bZ)]) mixed rfl rfl rfl (fun _ => rfl) (fun _ => rfl) ?_ ?_
       ·
        intro W1 _
        exact trivial
       intro dZ b2
       obtain ⟨aW, K14⟩ := zl bn b2
       refine zaw (fun _ _ => zaq (zae rfl (er rfl))) (zaw (fun _ _ => zaq (zae rfl (er rfl))) (zaw (fun _ _ => zaq (zae rfl (er rfl))) (zaw (fun _ _ => zaq (zbs (r := (rSl rI)) (v := aq) (n := bX) (m := (cY + bX * (rSl rI).sz)) zda ti22 rfl dH rfl dE cX rfl (er rfl))) (zaw (fun _ b3 => zaq (zbu zan rfl rfl zek (zbz ((ke aW b3) S) (zbz (K14 S) dI)) (er rfl))) (zaw (fun _ _ => zaq (zae rfl (er rfl))) (zaw (fun _ _ => zaq (zbs (r := rI) (v := cZ) (n := bY) (m := (c1 + bY * rI.sz)) zan ti3 rfl dP rfl dM c0 rfl (er rfl))) ?_))))))
       refine zaw (fun _ b4 => zaq (zbu zay rfl rfl zek (zbz ((ke aW b4) S) (zbz (K14 S) dQ)) (er rfl))) (zaw (fun _ _ => zaq (zae rfl (er rfl))) (zaw (fun _ _ => zaq (zae rfl (er rfl))) (zaw (fun _ _ => zaq (zbs (r := rStr) (v := aa) (n := b0) (m := (c3 + b0 * rStr.sz)) zaz ti9 rfl dW rfl dS c2 rfl (er rfl))) (zaw (fun _ b5 => zaq (zbu zax rfl rfl zek (zbz ((ke aW b5) S) (zbz (K14 S) dX)) (er rfl))) (zdd ?_)))))
       rintro w26 Z32 b6 d0 ⟨-⟩ d1
       have d2 := @zhb dZ Z32
       obtain ⟨b7, K18⟩ := zl aW b6
       obtain ⟨x15, c4, c5, q41, c6, h⟩ := zix h
       refine zag (zbl (r := rStr) (b := an) (o := 0) (n := c4) (m := aA.length) (xs := ak) (q := (0 + c4 * rStr.sz)) zaz ti9 rfl a2 rfl c5 c6 rfl ?_)
       obtain ⟨c7, n15, d3, q45, c8, h⟩ := zux h
       obtain rfl := zin c5 d3
       have d4 := ((bo.mono (K14 None)).mono (K18 None))
       refine zdj (zdg (pre := []) (r := rStr) (vs := [(zS bZ)]) (a := bZ) ti9 rfl rfl rfl rfl b7 1 rfl rfl d4 c6 rfl c8 ?_)
       have b8 : aA.length = List.length c7 := by rw [c8, List.length_set]; exact a2
       intro w27 bq b9 ca cb d5
       have cc : (bq ++ []).length = aD * rStr.sz := zhc bp d5
       have K19 := ks w ca
       refine zar (zbe (zah rfl (zag (zae (v := (zI aP)) rfl ?_))))
       refine zag (zca (z := (iw (aP + 1))) rfl rfl rfl (zag (zai (v := (zI (iw (aP + 1)))) rfl (zar ?_))))
       have d6 := (cb.mono (K19 None))
       obtain rfl := zad h
       refine zap ⟨(c7, (iw (aP + 1))), rfl, ?_⟩
       exact ⟨bq, _, (zef ⟨rfl, rfl, rfl, rfl, rfl, rfl, trivial⟩), b9, (zak (zak (zak K13 K14) K18) K19), d6, b8, cc, trivial⟩
      replace h := ite_f a3 h
      refine zcd rfl ?_
      obtain rfl := zad h
      obtain rfl := bW _ rfl
      replace h := cR
      try dsimp only at h
      refine zap ?_
      exact ⟨ak, aI, _, rfl, (zef ⟨rfl, rfl, rfl, rfl, rfl, trivial⟩), bn, K13, bo, a2, bp, trivial⟩
     rintro _ w28 ⟨aj, aH, u, rfl, rfl, cd, K20, ce, cg, ch, -⟩
     replace h := cR
     try dsimp only at h
     refine zbe (zah rfl (zag (zae (v := (zI aE)) rfl ?_)))
     refine zag (zca (z := (iw (aE + 1))) rfl rfl rfl (zag (zai (v := (zI (iw (aE + 1)))) rfl (zar ?_))))
     obtain rfl := zad h
     refine zap ⟨(aj, (iw (aE + 1))), rfl, ?_⟩
     exact ⟨aH, _, (zef ⟨rfl, rfl, rfl, rfl, rfl, trivial⟩), cd, (zak K12 K20), ce, cg, ch, trivial⟩
    replace h := ite_f a1 h
    refine zcd rfl ?_
    obtain rfl := zad h
    obtain rfl := bU _ rfl
    replace h := cO
    try dsimp only at h
    refine zap ?_
    exact ⟨ao, aF, _, rfl, (zef ⟨rfl, rfl, trivial⟩), bj, K12, bk, bl, bm, trivial⟩
   rintro _ w29 ⟨ai, aV, u, rfl, rfl, a4, K21, ci, cj, ck, -⟩
   replace h := cO
   try dsimp only at h
   refine zam (zah rfl (zag (zcr (vs := [av, ac, af, ag, ah]) zba rfl ti26 rfl (a4.at 0 rfl rfl) rfl rfl (zag (zae (v := (zO (some an) aA aD)) rfl ?_)))))
   obtain ⟨cp, d7, h⟩ := zee h
   have d8 := (((bJ.mono (K4 S)).mono (K10 S)).mono (K21 S))
   have d9 := ((f9.mono (K10 S)).mono (K21 S))
   have ea := (((aS.mono (K4 S)).mono (K10 S)).mono (K21 S))
   have eb := (((aT.mono (K4 S)).mono (K10 S)).mono (K21 S))
   have ec := (((aU.mono (K4 S)).mono (K10 S)).mono (K21 S))
   refine zag (zce en15 rfl rfl (rSatisfies_w N p ai av ac af ag ah (zO (some an) aA aD) _ Any (d8.mono vw_any) (d9.mono vw_any) (ea.mono vw_any) (eb.mono vw_any) (ec.mono vw_any) (zei (pre := []) (o := 0) (n := aA.length) (cap := aD) (a4.at 1 rfl rfl) ci vw_any rfl rfl cj ck) cp d7) ?_)
   rintro _ w30 cq ⟨rfl, -⟩
   have cr := a4.ext cq
   refine zag (zai (v := (zac cp)) rfl (zar (zbv ?_)))
   obtain rfl := zad h
   refine ⟨[(zac cp)], zrt, ⟨_, rfl, cr.done, ?_⟩⟩
   exact zrt
  replace h := ite_f bM h
  refine zbm (zam (zah rfl (zag (zae (v := ab) rfl ?_))))
  refine zag (zae (v := aa) rfl (zag (zcc (v := aa) zaz rfl f6 ?_)))
  obtain ⟨c9, da, ed, db, -, h⟩ := zix h
  have dc := (al.mono (K4 S))
  obtain ⟨b15, ee, c14, ef, eg, q53, eh, ei⟩ := zcy dc db
  obtain ⟨a5, rfl, ej⟩ := ei
  refine zag (zbs (r := (rSl rStr)) (v := ab) (n := da) (m := (ee + da * (rSl rStr).sz)) Try.underlying63 ti27 rfl eg rfl ed db rfl (zag (zbu (v := a5) zaz rfl rfl zek eh (zag (zai (v := a5) rfl (zar (zam (zam (zah rfl (zag (zai (v := (zI 0)) rfl (zar ?_))))))))))))
  obtain ⟨ek, ct, cu⟩ := zee h
  refine zbt (fun e w' => ∃  (u : Env), (Sum.inl ()) = ek ∧ e = upds [] u ∧ vL w w' [] [] ∧ Keep w.heap.size [some b1] w2 [] w' ∧ True) ?_ ?_
  ·
   refine zbc ?_
   refine zbx ct (fun (ss : Int) (e : Env) (w' : World) => match ss with | aQ => ∃ (u : Env), e = upds [(1, aq), (2, ab), (3, aa), (4, (zal (some ⟨b1, 0, none⟩))), (12, a5), (13, (zI aQ))] u ∧ vL w w' [some b1] [zab [av, ac, af, ag, ah]] ∧ Keep w.heap.size [some b1] w2 [some b1] w' ∧ True) ⟨_, (zef ⟨rfl, rfl, rfl, rfl, rfl, rfl, trivial⟩), bL, zbp, trivial⟩ ?_
   rintro aQ oo _ em ⟨u, rfl, br, K22, -⟩ h bu
   rw [rTry_b3] at h
   refine zam (zam (zah rfl (zag (zae (v := (zI aQ)) rfl (zag (zae (v := a5) rfl ?_))))))
   have dd := (ej.mono (K22 S))
   refine zag (zcc (v := a5) zaz rfl dd (zag (zcf ((aQ : Int) < (c9.length : Int)) rfl rfl zbg (zar (zbi ((aQ : Int) < (c9.length : Int)) rfl (fun a6 => ?_) (fun a6 => ?_))))))
   ·
    replace h := ite_t a6 h
    refine zbm (zam (zbc (zam ?_)))
    obtain ⟨aX, en, h⟩ := zee h
    obtain ⟨eo, ep, es⟩ := zep en
    obtain ⟨aJ, cv, et, dh, -, h⟩ := zix h
    obtain ⟨eu, di, c15, ew, ex, q63, ey, ez⟩ := zcy dd dh
    obtain rfl := ez
    obtain ⟨aY, eA, h⟩ := zee h
    obtain ⟨eB, eC, eD⟩ := zep eA
    refine zcx 12 [[], [], [], [], [], [3], [], [], [], [], [], [5]] [] (fun W1 => [.det (zbr #[av, ac, af, ag, ah]), .det aq, .det ab, .rel (fun v Z w' => ∃ a0, (osv (some a0) 0 (List.length ([] : (List (List UInt8)))) 0) = v ∧ OwnC w' (some a0) (zab ([] ++ ([] ++ []))) ∧ Els rStr (vZ W1 w None [some b1] Z w') [] ([] : (List (List UInt8))) ∧ ([] ++ [] : List Value).length = 0 * rStr.sz ∧ True) footV, .det aa, .rel (fun v Z w' => ∃ aw ad ar ax, (zO aw aX ad) = v ∧ OwnC w' aw (zab ([] ++ (ar ++ ax))) ∧ Els rStr (vZ W1 w None [some b1] Z w') ar aX ∧ (ar ++ ax : List Value).length = ad * rStr.sz ∧ True) footV, .det a5, .det (zI aQ), .det (zal (some ⟨eu, (di + cv * rStr.sz), none⟩)), .det (zS aJ), .rel (fun v Z w' => ∃ aG ay, (osv (some aG) 0 1 1) = v ∧ OwnC w' (some aG) (zab ([] ++ (ay ++ []))) ∧ Els rStr (vZ W1 w None [some b1] Z w') ay [aJ] ∧ (ay ++ [] : List Value).length = 1 * rStr.sz ∧ True) footV, .rel (fun v Z w' => ∃ am ae au az, (zO am aY ae) = v ∧ OwnC w' am (zab ([] ++ (au ++ az))) ∧ Els rStr (vZ W1 w None [some b1] Z w') au aY ∧ (au ++ az : List Value).length = ae * rStr.sz ∧ True) footV]) mixed rfl rfl rfl (fun _ => rfl) (fun _ => rfl) ?_ ?_
    ·
     intro W1 _
     exact ⟨fun v Z Z' w w' hΦ hz _ _ hs => by obtain ⟨a0, rfl, a7, a8, a9, -⟩ := hΦ; exact ⟨a0, rfl, (a7.stay (fun b hb => by cases hb; exact zbf) hs), (a8.mono (zdz hz hs)), a9, trivial⟩, ⟨fun v Z Z' w w' hΦ hz _ _ hs => by obtain ⟨aw, ad, ar, ax, rfl, ba, aK, aL, -⟩ := hΦ; exact ⟨aw, ad, ar, ax, rfl, (ba.stay (fun b hb => (zel (ob := aw) (o := 0) (n := aX.length) (cap := ad)).2 (by rw [hb]; exact zbf)) hs), (aK.mono (zdz hz hs)), aL, trivial⟩, ⟨fun v Z Z' w w' hΦ hz _ _ hs => by obtain ⟨aG, ay, rfl, aM, aB, bb, -⟩ := hΦ; exact ⟨aG, ay, rfl, (aM.stay (fun b hb => by cases hb; exact zbf) hs), (aB.mono (zdz hz hs)), bb, trivial⟩, ⟨fun v Z Z' w w' hΦ hz _ _ hs => by obtain ⟨am, ae, au, az, rfl, bc, aC, aN, -⟩ := hΦ; exact ⟨am, ae, au, az, rfl, (bc.stay (fun b hb => (zel (ob := am) (o := 0) (n := aY.length) (cap := ae)).2 (by rw [hb]; exact zbf)) hs), (aC.mono (zdz hz hs)), aN, trivial⟩, trivial⟩⟩⟩⟩
    intro bw cw
    obtain ⟨aO, K23⟩ := zl br cw
    refine zaw (fun _ cx => zaq (zcr (vs := [av, ac, af, ag, ah]) zba rfl ti26 rfl ((aO.ext cx).at 0 rfl rfl) rfl rfl (er rfl))) (zaw (fun _ _ => zaq (zae rfl (er rfl))) (zaw (fun _ _ => zaq (zae rfl (er rfl))) (zea ?_ ?_)))
    ·
     rintro dj Z36 eE cy ⟨-⟩
     refine zaq (zdr zaz ti9 (Go.X.Loc.begin0 dj) ?_)
     intro a0 eF bx eG
     have bz : NewOwn dj eF [some a0] [zab ([] ++ ([] ++ []))] := bx.newOwn [0] rfl rfl rfl
     exact Made.ext bx.done cy bz (fun _ h => h) ⟨a0, rfl, bz.2.2.1, zcn, (by simp), trivial⟩
    intro z3
    refine zaw (fun _ _ => zaq (zae rfl (er rfl))) (zea ?_ ?_)
    ·
     rintro eH Z38 cz cA ⟨⟨⟨a0, rfl, a7, a8, a9, -⟩, dk⟩, -⟩
     obtain ⟨eI, eJ, eK⟩ := Rs.src (((f6.mono (K22 S)).mono (K23 S)).mono (Zv.old (Z := Z38) cz))
     refine zaq (zcz (r := rStr) (H := (vZ bw w None [some b1] Z38 eH)) (cs := []) (sp := []) (xs := ([] : (List (List UInt8)))) (ys := chosen) (Y := aX) (n := (List.length ([] : (List (List UInt8))))) (cap := 0) (i := 0) zaz ti9 rfl rfl rfl rfl (Go.X.Loc.begin1 a7) rfl rfl a8 rfl a9 eJ (zcj (fun _ _ _ _ h => h) eK) eo ep es ?_)
     intro aw ad ax ar w40 aK aL bd eL
     exact Made.use cA (fun b hb => dk b ((zel (o := 0) (n := (List.length ([] : (List (List UInt8))))) (cap := 0)).2 hb)) bd (fun b hb => List.mem_append_left _ ((zel (o := 0) (n := (List.length ([] : (List (List UInt8))))) (cap := 0)).2 (by rw [← hb]; exact zbf))) (fun b hb => footV_osv.1 hb) ⟨aw, ad, ar, ax, rfl, bd.own.1, (aK.mono (Zv.use (fun b hb => dk b ((zel (o := 0) (n := (List.length ([] : (List (List UInt8))))) (cap := 0)).2 hb)) bd)), aL, trivial⟩
    intro z5
    refine zaw (fun _ _ => zaq (zae rfl (er rfl))) (zaw (fun _ _ => zaq (zae rfl (er rfl))) (zaw (fun _ _ => zaq (zbs (r := rStr) (v := a5) (n := cv) (m := (di + cv * rStr.sz)) zaz ti9 rfl ex rfl et dh rfl (er rfl))) (zaw (fun _ cB => zaq (zbu zax rfl rfl zek (zbz ((ke aO cB) S) (zbz (K23 S) ey)) (er rfl))) (zea ?_ ?_))))
    ·
     rintro cC Z43 eM cD ⟨-, -, -⟩
     have bA : Els rStr (vZ bw w None [some b1] Z43 cC) [(zS aJ)] [aJ] := (zcq (a := [(zS aJ)]) rfl zcn)
     refine zaq (zco (r := rStr) (vs := [(zS aJ)]) (css := [[(zS aJ)]]) (xs := [aJ]) zaz ti9 (zaj rfl) rfl rfl ⟨rfl, rfl, trivial⟩ (zaj rfl) bA rfl (Go.X.Loc.begin0 cC) ?_)
     intro aG eN cE be eO
     have bB : NewOwn cC eN [some aG] [zab ([] ++ ([(zS aJ)] ++ []))] := be.newOwn [0] rfl rfl rfl
     exact Made.ext be.done cD bB (fun _ h => h) ⟨aG, [(zS aJ)], rfl, bB.2.2.1, (bA.mono (Zv.grow be.done)), cE, trivial⟩
    intro z10
    refine zea ?_ ?_
    ·
     rintro eP Z44 eQ cF ⟨⟨⟨aG, ay, rfl, aM, aB, bb, -⟩, bC⟩, ⟨⟨aw, ad, ar, ax, rfl, ba, aK, aL, -⟩, dl⟩, -, -⟩
     refine zaq (zcz (r := rStr) (H := (vZ bw w None [some b1] Z44 eP)) (cs := ar) (sp := ax) (xs := aX) (ys := [aJ]) (Y := aY) (n := aX.length) (cap := ad) (i := 0) zaz ti9 rfl rfl rfl rfl (Go.X.Loc.begin1 ba) rfl rfl aK rfl aL (zdu (pre := []) (o := 0) (n := 1) (cap := 1) aM aB rfl rfl rfl) (zcj (fun _ _ _ _ h => h) aB) eB eC eD ?_)
     intro am ae az au w48 aC aN bf eR
     exact Made.use cF (fun b hb => dl b ((zel (o := 0) (n := aX.length) (cap := ad)).2 hb)) bf (fun b hb => List.mem_append_left _ ((zel (o := 0) (n := aX.length) (cap := ad)).2 (by rw [← hb]; exact zbf))) (fun b hb => footV_osv.1 hb) ⟨am, ae, au, az, rfl, bf.own.1, (aC.mono (Zv.use (fun b hb => dl b ((zel (o := 0) (n := aX.length) (cap := ad)).2 hb)) bf)), aN, trivial⟩
    intro z11
    refine zdd ?_
    rintro eS Z45 cG bD ⟨⟨⟨am, ae, au, az, rfl, bc, aC, aN, -⟩, cH⟩, ⟨⟨aG, ay, rfl, aM, aB, bb, -⟩, bC⟩, -, -, -⟩ cI
    have aZ : ∀ b, some b ∈ ([am, some aG] : List (Option Nat)) → bw.heap.size ≤ b ∧ ¬ Z45 b := by
     intro b hb
     rcases List.mem_cons.1 hb with hb' | hb
     ·
      have := cH b ((zel (ob := am) (o := 0) (n := aY.length) (cap := ae)).2 (by rw [hb']; exact zbf)); exact ⟨this.1, this.2.2⟩
     rcases List.mem_cons.1 hb with hb' | hb
     ·
      have := bC b (by rw [hb']; exact zbf); exact ⟨this.1, this.2.2⟩
     cases hb
    replace aC := aC.mono (Zv.fin aO bD aZ)
    replace aB := aB.mono (Zv.fin aO bD aZ)
    have cJ : NewOwn bw eS [am, some aG] [zab ([] ++ (au ++ az)), zab ([] ++ (ay ++ []))] := (zdx (zdx NewOwn.nil aM (fun b hb => (aZ b (by rw [← hb]; simp)).1) (fun b _ hb => by cases hb)) bc (fun b hb => (aZ b (by rw [← hb]; simp)).1) (fun b hb hm => (List.mem_cons.1 hm).elim (fun e => apE (cI.1) rfl rfl b ((zel (ob := am) (o := 0) (n := aY.length) (cap := ae)).2 hb) ((zel (ob := (some aG)) (o := 0) (n := 1) (cap := 1)).2 (by rw [e]; exact zbf))) (fun hm => by cases hm)))
    have bE := aO.adoptL cG cJ
    have bF := bE.1
    have K25 := ks w bE.2
    obtain ⟨dm, eT, h⟩ := zee h
    have eU := ((((bJ.mono (K4 S)).mono (K22 S)).mono (K23 S)).mono (K25 S))
    have eV := ((((aR.mono (K4 S)).mono (K22 S)).mono (K23 S)).mono (K25 S))
    have eW := ((((aS.mono (K4 S)).mono (K22 S)).mono (K23 S)).mono (K25 S))
    have eX := ((((aT.mono (K4 S)).mono (K22 S)).mono (K23 S)).mono (K25 S))
    have eY := ((((aU.mono (K4 S)).mono (K22 S)).mono (K23 S)).mono (K25 S))
    have eZ := (((f7.mono (K22 S)).mono (K23 S)).mono (K25 S))
    have e2 := (((dc.mono (K22 S)).mono (K23 S)).mono (K25 S))
    refine zag (zce en38 rfl rfl (ih p l choices aY av ac af ag ah aq ab (zO am aY ae) _ Any (eU.mono vw_any) (eV.mono vw_any) (eW.mono vw_any) (eX.mono vw_any) (eY.mono vw_any) (eZ.mono vw_any) (e2.mono vw_any) (zei (pre := []) (o := 0) (n := aY.length) (cap := ae) (bF.at 0 rfl rfl) aC vw_any rfl rfl rfl aN) dm eT) ?_)
    rintro _ e3 cK ⟨rfl, -⟩
    obtain ⟨bG, K26⟩ := zl bF cK
    refine zar ?_
    refine zci dm rfl (fun bg => ?_) (fun bg => ?_)
    ·
     replace h := ite_t bg h
     refine zam (zah rfl (zag (zai (v := zT) rfl (zar (zbv ?_)))))
     obtain rfl := zad h
     obtain rfl := bu _ rfl
     replace h := cu
     try dsimp only at h
     obtain rfl := zad h
     refine ⟨[zT], zrt, ⟨_, rfl, bG.done, ?_⟩⟩
     exact zrt
    replace h := ite_f bg h
    refine zbm (zbe (zah rfl (zag (zae (v := (zI aQ)) rfl ?_))))
    refine zag (zca (z := (iw (aQ + 1))) rfl rfl rfl (zag (zai (v := (zI (iw (aQ + 1)))) rfl (zar ?_))))
    have bH := bG.pick [2] rfl rfl rfl
    have cL : vL w e3 [some b1] [zab [av, ac, af, ag, ah]] := bH.1
    have K27 := ks w bH.2
    obtain rfl := zad h
    refine zap ⟨(iw (aQ + 1)), rfl, ?_⟩
    exact ⟨_, (zef ⟨rfl, rfl, rfl, rfl, rfl, rfl, trivial⟩), cL, (zak (zak (zak (zak K22 K23) K25) K26) K27), trivial⟩
   replace h := ite_f a6 h
   refine zcd rfl ?_
   have bI := br.pick [] rfl rfl rfl
   have cM : vL w em [] [] := bI.1
   have K28 := ks w bI.2
   obtain rfl := zad h
   obtain rfl := bu _ rfl
   replace h := cu
   try dsimp only at h
   refine zap ?_
   exact ⟨_, rfl, (zef trivial), cM, (zak K22 K28), trivial⟩
  rintro _ w51 ⟨u, rfl, rfl, cN, K29, -⟩
  replace h := cu
  try dsimp only at h
  refine zam (zah rfl (zag (zai (v := zF) rfl (zar (zbv ?_)))))
  obtain rfl := zad h
  refine ⟨[zF], zrt, ⟨_, rfl, cN.done, ?_⟩⟩
  exact zrt
theorem rSolvable_w (N : Nat) (p : TProb) (am : Value) (ac : Value) (ad : Value) (ae : Value) (af : Value) (w : World) (S : Nat → Prop) (bW : Rs rI (vH w S [] w) am p.Min) (a6 : Rs rI (vH w S [] w) ac p.Max) (a7 : Rs rTTest (vH w S [] w) ad p.Tests) (a8 : Rs rArr2Int (vH w S [] w) ae p.Same) (a9 : Rs rArr2Int (vH w S [] w) af p.Different) (r : Bool) (h : rSolvable N p = some r) :
  Calls Try.prog 18 #[(zbr #[am, ac, ad, ae, af])] w (Ret w (fun v w' => (zac r) = v ∧ True)) := by
 unfold rSolvable at h
 have hL : vL w w [] [] := Go.X.Loc.begin0 w
 refine calls_of (l := [(zbr #[am, ac, ad, ae, af])]) (rl := [.tmp 2]) (n := 36) Try.func18 rfl rfl rfl (zaj rfl) ?_
 refine zam (zah rfl (zag (zdo (cs := [am, ac, ad, ae, af]) rfl rfl hL ?_)))
 intro b1 w2 ba bX
 have K4 := ks w bX
 refine zag (zai (v := zF) rfl (zar (zam (zah rfl (zag (zcr (vs := [am, ac, ad, ae, af]) zba rfl ti26 rfl (ba.at 0 rfl rfl) rfl rfl ?_))))))
 obtain ⟨r6, q7, h⟩ := zee h
 have bb := (bW.mono (K4 S))
 have bc := (a6.mono (K4 S))
 have bd := (a7.mono (K4 S))
 have be := (a8.mono (K4 S))
 have bf := (a9.mono (K4 S))
 refine zag (zce en21 rfl rfl (rClasses_w N p am ac ad ae af _ Any (bb.mono vw_any) (bc.mono vw_any) (bd.mono vw_any) (be.mono vw_any) (bf.mono vw_any) r6 q7) ?_)
 rintro _ bY bg ⟨ah, al, aB, ar, rfl, bh, aC, bi, -⟩
 replace aC := aC.mono (zbw (S := None) ba [ah])
 have aS := ba.adoptL bg bh
 have bj := aS.1
 have K10 := ks w aS.2
 refine zag (zai (v := (zO ah r6 al)) rfl (zar (zam (zah rfl (zag (zdr Try.underlying63 ti27 bj ?_))))))
 intro aT bk bl bm
 have bn : Els (rSl rStr) (vH w None [ah, some b1] bY) [] [] := zcn
 have K11 := ks w bm
 refine zag (zai (v := (osv (some aT) 0 (List.length ([] : (List (List (List UInt8))))) 0)) rfl (zar (zam (zam (zah rfl (zag (zai (v := (zI 0)) rfl (zar ?_))))))))
 obtain ⟨bZ, bo, bQ⟩ := zee h
 refine zbt (fun e w' => ∃ (aa : (List (List (List UInt8)))) (an : Option Nat) (aj : Nat) (aL : List Value) (aD : List Value) (aM : Nat) (u : Env), aa = bZ ∧ e = upds [(1, (zal (some ⟨b1, 0, none⟩))), (3, (zO ah r6 al)), (4, (osv an 0 aM aj))] u ∧ vL w w' [some b1, ah, an] [zab [am, ac, ad, ae, af], zab ([] ++ (aB ++ ar)), zab ([] ++ (aD ++ aL))] ∧ Keep w.heap.size [some aT, ah, some b1] bk [some b1, ah, an] w' ∧ Els (rSl rStr) (vH w None [some b1, ah, an] w') aD aa ∧ aM = List.length aa ∧ (aD ++ aL).length = aj * (rSl rStr).sz ∧ True) ?_ ?_
 ·
  refine zbc ?_
  have aU := bl.pick [2, 1, 0] rfl rfl rfl
  have bp : vL w bk [some b1, ah, some aT] [zab [am, ac, ad, ae, af], zab ([] ++ (aB ++ ar)), zab ([] ++ ([] ++ []))] := aU.1
  have K12 := ks w aU.2
  have b0 := ((bn.mono (K11 None)).mono (K12 None))
  refine zbx bo (fun (ss : ((List (List (List UInt8))) × Int)) (e : Env) (w' : World) => match ss with | (ab, az) => ∃ (ag : Option Nat) (ak : Nat) (au : List Value) (ao : List Value) (aN : Nat) (u : Env), e = upds [(1, (zal (some ⟨b1, 0, none⟩))), (3, (zO ah r6 al)), (4, (osv ag 0 aN ak)), (5, (zI az))] u ∧ vL w w' [some b1, ah, ag] [zab [am, ac, ad, ae, af], zab ([] ++ (aB ++ ar)), zab ([] ++ (ao ++ au))] ∧ Keep w.heap.size [some aT, ah, some b1] bk [some b1, ah, ag] w' ∧ Els (rSl rStr) (vH w None [some b1, ah, ag] w') ao ab ∧ aN = List.length ab ∧ (ao ++ au).length = ak * (rSl rStr).sz ∧ True) ⟨some aT, 0, [], [], (List.length ([] : (List (List (List UInt8))))), _, (zef ⟨rfl, rfl, rfl, rfl, trivial⟩), bp, K12, b0, rfl, (show ([] ++ [] : List Value).length = 0 * (rSl rStr).sz by simp), trivial⟩ ?_
  rintro ⟨ab, az⟩ oo _ w12 ⟨ag, ak, au, ao, aN, u, rfl, aE, K13, aV, rfl, aW, -⟩ h bq
  rw [rSolvable_b1] at h
  refine zam (zam (zah rfl (zag (zae (v := (zI az)) rfl (zag (zae (v := (zO ah r6 al)) rfl ?_))))))
  have a4 := ((aC.mono (K11 None)).mono (K13 None))
  refine zag (zcl (pre := []) (r := (rSl rI)) (xs := r6) zda rfl (aE.at 1 rfl rfl) a4 rfl rfl (zag (zcf ((az : Int) < (r6.length : Int)) rfl rfl zbg (zar (zbi ((az : Int) < (r6.length : Int)) rfl (fun aO => ?_) (fun aO => ?_))))))
  ·
   replace h := ite_t aO h
   refine zbm (zam (zbc (zam ?_)))
   obtain ⟨b2, br, b3, bR, b4, h⟩ := zix h
   obtain ⟨bS, aX⟩ := aE.row_some 1 rfl rfl (zev (pre := []) a4 bR (Nat.lt_of_sub_eq_succ rfl))
   obtain ⟨b5, q14, b6, b7⟩ := zeo (pre := []) (sp := ar) a4 bR
   obtain ⟨bT, rfl, b8⟩ := b6
   obtain ⟨aF, b9, h⟩ := zee h
   refine zcx 12 [] [] (fun W1 => [.det (zbr #[am, ac, ad, ae, af]), .det (zO ah r6 al), .det (zI az), .det (zal (some ⟨bS, (0 + br * (rSl rI).sz), none⟩)), .det bT, .det (zO ah r6 al), .det (zI (r6.length : Int)), .rel (fun v Z w' => ∃ av aw, (Value.tuple #[av, aw]) = v ∧ Rs rStr (vZ W1 w None [some b1, ah, ag] Z w') av aF.1 ∧ Rs rI (vZ W1 w None [some b1, ah, ag] Z w') aw aF.2 ∧ True) (fun _ => []), .rel (fun v Z w' => ∃ ap aq, (Value.tuple #[ap, aq]) = v ∧ Rs rStr (vZ W1 w None [some b1, ah, ag] Z w') ap aF.1 ∧ Rs rI (vZ W1 w None [some b1, ah, ag] Z w') aq aF.2 ∧ True) (fun _ => []), .fn 8 (tg 0), .fn 8 (tg 1), .rel (fun v Z w' => ∃ aA, aA = v ∧ Rs rStr (vZ W1 w None [some b1, ah, ag] Z w') aA aF.1 ∧ True) (fun _ => [])]) mixed rfl rfl rfl (fun _ => rfl) (fun _ => rfl) ?_ ?_
   ·
    intro W1 _
    exact ⟨fun v Z Z' w w' hΦ hz _ _ hs => by obtain ⟨av, aw, rfl, aG, aH, -⟩ := hΦ; exact ⟨av, aw, rfl, (aG.mono (zdz hz hs)), (aH.mono (zdz hz hs)), trivial⟩, ⟨fun v Z Z' w w' hΦ hz _ _ hs => by obtain ⟨ap, aq, rfl, aJ, aP, -⟩ := hΦ; exact ⟨ap, aq, rfl, (aJ.mono (zdz hz hs)), (aP.mono (zdz hz hs)), trivial⟩, ⟨fun v Z Z' w w' hΦ hz _ _ hs => by obtain ⟨aA, rfl, aR, -⟩ := hΦ; exact ⟨aA, rfl, (aR.mono (zdz hz hs)), trivial⟩, trivial⟩⟩⟩
   intro ca bu
   obtain ⟨ai, K14⟩ := zl aE bu
   refine zaw (fun _ bw => zaq (zcr (vs := [am, ac, ad, ae, af]) zba rfl ti26 rfl ((ai.ext bw).at 0 rfl rfl) rfl rfl (er rfl))) (zaw (fun _ _ => zaq (zae rfl (er rfl))) (zaw (fun _ _ => zaq (zae rfl (er rfl))) (zaw (fun _ _ => zaq (zbl (r := (rSl rI)) (b := bS) (o := 0) (n := br) (m := r6.length) (xs := r6) (q := (0 + br * (rSl rI).sz)) zda ti22 (zen aX) rfl rfl b3 b4 rfl (er rfl))) (zaw (fun _ bx => zaq (zby zan rfl rfl (zer aX ((ai.ext bx).at 1 rfl rfl)) b7 (er rfl))) (zaw (fun _ _ => zaq (zae rfl (er rfl))) (zaw (fun _ aY => zaq (zcl (pre := []) (r := (rSl rI)) (xs := r6) zda rfl ((ai.ext aY).at 1 rfl rfl) ((a4.mono (K14 None)).mono ((ke ai aY) None)) rfl rfl (er rfl))) ?_))))))
   refine zea ?_ ?_
   ·
    rintro w21 Z27 bz bA ⟨-⟩
    have K16 := ke ai bz
    refine zaq (zce en37 rfl rfl (rWords_w N p b2 (r6.length : Int) am ac ad ae af bT _ Any ((((((bb.mono (K10 S)).mono (K11 S)).mono (K13 S)).mono (K14 S)).mono (K16 S)).mono vw_any) ((((((bc.mono (K10 S)).mono (K11 S)).mono (K13 S)).mono (K14 S)).mono (K16 S)).mono vw_any) ((((((bd.mono (K10 S)).mono (K11 S)).mono (K13 S)).mono (K14 S)).mono (K16 S)).mono vw_any) ((((((be.mono (K10 S)).mono (K11 S)).mono (K13 S)).mono (K14 S)).mono (K16 S)).mono vw_any) ((((((bf.mono (K10 S)).mono (K11 S)).mono (K13 S)).mono (K14 S)).mono (K16 S)).mono vw_any) (((b8.mono (K14 None)).mono (K16 None)).mono vw_any) aF b9) ?_)
    rintro _ w22 bB ⟨av, aw, rfl, aG, aH, -⟩
    exact Made.ext bB bA NewOwn.nil (fun _ h => h) ⟨av, aw, rfl, (aG.mono Zv.made), (aH.mono Zv.made), trivial⟩
   intro z7
   refine zea ?_ ?_
   ·
    rintro w23 Z28 cb cc ⟨⟨⟨av, aw, rfl, aG, aH, -⟩, bU⟩, -⟩
    refine zaq (zae (v := (Value.tuple #[av, aw])) rfl ?_)
    exact Go.X.Made.same ⟨av, aw, rfl, aG, aH, trivial⟩
   intro z8
   refine DrH.fn rfl ?_ ?_
   ·
    rintro w24 Z29 cd ce ⟨⟨⟨ap, aq, rfl, aJ, aP, -⟩, bC⟩, -, -⟩
    refine zaq (zcm (vs := [ap, aq]) (v := ap) rfl rfl ?_)
    exact ⟨Ext.refl _, rfl⟩
   refine DrH.fn rfl ?_ ?_
   ·
    rintro w25 Z30 cg ch ⟨⟨⟨ap, aq, rfl, aJ, aP, -⟩, bC⟩, -, -⟩
    refine zaq (zcm (vs := [ap, aq]) (v := aq) rfl rfl ?_)
    exact ⟨Ext.refl _, rfl⟩
   refine zea ?_ ?_
   ·
    rintro w26 Z31 ci cj ⟨⟨⟨ap, aq, rfl, aJ, aP, -⟩, bC⟩, ⟨⟨av, aw, rfl, aG, aH, -⟩, bU⟩, -⟩
    refine zaq (zai (v := ap) rfl ?_)
    exact Go.X.Made.same ⟨ap, rfl, aJ, trivial⟩
   intro z10
   refine zdd ?_
   rintro ck Z32 bD ax ⟨⟨⟨aA, rfl, aR, -⟩, cp⟩, ⟨⟨ap, aq, rfl, aJ, aP, -⟩, bC⟩, ⟨⟨av, aw, rfl, aG, aH, -⟩, bU⟩, -⟩ cq
   have ay := @zhb ca Z32
   replace aR := aR.mono (Zv.fin ai ax ay)
   replace aJ := aJ.mono (Zv.fin ai ax ay)
   replace aP := aP.mono (Zv.fin ai ax ay)
   replace aG := aG.mono (Zv.fin ai ax ay)
   replace aH := aH.mono (Zv.fin ai ax ay)
   obtain ⟨bE, K17⟩ := zl ai bD
   refine zag (zai (v := aq) rfl (zar (zah rfl (zag (zae (v := (zO ag ab ak)) rfl (zag (zae (v := aA) rfl ?_)))))))
   have aZ : Els (rSl rStr) (vH w None [some b1, ah, ag] ck) [aA] [aF.1] := (zcq (a := [aA]) ⟨_, rfl, aR⟩ zcn)
   refine zag (zco (r := (rSl rStr)) (vs := [aA]) (css := [[aA]]) (xs := [aF.1]) Try.underlying63 ti27 (zaj rfl) rfl rfl ⟨(zes aR.one), rfl, trivial⟩ (zaj rfl) aZ rfl bE ?_)
   intro cr ct cu a0 bF
   have K18 := ks w bF
   obtain ⟨a5, cv, h⟩ := zee h
   obtain ⟨cw, cx, cy⟩ := zep cv
   have bV := (aZ.mono (K18 None))
   have cz := (((aV.mono (K14 None)).mono (K17 None)).mono (K18 None))
   refine zag (zcz (r := (rSl rStr)) (H := (vH w None [some cr, some b1, ah, ag] ct)) (cs := ao) (sp := au) (xs := ab) (ys := [aF.1]) (Y := a5) (n := ab.length) (cap := ak) (i := 3) Try.underlying63 ti27 rfl rfl rfl rfl a0 rfl rfl cz rfl aW (zdu (pre := []) (o := 0) (n := 1) (cap := 1) (a0.at 0 rfl rfl) bV rfl rfl rfl) bV cw cx cy ?_)
   intro aQ aK a1 a2 cA bG bH bI bJ
   have K19 := ks w bJ
   refine zag (zai (v := (zO aQ a5 aK)) rfl (zar (zbe (zah rfl (zag (zae (v := (zI az)) rfl (zag (zca (z := (iw (az + 1))) rfl rfl rfl (zag (zai (v := (zI (iw (az + 1)))) rfl (zar ?_)))))))))))
   have a3 := bI.pick [1, 2, 3] rfl rfl rfl
   have bK : vL w cA [some b1, ah, aQ] [zab [am, ac, ad, ae, af], zab ([] ++ (aB ++ ar)), zab ([] ++ (a2 ++ a1))] := a3.1
   have K20 := ks w a3.2
   have cB := ((bG.mono (K19 None)).mono (K20 None))
   obtain rfl := zad h
   refine zap ⟨(a5, (iw (az + 1))), rfl, ?_⟩
   exact ⟨aQ, aK, a1, a2, a5.length, _, (zef ⟨rfl, rfl, rfl, rfl, trivial⟩), bK, (zak (zak (zak (zak (zak K13 K14) K17) K18) K19) K20), cB, rfl, bH, trivial⟩
  replace h := ite_f aO h
  refine zcd rfl ?_
  obtain rfl := zad h
  obtain rfl := bq _ rfl
  replace h := bQ
  try dsimp only at h
  refine zap ?_
  exact ⟨ab, ag, ak, au, ao, ab.length, _, rfl, (zef ⟨rfl, rfl, rfl, trivial⟩), aE, K13, aV, rfl, aW, trivial⟩
 rintro _ w30 ⟨aa, an, aj, aL, aD, aM, u, rfl, rfl, aI, K21, bL, rfl, bM, -⟩
 replace h := bQ
 try dsimp only at h
 refine zam (zah rfl (zag (zcr (vs := [am, ac, ad, ae, af]) zba rfl ti26 rfl (aI.at 0 rfl rfl) rfl rfl (zag (zae (v := (zO ah r6 al)) rfl (zag (zae (v := (zO an aa aj)) rfl ?_)))))))
 obtain ⟨bN, cC, h⟩ := zee h
 have cD := (((bb.mono (K10 S)).mono (K11 S)).mono (K21 S))
 have cE := (((bc.mono (K10 S)).mono (K11 S)).mono (K21 S))
 have cF := (((bd.mono (K10 S)).mono (K11 S)).mono (K21 S))
 have cG := (((be.mono (K10 S)).mono (K11 S)).mono (K21 S))
 have cH := (((bf.mono (K10 S)).mono (K11 S)).mono (K21 S))
 have cI := ((aC.mono (K11 None)).mono (K21 None))
 refine zag (zce en38 rfl rfl (rTry_w N p r6 aa [] am ac ad ae af (zO ah r6 al) (zO an aa aj) zN _ Any (cD.mono vw_any) (cE.mono vw_any) (cF.mono vw_any) (cG.mono vw_any) (cH.mono vw_any) (zei (pre := []) (o := 0) (n := r6.length) (cap := al) (aI.at 1 rfl rfl) cI vw_any rfl rfl rfl bi) (zei (pre := []) (o := 0) (n := aa.length) (cap := aj) (aI.at 2 rfl rfl) bL vw_any rfl rfl rfl bM) Rs.nil bN cC) ?_)
 rintro _ w31 bO ⟨rfl, -⟩
 have bP := aI.ext bO
 refine zag (zai (v := (zac bN)) rfl (zar (zbv ?_)))
 obtain rfl := zad h
 refine ⟨[(zac bN)], zrt, ⟨_, rfl, bP.done, ?_⟩⟩
 exact zrt
theorem rSmall_w (N : Nat) (p : TProb) (ak : Value) (ac : Value) (ad : Value) (ae : Value) (af : Value) (w : World) (S : Nat → Prop) (ax : Rs rI (vH w S [] w) ak p.Min) (am : Rs rI (vH w S [] w) ac p.Max) (an : Rs rTTest (vH w S [] w) ad p.Tests) (ao : Rs rArr2Int (vH w S [] w) ae p.Same) (ap : Rs rArr2Int (vH w S [] w) af p.Different) (r : Bool) (h : rSmall N p = some r) :
  Calls Try.prog 12 #[(zbr #[ak, ac, ad, ae, af])] w (Ret w (fun v w' => (zac r) = v ∧ True)) := by
 unfold rSmall at h
 have hL : vL w w [] [] := Go.X.Loc.begin0 w
 refine calls_of (l := [(zbr #[ak, ac, ad, ae, af])]) (rl := [.tmp 2]) (n := 35) Try.func12 rfl rfl rfl (zaj rfl) ?_
 refine zam (zah rfl (zag (zdo (cs := [ak, ac, ad, ae, af]) rfl rfl hL ?_)))
 intro b1 w2 ah ay
 have K4 := ks w ay
 refine zag (zai (v := zF) rfl (zar (zam (zah rfl (zag (zat (q := 1) zba rfl ti22 rfl rfl rfl (zag (zav (v := ac) zan rfl rfl (ah.at 0 rfl rfl) rfl ?_))))))))
 have f6 := (am.mono (K4 S))
 refine zag (zcc (v := ac) zan rfl f6 (zag (zeb (((p.Max.length : Int) : Int) ≤ 6) rfl rfl zbg (zag (zae (v := (zac (decide (((p.Max.length : Int) : Int) ≤ 6)))) rfl ?_)))))
 by_cases ai : ((p.Max.length : Int) : Int) ≤ 6
 ·
  replace h := ite_t ai h
  refine zbb rfl rfl (zed ai) (zat (q := 0) zba rfl ti22 rfl rfl rfl (zbb rfl rfl (zed ai) (zav (v := ak) zan rfl rfl (ah.at 0 rfl rfl) rfl ?_)))
  have f8 := (ax.mono (K4 S))
  refine zbb rfl rfl (zed ai) (zcc (v := ak) zan rfl f8 (zbb rfl rfl (zed ai) (zeb (((p.Min.length : Int) : Int) ≤ 6) rfl rfl zbg (zag (zbo (v := (zac (decide (((p.Min.length : Int) : Int) ≤ 6)))) rfl (zed ai) rfl (zag (zae (v := (zac (decide (((p.Min.length : Int) : Int) ≤ 6)))) rfl ?_)))))))
  by_cases aj : ((p.Min.length : Int) : Int) ≤ 6
  ·
   replace h := ite_t aj h
   refine zbb rfl rfl (zed aj) (zat (q := 2) zba rfl ti23 rfl rfl rfl (zbb rfl rfl (zed aj) (zav (v := ad) zbh rfl rfl (ah.at 0 rfl rfl) rfl ?_)))
   have au := (an.mono (K4 S))
   refine zbb rfl rfl (zed aj) (zcc (v := ad) zbh rfl au (zbb rfl rfl (zed aj) (zeb (((p.Tests.length : Int) : Int) ≤ 8) rfl rfl zbg (zag (zbo (v := (zac (decide (((p.Tests.length : Int) : Int) ≤ 8)))) rfl (zed aj) rfl (zag (zae (v := (zac (decide (((p.Tests.length : Int) : Int) ≤ 8)))) rfl ?_)))))))
   by_cases aa : ((p.Tests.length : Int) : Int) ≤ 8
   ·
    replace h := ite_t aa h
    refine zbb rfl rfl (zed aa) (zat (q := 3) zba rfl ti24 rfl rfl rfl (zbb rfl rfl (zed aa) (zav (v := ae) zbn rfl rfl (ah.at 0 rfl rfl) rfl ?_)))
    have av := (ao.mono (K4 S))
    refine zbb rfl rfl (zed aa) (zcc (v := ae) zbn rfl av (zbb rfl rfl (zed aa) (zeb (((p.Same.length : Int) : Int) ≤ 8) rfl rfl zbg (zag (zbo (v := (zac (decide (((p.Same.length : Int) : Int) ≤ 8)))) rfl (zed aa) rfl (zag (zae (v := (zac (decide (((p.Same.length : Int) : Int) ≤ 8)))) rfl ?_)))))))
    by_cases ab : ((p.Same.length : Int) : Int) ≤ 8
    ·
     replace h := ite_t ab h
     refine zbb rfl rfl (zed ab) (zat (q := 4) zba rfl ti24 rfl rfl rfl (zbb rfl rfl (zed ab) (zav (v := af) zbn rfl rfl (ah.at 0 rfl rfl) rfl ?_)))
     have aw := (ap.mono (K4 S))
     refine zbb rfl rfl (zed ab) (zcc (v := af) zbn rfl aw (zbb rfl rfl (zed ab) (zeb (((p.Different.length : Int) : Int) ≤ 8) rfl rfl zbg (zag (zbo (v := (zac (decide (((p.Different.length : Int) : Int) ≤ 8)))) rfl (zed ab) rfl (zag (zae (v := (zac (decide (((p.Different.length : Int) : Int) ≤ 8)))) rfl ?_)))))))
     by_cases ag : ((p.Different.length : Int) : Int) ≤ 8
     ·
      replace h := ite_t ag h
      refine zbb rfl rfl (zed ag) (zcr (vs := [ak, ac, ad, ae, af]) zba rfl ti26 rfl (ah.at 0 rfl rfl) rfl rfl ?_)
      obtain ⟨al, az, h⟩ := zee h
      refine zbb rfl rfl (zed ag) (zce en24 rfl rfl (rValid_w N p ak ac ad ae af _ Any (f8.mono vw_any) (f6.mono vw_any) (au.mono vw_any) (av.mono vw_any) (aw.mono vw_any) al az) ?_)
      rintro _ w10 aq ⟨rfl, -⟩
      have ar := ah.ext aq
      refine zag (zbo (v := (zac al)) rfl (zed ag) rfl (zag (zai (v := (zac al)) rfl (zar (zbv ?_)))))
      obtain rfl := zad h
      refine ⟨[(zac al)], zrt, ⟨_, rfl, ar.done, ?_⟩⟩
      exact zrt
     replace h := ite_f ag h
     refine zbj rfl rfl (zec ag) (zbj rfl rfl (zec ag) (zag (zbk (v := zF) rfl (zec ag) rfl (zag (zai (v := zF) rfl (zar (zbv ?_)))))))
     obtain rfl := zad h
     refine ⟨[zF], zrt, ⟨_, rfl, ah.done, ?_⟩⟩
     exact zrt
    replace h := ite_f ab h
    refine zbj rfl rfl (zec ab) (zbj rfl rfl (zec ab) (zbj rfl rfl (zec ab) (zbj rfl rfl (zec ab) (zag (zbk (v := zF) rfl (zec ab) rfl (zag (zae (v := zF) rfl (zbj rfl rfl rfl (zbj rfl rfl rfl (zag (zbk (v := zF) rfl rfl rfl (zag (zai (v := zF) rfl (zar (zbv ?_)))))))))))))))
    obtain rfl := zad h
    refine ⟨[zF], zrt, ⟨_, rfl, ah.done, ?_⟩⟩
    exact zrt
   replace h := ite_f aa h
   refine zbj rfl rfl (zec aa) (zbj rfl rfl (zec aa) (zbj rfl rfl (zec aa) (zbj rfl rfl (zec aa) (zag (zbk (v := zF) rfl (zec aa) rfl (zag (zae (v := zF) rfl (zbj rfl rfl rfl (zbj rfl rfl rfl (zbj rfl rfl rfl (zbj rfl rfl rfl (zag (zbk (v := zF) rfl rfl rfl (zag (zae (v := zF) rfl (zbj rfl rfl rfl (zbj rfl rfl rfl ?_)))))))))))))))))
   refine zag (zbk (v := zF) rfl rfl rfl (zag (zai (v := zF) rfl (zar (zbv ?_)))))
   obtain rfl := zad h
   refine ⟨[zF], zrt, ⟨_, rfl, ah.done, ?_⟩⟩
   exact zrt
  replace h := ite_f aj h
  refine zbj rfl rfl (zec aj) (zbj rfl rfl (zec aj) (zbj rfl rfl (zec aj) (zbj rfl rfl (zec aj) (zag (zbk (v := zF) rfl (zec aj) rfl (zag (zae (v := zF) rfl (zbj rfl rfl rfl (zbj rfl rfl rfl (zbj rfl rfl rfl (zbj rfl rfl rfl (zag (zbk (v := zF) rfl rfl rfl (zag (zae (v := zF) rfl (zbj rfl rfl rfl (zbj rfl rfl rfl (zbj rfl rfl rfl (zbj rfl rfl rfl ?_)))))))))))))))))))
  refine zag (zbk (v := zF) rfl rfl rfl (zag (zae (v := zF) rfl (zbj rfl rfl rfl (zbj rfl rfl rfl (zag (zbk (v := zF) rfl rfl rfl (zag (zai (v := zF) rfl (zar (zbv ?_)))))))))))
  obtain rfl := zad h
  refine ⟨[zF], zrt, ⟨_, rfl, ah.done, ?_⟩⟩
  exact zrt
 replace h := ite_f ai h
 refine zbj rfl rfl (zec ai) (zbj rfl rfl (zec ai) (zbj rfl rfl (zec ai) (zbj rfl rfl (zec ai) (zag (zbk (v := zF) rfl (zec ai) rfl (zag (zae (v := zF) rfl (zbj rfl rfl rfl (zbj rfl rfl rfl (zbj rfl rfl rfl (zbj rfl rfl rfl (zag (zbk (v := zF) rfl rfl rfl (zag (zae (v := zF) rfl (zbj rfl rfl rfl (zbj rfl rfl rfl (zbj rfl rfl rfl (zbj rfl rfl rfl ?_)))))))))))))))))))
 refine zag (zbk (v := zF) rfl rfl rfl (zag (zae (v := zF) rfl (zbj rfl rfl rfl (zbj rfl rfl rfl (zbj rfl rfl rfl (zbj rfl rfl rfl (zag (zbk (v := zF) rfl rfl rfl (zag (zae (v := zF) rfl (zbj rfl rfl rfl (zbj rfl rfl rfl (zag (zbk (v := zF) rfl rfl rfl ?_)))))))))))))))
 refine zag (zai (v := zF) rfl (zar (zbv ?_)))
 obtain rfl := zad h
 refine ⟨[zF], zrt, ⟨_, rfl, ah.done, ?_⟩⟩
 exact zrt
theorem rShort_w (N : Nat) (p : TProb) (ah : Value) (aa : Value) (ac : Value) (ad : Value) (ae : Value) (w : World) (S : Nat → Prop) (aC : Rs rI (vH w S [] w) ah p.Min) (al : Rs rI (vH w S [] w) aa p.Max) (ao : Rs rTTest (vH w S [] w) ac p.Tests) (ap : Rs rArr2Int (vH w S [] w) ad p.Same) (aq : Rs rArr2Int (vH w S [] w) ae p.Different) (r : Bool) (h : rShort N p = some r) :
  Calls Try.prog 16 #[(zbr #[ah, aa, ac, ad, ae])] w (Ret w (fun v w' => (zac r) = v ∧ True)) := by
 unfold rShort at h
 have hL : vL w w [] [] := Go.X.Loc.begin0 w
 refine calls_of (l := [(zbr #[ah, aa, ac, ad, ae])]) (rl := [.tmp 2]) (n := 25) Try.func16 rfl rfl rfl (zaj rfl) ?_
 refine zam (zah rfl (zag (zdo (cs := [ah, aa, ac, ad, ae]) rfl rfl hL ?_)))
 intro b1 w2 aD aE
 have K4 := ks w aE
 refine zag (zai (v := zF) rfl (zar (zam (zam (zah rfl (zag (zai (v := (zI 0)) rfl (zar ?_))))))))
 obtain ⟨aF, ar, au⟩ := zee h
 refine zbt (fun e w' => ∃  (u : Env), (Sum.inl ()) = aF ∧ e = upds [(1, (zal (some ⟨b1, 0, none⟩)))] u ∧ vL w w' [some b1] [zab [ah, aa, ac, ad, ae]] ∧ Keep w.heap.size [some b1] w2 [some b1] w' ∧ True) ?_ ?_
 ·
  refine zbc ?_
  refine zbx ar (fun (ss : Int) (e : Env) (w' : World) => match ss with | ag => ∃ (u : Env), e = upds [(1, (zal (some ⟨b1, 0, none⟩))), (3, (zI ag))] u ∧ vL w w' [some b1] [zab [ah, aa, ac, ad, ae]] ∧ Keep w.heap.size [some b1] w2 [some b1] w' ∧ True) ⟨_, (zef ⟨rfl, rfl, trivial⟩), aD, zbp, trivial⟩ ?_
  rintro ag oo _ w10 ⟨u, rfl, af, K10, -⟩ h am
  rw [rShort_b1] at h
  refine zam (zam (zah rfl (zag (zae (v := (zI ag)) rfl (zag (zat (q := 1) zba rfl ti22 rfl rfl rfl (zag (zav (v := aa) zan rfl rfl (af.at 0 rfl rfl) rfl ?_))))))))
  have ay := ((al.mono (K4 S)).mono (K10 S))
  refine zag (zcc (v := aa) zan rfl ay (zag (zcf ((ag : Int) < (p.Max.length : Int)) rfl rfl zbg (zar (zbi ((ag : Int) < (p.Max.length : Int)) rfl (fun ai => ?_) (fun ai => ?_))))))
  ·
   replace h := ite_t ai h
   refine zbm (zam (zbc (zam (zah rfl (zag (zat (q := 1) zba rfl ti22 rfl rfl rfl ?_))))))
   refine zag (zav (v := aa) zan rfl rfl (af.at 0 rfl rfl) rfl (zag (zae (v := (zI ag)) rfl ?_)))
   obtain ⟨av, az, aG, aA, -, h⟩ := zix h
   obtain ⟨b10, aH, c10, aI, aJ, q14, aK, aL⟩ := zcy ay aA
   obtain rfl := aL
   refine zag (zbs (r := rI) (v := aa) (n := az) (m := (aH + az * rI.sz)) zan ti3 rfl aJ rfl aG aA rfl (zag (zbu (v := (zI av)) zay rfl rfl zek aK (zag (OpY.gtr ((av : Int) > 2) rfl rfl zbg (zar (zbi ((av : Int) > 2) rfl (fun aj => ?_) (fun aj => ?_))))))))
   ·
    replace h := ite_t aj h
    refine zam (zah rfl (zag (zai (v := zF) rfl (zar (zbv ?_)))))
    obtain rfl := zad h
    obtain rfl := am _ rfl
    replace h := au
    try dsimp only at h
    obtain rfl := zad h
    refine ⟨[zF], zrt, ⟨_, rfl, af.done, ?_⟩⟩
    exact zrt
   replace h := ite_f aj h
   refine zbm (zbe (zah rfl (zag (zae (v := (zI ag)) rfl ?_))))
   refine zag (zca (z := (iw (ag + 1))) rfl rfl rfl (zag (zai (v := (zI (iw (ag + 1)))) rfl (zar ?_))))
   obtain rfl := zad h
   refine zap ⟨(iw (ag + 1)), rfl, ?_⟩
   exact ⟨_, (zef ⟨rfl, rfl, trivial⟩), af, K10, trivial⟩
  replace h := ite_f ai h
  refine zcd rfl ?_
  obtain rfl := zad h
  obtain rfl := am _ rfl
  replace h := au
  try dsimp only at h
  refine zap ?_
  exact ⟨_, rfl, (zef zrt), af, K10, trivial⟩
 rintro _ w11 ⟨u, rfl, rfl, an, K11, -⟩
 replace h := au
 try dsimp only at h
 refine zam (zah rfl (zag (zcr (vs := [ah, aa, ac, ad, ae]) zba rfl ti26 rfl (an.at 0 rfl rfl) rfl rfl ?_)))
 obtain ⟨aw, aM, h⟩ := zee h
 have aN := ((aC.mono (K4 S)).mono (K11 S))
 have aB := ((al.mono (K4 S)).mono (K11 S))
 have aO := ((ao.mono (K4 S)).mono (K11 S))
 have aP := ((ap.mono (K4 S)).mono (K11 S))
 have aQ := ((aq.mono (K4 S)).mono (K11 S))
 refine zag (zce en12 rfl rfl (rSmall_w N p ah aa ac ad ae _ Any (aN.mono vw_any) (aB.mono vw_any) (aO.mono vw_any) (aP.mono vw_any) (aQ.mono vw_any) aw aM) ?_)
 rintro _ w12 ax ⟨rfl, -⟩
 obtain ⟨ak, K12⟩ := zl an ax
 refine zag (zae (v := (zac aw)) rfl ?_)
 by_cases ab : aw = true
 ·
  replace h := ite_t ab h
  refine zbb rfl rfl ab (zat (q := 1) zba rfl ti22 rfl rfl rfl (zbb rfl rfl ab (zav (v := aa) zan rfl rfl (ak.at 0 rfl rfl) rfl ?_)))
  have aR := (aB.mono (K12 S))
  refine zbb rfl rfl ab (zcc (v := aa) zan rfl aR (zbb rfl rfl ab (zeb (((p.Max.length : Int) : Int) ≤ 3) rfl rfl zbg (zag (zbo (v := (zac (decide (((p.Max.length : Int) : Int) ≤ 3)))) rfl ab rfl (zag (zai (v := (zac (decide (((p.Max.length : Int) : Int) ≤ 3)))) rfl (zar (zbv ?_)))))))))
  obtain rfl := zad h
  refine ⟨[(zac (decide (((p.Max.length : Int) : Int) ≤ 3)))], zrt, ⟨_, rfl, ak.done, ?_⟩⟩
  exact zrt
 replace h := ite_f ab h
 refine zbj rfl rfl (zeg ab) (zbj rfl rfl (zeg ab) (zbj rfl rfl (zeg ab) (zbj rfl rfl (zeg ab) (zag (zbk (v := zF) rfl (zeg ab) rfl (zag (zai (v := zF) rfl (zar (zbv ?_)))))))))
 obtain rfl := zad h
 refine ⟨[zF], zrt, ⟨_, rfl, ak.done, ?_⟩⟩
 exact zrt
end Go.Proofs.Ytaakoedphmeenaa.WR

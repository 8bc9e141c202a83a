/- Walks, written by a program of mine (wip/tool); the kernel checks them. -/
import Derived.Test.YtaakoedphmeenaaWTSolvex0
set_option maxRecDepth 100000
set_option maxHeartbeats 40000000
set_option linter.unusedVariables false
set_option linter.unusedSimpArgs false
namespace Go.Proofs.Ytaakoedphmeenaa.WT
open Go Go.RowKit Go.X Go.D Go.Proofs.Ytaakoedphmeenaa.WA Go.Proofs.Ytaakoedphmeenaa.WR
theorem revInt_w (N : Nat) (s : (List Int)) (aa : Option Nat) (ab : Nat) (al : List Value) (ac : List Value) (X : List (Option Nat)) (w : World) (S : Nat → Prop) (hL : Go.X.Loc X [] w w [aa] [zab ([] ++ (al ++ ac))]) (au : Els rI (vH w S [aa] w) al s) (aA : (al ++ ac).length = ab * rI.sz) (r : (List Int)) (h : revInt N s = some r) :
  Calls Try.prog 35 #[(osv aa 0 s.length ab)] w (fun e w' => ∃ (ae : List Value) (am : List Value), e = Ending.returned (Value.tuple #[]) ∧ Go.X.Loc X [] w w' [aa] [zab ([] ++ (ae ++ am))] ∧ Keep w.heap.size [aa] w [aa] w' ∧ List.length s = List.length r ∧ Els rI (vH w S [aa] w') ae r ∧ (ae ++ am).length = ab * rI.sz ∧ True) := by
 unfold revInt at h
 refine calls_of (l := [(osv aa 0 s.length ab)]) (rl := []) (n := 28) Try.func35 rfl rfl rfl (zaj rfl) ?_
 refine zam (zah rfl (zag (zae (v := (osv aa 0 s.length ab)) rfl (zag (zcl (pre := []) (r := rI) (xs := s) zan rfl (hL.at 0 rfl rfl) au rfl rfl (zag (OpY.sub (z := (iw ((s.length : Int) - 1))) rfl rfl rfl (zag (zai (v := (zI 0)) rfl (zag (zai (v := (zI (iw ((s.length : Int) - 1)))) rfl (zar ?_))))))))))))
 obtain ⟨bb, aB, aZ⟩ := zee h
 refine zbt (fun e w' => ∃ (az : (List Int)) (af : List Value) (u : Env), az = bb ∧ e = upds [(0, (osv aa 0 s.length ab))] u ∧ Go.X.Loc X [] w w' [aa] [zab ([] ++ (af ++ ac))] ∧ Keep w.heap.size [aa] w [aa] w' ∧ Els rI (vH w S [aa] w') af az ∧ s.length = List.length az ∧ (af ++ ac).length = ab * rI.sz ∧ True) ?_ ?_
 ·
  refine zbc ?_
  refine zbx aB (fun (ss : ((List Int) × Int × Int)) (e : Env) (w' : World) => match ss with | (an, ag, ah) => ∃ (ai : List Value) (u : Env), e = upds [(0, (osv aa 0 s.length ab)), (2, (zI ag)), (3, (zI ah))] u ∧ Go.X.Loc X [] w w' [aa] [zab ([] ++ (ai ++ ac))] ∧ Keep w.heap.size [aa] w [aa] w' ∧ Els rI (vH w S [aa] w') ai an ∧ s.length = List.length an ∧ (ai ++ ac).length = ab * rI.sz ∧ True) ⟨al, _, (zef ⟨rfl, rfl, rfl, trivial⟩), hL, zbp, au, rfl, aA, trivial⟩ ?_
  rintro ⟨an, ag, ah⟩ oo _ w10 ⟨ai, u, rfl, ao, K10, aj, ak, av, -⟩ h aC
  rw [revInt_b1] at h
  refine zam (zam (zah rfl (zag (zae (v := (zI ag)) rfl (zag (zae (v := (zI ah)) rfl (zag (zcf ((ag : Int) < ah) rfl rfl zbg (zar (zbi ((ag : Int) < ah) rfl (fun ap => ?_) (fun ap => ?_)))))))))))
  ·
   replace h := ite_t ap h
   refine zbm (zam (zbc ?_))
   obtain ⟨aD, aE, bc, a0, bd, h⟩ := zix h
   obtain ⟨ar, ad⟩ := ao.row_some 0 rfl rfl (zev (pre := []) aj a0 (Nat.lt_of_sub_eq_succ rfl))
   obtain ⟨be, q14, bf, bg⟩ := zeo (pre := []) (sp := ac) aj a0
   obtain rfl := bf
   obtain ⟨aF, aG, bh, bi, bj, h⟩ := zix h
   obtain ⟨bk, q21, bl, bm⟩ := zeo (pre := []) (sp := ac) aj bi
   obtain rfl := bl
   refine zcx 12 [] [2, 3] (fun W1 => [.det (osv aa 0 s.length ab), .det (zI ag), .det (osv aa 0 s.length ab), .det (zI ah), .det (osv aa 0 s.length ab), .det (zI ah), .det (zal (some ⟨ar, (0 + aE * rI.sz), none⟩)), .det (zI aD), .det (osv aa 0 s.length ab), .det (zI ag), .det (zal (some ⟨ar, (0 + aG * rI.sz), none⟩)), .det (zI aF)]) mixed rfl rfl rfl (fun _ => rfl) (fun _ => rfl) ?_ ?_
   ·
    intro W1 _
    exact trivial
   intro bn aH
   obtain ⟨aq, K11⟩ := zl ao aH
   refine zaw (fun _ _ => zaq (zae rfl (er rfl))) (zaw (fun _ _ => zaq (zae rfl (er rfl))) (zaw (fun _ _ => zaq (zae rfl (er rfl))) (zaw (fun _ _ => zaq (zae rfl (er rfl))) (zaw (fun _ _ => zaq (zae rfl (er rfl))) (zaw (fun _ _ => zaq (zae rfl (er rfl))) (zaw (fun _ _ => zaq (zbl (r := rI) (b := ar) (o := 0) (n := aE) (m := s.length) (xs := an) (q := (0 + aE * rI.sz)) zan ti3 (zen ad) ak rfl bc bd rfl (er rfl))) ?_))))))
   refine zaw (fun _ aI => zaq (zby zay rfl rfl (zer ad ((aq.ext aI).at 0 rfl rfl)) bg (er rfl))) (zaw (fun _ _ => zaq (zae rfl (er rfl))) (zaw (fun _ _ => zaq (zae rfl (er rfl))) (zaw (fun _ _ => zaq (zbl (r := rI) (b := ar) (o := 0) (n := aG) (m := s.length) (xs := an) (q := (0 + aG * rI.sz)) zan ti3 (zen ad) ak rfl bh bj rfl (er rfl))) (zaw (fun _ aJ => zaq (zby zay rfl rfl (zer ad ((aq.ext aJ).at 0 rfl rfl)) bm (er rfl))) (DrH.fin ?_)))))
   rintro w24 Z32 aK bo ⟨-⟩ bp
   have bq := @zhb bn Z32
   obtain ⟨aL, K12⟩ := zl aq aK
   obtain ⟨x12, a1, a2, q26, a3, h⟩ := zix h
   refine RlL.op (zbl (r := rI) (b := ar) (o := 0) (n := a1) (m := s.length) (xs := an) (q := (0 + a1 * rI.sz)) zan ti3 (zen ad) ak rfl a2 a3 rfl ?_)
   refine ⟨?_, ?_⟩
   ·
    refine zao (i := 2) rfl rfl (zaq (zae rfl zrr)) (zao (i := 3) rfl rfl (zaq (zae rfl zrr)) ?_)
    exact zch
   obtain ⟨a4, n13, br, q30, a5, h⟩ := zux h
   obtain rfl := zin a2 br
   have bu := ((aj.mono (K11 S)).mono (K12 S))
   refine RlL.op0 (zdg (pre := []) (r := rI) (vs := [(zI aD)]) (a := aD) ti3 rfl rfl rfl rfl aL 0 (congrArg some ad) rfl bu a3 rfl a5 ?_)
   have aw : s.length = List.length a4 := by rw [a5, List.length_set]; exact ak
   intro w25 aM aN aO aP bw
   have aQ : (aM ++ ac).length = ab * rI.sz := zhc av bw
   have K13 := ks w aO
   refine ⟨?_, ?_⟩
   ·
    refine zao (i := 2) rfl rfl (zaq (zae rfl zrr)) (zao (i := 3) rfl rfl (zaq (zae rfl zrr)) ?_)
    exact zch
   obtain ⟨x14, a6, a7, q35, a8, h⟩ := zix h
   refine RlL.op (zbl (r := rI) (b := ar) (o := 0) (n := a6) (m := s.length) (xs := a4) (q := (0 + a6 * rI.sz)) zan ti3 (zen ad) aw rfl a7 a8 rfl ?_)
   refine ⟨?_, ?_⟩
   ·
    exact zch
   refine RlL_nil ?_
   obtain ⟨a9, n15, bx, q39, ba, h⟩ := zux h
   obtain rfl := zin a7 bx
   have bz := (aP.mono (K13 S))
   refine zdj (zdg (pre := []) (r := rI) (vs := [(zI aF)]) (a := aF) ti3 rfl rfl rfl rfl aN 0 (congrArg some ad) rfl bz a8 rfl ba ?_)
   have aR : s.length = List.length a9 := by rw [ba, List.length_set]; exact aw
   intro w26 ax aS aT aU bA
   have aV : (ax ++ ac).length = ab * rI.sz := zhc aQ bA
   have K14 := ks w aT
   refine zar (zbe (zah rfl (zag (zae (v := (zI ag)) rfl ?_))))
   refine zag (zca (z := (iw (ag + 1))) rfl rfl rfl (zag (zae (v := (zI ah)) rfl (zag (OpY.sub (z := (iw (ah - 1))) rfl rfl rfl (zag (zai (v := (zI (iw (ag + 1)))) rfl (zag (zai (v := (zI (iw (ah - 1)))) rfl (zar ?_))))))))))
   have bB := (aU.mono (K14 S))
   obtain rfl := zad h
   refine zap ⟨(a9, (iw (ag + 1)), (iw (ah - 1))), rfl, ?_⟩
   exact ⟨ax, _, (zef ⟨rfl, rfl, rfl, trivial⟩), aS, (zak (zak (zak (zak K10 K11) K12) K13) K14), bB, aR, aV, trivial⟩
  replace h := ite_f ap h
  refine zcd rfl ?_
  obtain rfl := zad h
  obtain rfl := aC _ rfl
  replace h := aZ
  try dsimp only at h
  refine zap ?_
  exact ⟨an, ai, _, rfl, (zef zrt), ao, K10, aj, ak, av, trivial⟩
 rintro _ w27 ⟨az, af, u, rfl, rfl, aW, K15, aX, ay, aY, -⟩
 replace h := aZ
 try dsimp only at h
 refine Swp.nil ?_
 obtain rfl := zad h
 refine ⟨[], trivial, ?_⟩
 exact ⟨af, ac, rfl, (by have h9 := aW; (try rw [ay] at h9); exact h9), K15, ay, aX, aY, trivial⟩
theorem tchoose1_w (N : Nat) (other : Int) (ca : (List Bool)) (cb : (List (List UInt8))) (cc : (List UInt8)) (ae : Nat) (ab : Value) (af : Nat) (ad : Value) (ag : Nat) (w : World) (S : Nat → Prop) (ca_at : At (vH w S [] w) ae 0 [ab]) (aj : Rs rBool (vH w S [] w) ab ca) (cb_at : At (vH w S [] w) af 0 [ad]) (ak : Rs rStr (vH w S [] w) ad cb) (cc_at : At (vH w S [] w) ag 0 [(zS cc)]) (r : Bool) (h : tchoose1 N other ca cb cc = some r) :
  Calls Try.prog 62 #[(zI other), (zal (some ⟨ae, 0, none⟩)), (zal (some ⟨af, 0, none⟩)), (zal (some ⟨ag, 0, none⟩))] w (Ret w (fun v w' => (zac r) = v ∧ True)) := by
 unfold tchoose1 at h
 have hL : vL w w [] [] := Go.X.Loc.begin0 w
 refine calls_of (l := [(zI other), (zal (some ⟨ae, 0, none⟩)), (zal (some ⟨af, 0, none⟩)), (zal (some ⟨ag, 0, none⟩))]) (rl := [.tmp 5]) (n := 18) Try.func62 rfl rfl rfl (zaj rfl) ?_
 refine zam (zah rfl (zag (zai (v := zF) rfl (zar (zam ?_)))))
 obtain ⟨x1, n3, q4, q5, -, h⟩ := zix h
 obtain ⟨b6, o7, c8, vs9, aB, q11, aC, aF⟩ := zcy aj q5
 obtain rfl := aF
 by_cases aa : x1 = true
 ·
  replace h := ite_t aa h
  obtain ⟨ai, al, aG, aD, -, h⟩ := zix h
  obtain ⟨aH, aE, c10, aI, aJ, q17, aK, aL⟩ := zcy ak aD
  obtain rfl := aL
  refine zcx 10 [] [] (fun W1 => [.det ab, .det (zI other), .det (zal (some ⟨b6, (o7 + n3 * rBool.sz), none⟩)), .det (zac x1), .det (zac x1), .det ad, .det (zI other), .det (zal (some ⟨aH, (aE + al * rStr.sz), none⟩)), .det (zS ai), .det (zS cc)]) mixed rfl rfl rfl (fun _ => rfl) (fun _ => rfl) ?_ ?_
  ·
   intro W1 _
   exact trivial
  intro aM am
  obtain ⟨ac, K10⟩ := zl hL am
  refine zaw (fun _ an => zaq (zbu zcs rfl rfl zek (zbz ((ke ac an) S) (zbz (K10 S) ca_at)) (er rfl))) (zaw (fun _ _ => zaq (zae rfl (er rfl))) (zaw (fun _ _ => zaq (zbs (r := rBool) (v := ab) (n := n3) (m := (o7 + n3 * rBool.sz)) zcs ti4 rfl aB rfl q4 q5 rfl (er rfl))) (zaw (fun _ ao => zaq (zbu zdp rfl rfl zek (zbz ((ke ac ao) S) (zbz (K10 S) aC)) (er rfl))) (zaw (fun _ _ => zaq (zae rfl (er rfl))) (zaw (fun _ ap => zcp rfl rfl aa (zbu zaz rfl rfl zek (zbz ((ke ac ap) S) (zbz (K10 S) cb_at)) (er rfl))) (zaw (fun _ _ => zcp rfl rfl aa (zae rfl (er rfl))) ?_))))))
  refine zaw (fun _ _ => zcp rfl rfl aa (zbs (r := rStr) (v := ad) (n := al) (m := (aE + al * rStr.sz)) zaz ti9 rfl aJ rfl aG aD rfl (er rfl))) (zaw (fun _ aq => zcp rfl rfl aa (zbu zax rfl rfl zek (zbz ((ke ac aq) S) (zbz (K10 S) aK)) (er rfl))) (zaw (fun _ ar => zcp rfl rfl aa (zbu zax rfl rfl zek (zbz ((ke ac ar) S) (zbz (K10 S) cc_at)) (er rfl))) (zdd ?_)))
  rintro w21 Z30 au aN ⟨-⟩ aO
  have aP := @zhb aM Z30
  have av := ac.ext au
  refine zbb rfl rfl aa (OpY.sEql (x := ai) (y := cc) rfl rfl (zag (zbo (v := (zac (decide (ai = cc)))) rfl aa rfl (zag (zai (v := (zac (decide (ai = cc)))) rfl (zar (zbv ?_)))))))
  obtain rfl := zad h
  refine ⟨[(zac (decide (ai = cc)))], zrt, ⟨_, rfl, av.done, ?_⟩⟩
  exact zrt
 replace h := ite_f aa h
 refine zcx 10 [] [] (fun W1 => [.det ab, .det (zI other), .det (zal (some ⟨b6, (o7 + n3 * rBool.sz), none⟩)), .det (zac x1), .det (zac x1), .det undef, .det undef, .det undef, .det undef, .det undef]) mixed rfl rfl rfl (fun _ => rfl) (fun _ => rfl) ?_ ?_
 ·
  intro W1 _
  exact trivial
 intro aQ aw
 obtain ⟨ah, K16⟩ := zl hL aw
 refine zaw (fun _ ax => zaq (zbu zcs rfl rfl zek (zbz ((ke ah ax) S) (zbz (K16 S) ca_at)) (er rfl))) (zaw (fun _ _ => zaq (zae rfl (er rfl))) (zaw (fun _ _ => zaq (zbs (r := rBool) (v := ab) (n := n3) (m := (o7 + n3 * rBool.sz)) zcs ti4 rfl aB rfl q4 q5 rfl (er rfl))) (zaw (fun _ ay => zaq (zbu zdp rfl rfl zek (zbz ((ke ah ay) S) (zbz (K16 S) aC)) (er rfl))) (zaw (fun _ _ => zaq (zae rfl (er rfl))) (zaw (fun _ _ => zdh rfl rfl (zeg aa) (er rfl)) (zaw (fun _ _ => zdh rfl rfl (zeg aa) (er rfl)) ?_))))))
 refine zaw (fun _ _ => zdh rfl rfl (zeg aa) (er rfl)) (zaw (fun _ _ => zdh rfl rfl (zeg aa) (er rfl)) (zaw (fun _ _ => zdh rfl rfl (zeg aa) (er rfl)) (zdd ?_)))
 rintro w33 Z41 az aR ⟨-⟩ aS
 have aT := @zhb aQ Z41
 have aA := ah.ext az
 refine zbj rfl rfl (zeg aa) (zag (zbk (v := zF) rfl (zeg aa) rfl (zag (zai (v := zF) rfl (zar (zbv ?_))))))
 obtain rfl := zad h
 refine ⟨[zF], zrt, ⟨_, rfl, aA.done, ?_⟩⟩
 exact zrt
theorem tchoose_w (N : Nat) : ∀ (l : (List TClass)) (order : (List Int)) (words : (List (List UInt8))) (known : (List Bool)) (aG : Value) (ae : Value) (aa : Option Nat) (ac : Nat) (af : List Value) (ah : List Value) (ab : Option Nat) (ad : Nat) (ai : List Value) (ag : List Value) (X : List (Option Nat)) (w : World) (S : Nat → Prop) (hL : Go.X.Loc X [] w w [aa, ab] [zab ([] ++ (af ++ ah)), zab ([] ++ (ai ++ ag))]) (bH : Rs rTClass (vH w S [aa, ab] w) aG l) (au : Rs rI (vH w S [aa, ab] w) ae order) (al : Els rStr (vH w S [aa, ab] w) af words) (am : (af ++ ah).length = ac * rStr.sz) (an : Els rBool (vH w S [aa, ab] w) ai known) (ao : (ai ++ ag).length = ad * rBool.sz) (r : (Bool × Bool × (List (List UInt8)) × (List Bool))) (h : tchoose N l order words known = some r), Calls Try.prog 36 #[aG, ae, (osv aa 0 words.length ac), (osv ab 0 known.length ad)] w (fun e w' => ∃ (aH : List Value) (aX : List Value) (aI : List Value) (aY : List Value), e = Ending.returned (Value.tuple #[(bif r.1 then (osv aa 0 words.length ac) else zau none 0 0), (zac r.2.1)]) ∧ Go.X.Loc X [] w w' [aa, ab] [zab ([] ++ (aH ++ aX)), zab ([] ++ (aI ++ aY))] ∧ Keep w.heap.size [aa, ab] w [aa, ab] w' ∧ List.length words = List.length r.2.2.1 ∧ Els rStr (vH w S [aa, ab] w') aH r.2.2.1 ∧ (aH ++ aX).length = ac * rStr.sz ∧ List.length known = List.length r.2.2.2 ∧ Els rBool (vH w S [aa, ab] w') aI r.2.2.2 ∧ (aI ++ aY).length = ad * rBool.sz ∧ True) := by
 induction N with
 | zero => intro l order words known aG ae aa ac af ah ab ad ai ag X w S hL bH au al am an ao r h; cases (show (none : Option (Bool × Bool × (List (List UInt8)) × (List Bool))) = some r from h)
 | succ N ih =>
  intro l order words known aG ae aa ac af ah ab ad ai ag X w S hL bH au al am an ao r h
  replace h : tchoose_step N (tchoose N) l order words known = some r := h
  unfold tchoose_step at h
  refine calls_of (l := [aG, ae, (osv aa 0 words.length ac), (osv ab 0 known.length ad)]) (rl := [.tmp 8, .tmp 9]) (n := 61) Try.func36 rfl rfl rfl (zaj rfl) ?_
  refine zam (zah rfl (zag (zdo (cs := [(osv aa 0 words.length ac)]) rfl (zes (zem aa 0 words.length ac)) hL ?_)))
  intro b3 w4 c4 c5
  have K6 := ks w c5
  refine zag (zdo (cs := [(osv ab 0 known.length ad)]) rfl (zes (zem ab 0 known.length ad)) c4 ?_)
  intro b8 w9 aJ bI
  have K10 := ks w bI
  refine zag (zai (v := zN) rfl (zag (zai (v := zF) rfl (zar (zam (zam (zah rfl (zag (zae (v := ae) rfl ?_)))))))))
  have bJ := ((au.mono (K6 S)).mono (K10 S))
  refine zag (zcc (v := ae) zan rfl bJ (zag (zdb (((order.length : Int) : Int) = 0) rfl rfl zbg (zar (zbi (((order.length : Int) : Int) = 0) rfl (fun a0 => ?_) (fun a0 => ?_))))))
  ·
   replace h := ite_t a0 h
   refine zam (zah rfl (zag (zav (v := (osv aa 0 words.length ac)) zaz rfl rfl (aJ.at 1 rfl rfl) rfl (zag (zai (v := (osv aa 0 words.length ac)) rfl (zag (zai (v := zT) rfl (zar ?_))))))))
   have a9 := aJ.pick [2, 3] rfl rfl rfl
   have bK : Go.X.Loc X [] w w9 [aa, ab] [zab ([] ++ (af ++ ah)), zab ([] ++ (ai ++ ag))] := a9.1
   have K11 := ks w a9.2
   refine zbv ?_
   obtain rfl := zad h
   refine ⟨[(osv aa 0 words.length ac), zT], ⟨rfl, rfl, trivial⟩, ?_⟩
   have c6 := (((al.mono (K6 S)).mono (K10 S)).mono (K11 S))
   have c7 := (((an.mono (K6 S)).mono (K10 S)).mono (K11 S))
   exact ⟨af, ah, ai, ag, rfl, bK, (zak (zak K6 K10) K11), rfl, c6, am, rfl, c7, ao, trivial⟩
  replace h := ite_f a0 h
  refine zbm (zam (zah rfl (zag (zae (v := ae) rfl ?_))))
  obtain ⟨aQ, cC, c8, cD, -, h⟩ := zix h
  obtain ⟨b10, c9, c10, da, db, q14, dc, dd⟩ := zcy bJ cD
  obtain rfl := dd
  refine zag (zbs (r := rI) (v := ae) (n := cC) (m := (c9 + cC * rI.sz)) zan ti3 rfl db rfl c8 cD rfl (zag (zbu (v := (zI aQ)) zay rfl rfl zek dc (zag (zai (v := (zI aQ)) rfl (zar (zam (zah rfl (zag (zav (v := (osv ab 0 known.length ad)) zcs rfl rfl (aJ.at 0 rfl rfl) rfl (zag (zae (v := (zI aQ)) rfl ?_))))))))))))
  obtain ⟨x11, cE, cF, dh, cG, h⟩ := zix h
  have cH := ((an.mono (K6 S)).mono (K10 S))
  obtain ⟨di, ba⟩ := aJ.row_some 3 rfl rfl (zev (pre := []) cH dh (Nat.lt_of_sub_eq_succ rfl))
  refine zag (zbl (r := rBool) (b := di) (o := 0) (n := cE) (m := known.length) (xs := known) (q := (0 + cE * rBool.sz)) zcs ti4 (zen ba) rfl rfl cF cG rfl ?_)
  obtain ⟨dj, n12, dk, q22, cI, h⟩ := zux h
  obtain rfl := zin cF dk
  refine zdj (zdg (pre := []) (r := rBool) (vs := [zT]) (a := true) ti4 rfl rfl rfl rfl aJ 3 (congrArg some ba) rfl cH cG rfl cI ?_)
  have bL : known.length = List.length dj := by rw [cI, List.length_set]
  intro bM a1 bN bO bP dl
  have bQ : (a1 ++ ag).length = ad * rBool.sz := by have := ao; rw [List.length_append] at this ⊢; rw [dl]; exact this
  have K12 := ks w bO
  refine zar (zam (zam (zah rfl (zag (zae (v := aG) rfl ?_)))))
  refine zag (zae (v := (zI aQ)) rfl ?_)
  obtain ⟨bR, bS, dm, cJ, -, h⟩ := zix h
  have cK := (((bH.mono (K6 S)).mono (K10 S)).mono (K12 S))
  obtain ⟨b12, cL, c11, dn, dp, q29, dq, dr⟩ := zcy cK cJ
  obtain ⟨v10, bb, v12, rfl, k10, cM, k12, -⟩ := rTClass_open dr
  refine zag (zbs (r := rTClass) (v := aG) (n := bS) (m := (cL + bS * rTClass.sz)) zas ti56 rfl dp rfl dm cJ rfl ?_)
  have ds := (dq.part (us := [bb]) 3 rfl)
  refine zag (zat (q := (cL + bS * rTClass.sz) + 3) zbq rfl ti27 rfl rfl rfl (zag (zbu (v := bb) zaz rfl rfl zek ds (zag (zcc (v := bb) zaz rfl cM (zag (zae (v := (zI 0)) rfl (zar ?_))))))))
  obtain ⟨dt, bT, bU⟩ := zee h
  refine zbt (fun e w' => ∃ (aq : (List (List UInt8))) (ap : (List Bool)) (aK : List Value) (aB : List Value) (aC : List Value) (aR : List Value) (u : Env), (Sum.inl (aq, ap)) = dt ∧ e = upds [(2, (osv aa 0 words.length ac)), (3, (osv ab 0 known.length ad)), (7, (zal (some ⟨b8, 0, none⟩))), (10, (zI aQ))] u ∧ Go.X.Loc X [] w w' [aa, ab, some b8] [zab ([] ++ (aB ++ aK)), zab ([] ++ (aR ++ aC)), zab [(osv ab 0 known.length ad)]] ∧ Keep w.heap.size [some b8, some b3, aa, ab] bM [aa, ab, some b8] w' ∧ Els rStr (vH w S [aa, ab, some b8] w') aB aq ∧ words.length = List.length aq ∧ (aB ++ aK).length = ac * rStr.sz ∧ Els rBool (vH w S [aa, ab, some b8] w') aR ap ∧ known.length = List.length ap ∧ (aR ++ aC).length = ad * rBool.sz ∧ True) ?_ ?_
  ·
   refine zbc ?_
   have bc := bN.pick [2, 3, 1, 0] rfl rfl rfl
   have bV : Go.X.Loc X [] w bM [aa, ab, some b3, some b8] [zab ([] ++ (af ++ ah)), zab ([] ++ (a1 ++ ag)), zab [(osv aa 0 words.length ac)], zab [(osv ab 0 known.length ad)]] := bc.1
   have K13 := ks w bc.2
   have du := ((((al.mono (K6 S)).mono (K10 S)).mono (K12 S)).mono (K13 S))
   have dv := ((bP.mono (K12 S)).mono (K13 S))
   refine zbx bT (fun (ss : ((List (List UInt8)) × (List Bool) × Int)) (e : Env) (w' : World) => match ss with | (aj, ak, aP) => ∃ (av : List Value) (ay : List Value) (az : List Value) (aw : List Value) (u : Env), e = upds [(0, aG), (1, ae), (2, (osv aa 0 words.length ac)), (3, (osv ab 0 known.length ad)), (6, (zal (some ⟨b3, 0, none⟩))), (7, (zal (some ⟨b8, 0, none⟩))), (10, (zI aQ)), (29, bb), (30, (zI (bR.words.length : Int))), (31, (zI aP))] u ∧ Go.X.Loc X [] w w' [aa, ab, some b3, some b8] [zab ([] ++ (ay ++ av)), zab ([] ++ (aw ++ az)), zab [(osv aa 0 words.length ac)], zab [(osv ab 0 known.length ad)]] ∧ Keep w.heap.size [some b8, some b3, aa, ab] bM [aa, ab, some b3, some b8] w' ∧ Els rStr (vH w S [aa, ab, some b3, some b8] w') ay aj ∧ words.length = List.length aj ∧ (ay ++ av).length = ac * rStr.sz ∧ Els rBool (vH w S [aa, ab, some b3, some b8] w') aw ak ∧ known.length = List.length ak ∧ (aw ++ az).length = ad * rBool.sz ∧ True) ⟨ah, af, ag, a1, _, (zef ⟨rfl, rfl, rfl, rfl, rfl, rfl, rfl, rfl, rfl, rfl, trivial⟩), bV, K13, du, rfl, am, dv, bL, bQ, trivial⟩ ?_
   rintro ⟨aj, ak, aP⟩ oo _ dw ⟨av, ay, az, aw, u, rfl, bd, K14, be, aL, aS, bf, ax, aT, -⟩ h bg
   rw [tchoose_b1] at h
   refine zam (zah rfl (zag (zcf ((aP : Int) < (bR.words.length : Int)) rfl rfl zbg (zar (zam (zbi ((aP : Int) < (bR.words.length : Int)) rfl (fun a2 => ?_) (fun a2 => ?_)))))))
   ·
    replace h := ite_t a2 h
    refine zbm (zam (zbc (zam (zah rfl ?_))))
    obtain ⟨aZ, cN, dx, cO, -, h⟩ := zix h
    have dy := (cM.mono (K14 S))
    obtain ⟨b13, dz, c12, dA, dB, q35, dC, dD⟩ := zcy dy cO
    obtain rfl := dD
    refine zag (zbs (r := rStr) (v := bb) (n := cN) (m := (dz + cN * rStr.sz)) zaz ti9 rfl dB rfl dx cO rfl (zag (zbu (v := (zS aZ)) zax rfl rfl zek dC (zag (zdw (cs := [(zaf (s8 []))]) ti9 rfl bd ?_)))))
    intro aU w12 bW bX
    have K15 := ks w bX
    refine zdj (zdi (vs := [(zS aZ)]) ti9 rfl rfl rfl rfl (zej rfl zeu) bW 0 rfl rfl (zaj rfl) ?_)
    intro w13 aD bY
    have K16 := ks w bY
    refine zar (zam (zam (zah rfl (zag (zae (v := aG) rfl ?_)))))
    refine zag (zae (v := (zI aQ)) rfl ?_)
    obtain ⟨dE, bZ, dF, cP, -, h⟩ := zix h
    have cQ := (((cK.mono (K14 S)).mono (K15 S)).mono (K16 S))
    obtain ⟨b15, cR, c13, dG, dH, q41, dI, dJ⟩ := zcy cQ cP
    obtain ⟨v13, v14, b0, rfl, k13, k14, dK, -⟩ := rTClass_open dJ
    refine zag (zbs (r := rTClass) (v := aG) (n := bZ) (m := (cR + bZ * rTClass.sz)) zas ti56 rfl dH rfl dF cP rfl ?_)
    have dL := (dI.part (us := [b0]) 4 rfl)
    refine zag (zat (q := (cR + bZ * rTClass.sz) + 4) zbq rfl ti22 rfl rfl rfl (zag (zbu (v := b0) zan rfl rfl zek dL (zag (OpY.makeFunc (vs := [(zal (some ⟨b8, 0, none⟩)), (zal (some ⟨b3, 0, none⟩)), (zal (some ⟨aU, 0, none⟩))]) rfl ?_)))))
    obtain ⟨cS, dM, h⟩ := zee h
    have b1 := ((bf.mono (K15 S)).mono (K16 S))
    have b2 := ((be.mono (K15 S)).mono (K16 S))
    refine zag (zce en50 rfl rfl (containsInt_w N dE.apart (fun dN => tchoose1 N dN ak aj aZ) b0 (Value.func (.func 62) #[] #[(zal (some ⟨b8, 0, none⟩)), (zal (some ⟨b3, 0, none⟩)), (zal (some ⟨aU, 0, none⟩))]) _ Any (dK.mono vw_any) (fun w9 bh dO z9 dP => ⟨62, [(zal (some ⟨b8, 0, none⟩)), (zal (some ⟨b3, 0, none⟩)), (zal (some ⟨aU, 0, none⟩))], rfl, en62, (tchoose1_w N dO ak aj aZ b8 (osv ab 0 known.length ad) b3 (osv aa 0 words.length ac) aU _ Any (own_any ((aD.at 4 rfl rfl).ext bh)) ((zei (pre := []) (o := 0) (n := known.length) (cap := ad) (aD.at 2 rfl rfl) b1 vw_any rfl rfl ax aT).mono (any_ext bh)) (own_any ((aD.at 3 rfl rfl).ext bh)) ((zei (pre := []) (o := 0) (n := words.length) (cap := ac) (aD.at 1 rfl rfl) b2 vw_any rfl rfl aL aS).mono (any_ext bh)) (own_any ((aD.at 0 rfl rfl).ext bh)) z9 dP)⟩) cS dM) ?_)
    rintro _ dQ b4 ⟨rfl, -⟩
    obtain ⟨aM, K17⟩ := zl aD b4
    refine zar ?_
    refine zci cS rfl (fun a3 => ?_) (fun a3 => ?_)
    ·
     replace h := ite_t a3 h
     refine zcd rfl (zah rfl (zag (zca (z := (iw (aP + 1))) rfl rfl rfl ?_)))
     refine zag (zae (v := (zI (iw (aP + 1)))) rfl (zar ?_))
     have bi := aM.pick [1, 2, 3, 4] rfl rfl rfl
     have b5 : Go.X.Loc X [] w dQ [aa, ab, some b3, some b8] [zab ([] ++ (ay ++ av)), zab ([] ++ (aw ++ az)), zab [(osv aa 0 words.length ac)], zab [(osv ab 0 known.length ad)]] := bi.1
     have K18 := ks w bi.2
     have dR := ((b2.mono (K17 S)).mono (K18 S))
     have dS := ((b1.mono (K17 S)).mono (K18 S))
     obtain rfl := zad h
     refine zap ⟨(aj, ak, (iw (aP + 1))), rfl, ?_⟩
     exact ⟨av, ay, az, aw, _, (zef ⟨rfl, rfl, rfl, rfl, rfl, rfl, rfl, rfl, rfl, rfl, trivial⟩), b5, (zak (zak (zak (zak K14 K15) K16) K17) K18), dR, aL, aS, dS, ax, aT, trivial⟩
    replace h := ite_f a3 h
    refine zbm (zam (zah rfl (zag (zav (v := (osv aa 0 words.length ac)) zaz rfl rfl (aM.at 3 rfl rfl) rfl ?_))))
    refine zag (zae (v := (zI aQ)) rfl (zag (zav (v := (zS aZ)) zax rfl rfl (aM.at 0 rfl rfl) rfl ?_)))
    obtain ⟨x17, cT, cU, dT, cV, h⟩ := zix h
    have cW := (b2.mono (K17 S))
    obtain ⟨dU, bj⟩ := aM.row_some 1 rfl rfl (zev (pre := []) cW dT (Nat.lt_of_sub_eq_succ rfl))
    refine zag (zbl (r := rStr) (b := dU) (o := 0) (n := cT) (m := words.length) (xs := aj) (q := (0 + cT * rStr.sz)) zaz ti9 (zen bj) aL rfl cU cV rfl ?_)
    obtain ⟨cX, n17, dV, q50, cY, h⟩ := zux h
    obtain rfl := zin cU dV
    refine zdj (zdg (pre := []) (r := rStr) (vs := [(zS aZ)]) (a := aZ) ti9 rfl rfl rfl rfl aM 1 (congrArg some bj) rfl cW cV rfl cY ?_)
    have aA : words.length = List.length cX := by rw [cY, List.length_set]; exact aL
    intro w15 bk a4 b6 b7 dW
    have b9 : (bk ++ av).length = ac * rStr.sz := zhc aS dW
    have K19 := ks w b6
    refine zar (zam ?_)
    obtain ⟨ca, dX, h⟩ := zee h
    obtain ⟨dY, dZ, d0, q55, d1, d2, d3⟩ := cut_some dX
    refine Swp.drawF (O := [some aU, aa, ab, some b3, some b8]) [5] [0, 1, 3, 4, 6, 7, 8, 9, 10] [0, 1, 3, 4] [(2, 49)] [(47, aG), (48, ae), (50, (osv aa 0 words.length ac)), (51, (osv ab 0 known.length ad))] (fun f v O w' => Rs rI (vH w S O w') v (bif Nat.beq f 2 then ca else [])) w.heap.size mixed rfl rfl rfl rfl (fun b hb => a4.own.lt b hb) a4.size (fun _ _ _ _ _ _ h hs => h.mono (hs _)) (FloatP.cons rfl (fun w1 O1 hK hs hO => zaq (OpY.cutRoX (l := dY) (h' := dZ) zan ti3 rfl (((((((bJ.mono (K12 S)).mono (K14 S)).mono (K15 S)).mono (K16 S)).mono (K17 S)).mono (K19 S)).mono (hK S)) (.inr ⟨_, _, rfl, by rw [← d0]; rfl⟩) (.inl ⟨rfl, by omega⟩) d1 d2 d3 (fun v kf => ⟨Ext.refl _, kf⟩))) FloatP.nil) ?_
    intro w16 cb
    obtain ⟨bl, K20⟩ := zl a4 cb
    refine ⟨?_, ?_⟩
    ·
     intro w17 cc
     have bm := bl.ext cc
     refine zao (i := 0) rfl rfl (zaq (zae rfl zrr)) (zao (i := 1) rfl rfl (zaq (zae rfl zrr)) (zao (i := 3) rfl rfl (zaq (zav (v := (osv aa 0 words.length ac)) zaz rfl rfl (bm.at 3 rfl rfl) rfl zrr)) (zao (i := 4) rfl rfl (zaq (zav (v := (osv ab 0 known.length ad)) zcs rfl rfl (bm.at 4 rfl rfl) rfl zrr)) ?_)))
     exact zch
    refine zdn (m := 0) [5] rfl rfl (fun q hq => ?_)
    obtain rfl := List.mem_singleton.1 hq
    refine zdv rfl ?_
    intro d4 V10 cd ce
    obtain ⟨bn, K21⟩ := zl bl cd
    have d5 : Rs rI (vH w S [some aU, aa, ab, some b3, some b8] d4) (V10 2) ca := ce (2, 49) (by decide) rfl
    obtain ⟨ar, d6, h⟩ := zee h
    have cg := bn.lendW [1, 2] rfl rfl rfl
    have d7 := ((((cQ.mono (K17 S)).mono (K19 S)).mono (K20 S)).mono (K21 S))
    have d8 := (((b7.mono (K19 S)).mono (K20 S)).mono (K21 S))
    have d9 := ((((b1.mono (K17 S)).mono (K19 S)).mono (K20 S)).mono (K21 S))
    refine zdt en36 rfl rfl (calls_args (by rw [← aA, ← ax]; first | done | rfl) (ih l ca cX ak aG (V10 2) aa ac bk av ab ad aw az [aa, ab] _ Any (by have h9 := cg; (try rw [aA] at h9); (try rw [ax] at h9); exact h9) (d7.mono (zcv [1, 2] rfl)) (d5.mono (zcv [1, 2] rfl)) (d8.mono (zcv [1, 2] rfl)) b9 (d9.mono (zcv [1, 2] rfl)) aT ar d6)) ?_
    rintro _ ch ⟨aE, aN, aF, aO, rfl, ci, K22, aV, cj, bo, aW, ck, bp, -⟩
    try rw [← aA]
    refine ⟨_, rfl, ?_⟩
    have bq := bn.backW [1, 2] [0, 3, 4] rfl rfl rfl rfl ci
    have a5 : Go.X.Loc X [] w ch [aa, ab, some aU, some b3, some b8] [zab ([] ++ (aE ++ aN)), zab ([] ++ (aF ++ aO)), zab [(zS aZ)], zab [(osv aa 0 words.length ac)], zab [(osv ab 0 known.length ad)]] := (by have h9 := bq.1; (try rw [← (aA.trans aV)] at h9); (try rw [← (ax.trans aW)] at h9); exact h9)
    have K23 := ks w bq.2
    have br : Els rStr (vH w S [aa, ab, some aU, some b3, some b8] ch) aE ar.2.2.1 := zcj (fun _ _ _ _ h => h) cj
    have bu : Els rBool (vH w S [aa, ab, some aU, some b3, some b8] ch) aF ar.2.2.2 := zcj (fun _ _ _ _ h => h) ck
    refine ⟨_, [6, 7, 8, 9, 10], [(46, (Value.tuple #[(bif ar.1 then (osv aa 0 words.length ac) else zau none 0 0), (zac ar.2.1)])), (53, (bif ar.1 then (osv aa 0 words.length ac) else zau none 0 0)), (54, (zac ar.2.1)), (13, (bif ar.1 then (osv aa 0 words.length ac) else zau none 0 0)), (14, (zac ar.2.1))], K23, (fun b hb => a5.own.lt b hb), a5.size, rfl, rfl, ?_⟩
    refine ⟨?_, ?_⟩
    ·
     intro w20 ea
     refine zao (i := 1) rfl rfl (zaq (zae rfl zrr)) (zao (i := 6) rfl rfl (zaq (zae rfl zrr)) (zao (i := 7) rfl rfl (zaq (zcm (vs := [(bif ar.1 then (osv aa 0 words.length ac) else zau none 0 0), (zac ar.2.1)]) (v := (bif ar.1 then (osv aa 0 words.length ac) else zau none 0 0)) rfl rfl zrr)) (zao (i := 8) rfl rfl (zaq (zcm (vs := [(bif ar.1 then (osv aa 0 words.length ac) else zau none 0 0), (zac ar.2.1)]) (v := (zac ar.2.1)) rfl rfl zrr)) (zao (i := 9) rfl rfl (zaq (zai rfl zrr)) (zao (i := 10) rfl rfl (zaq (zai rfl zrr)) ?_)))))
     exact zch
    refine RlF.fin ?_
    intro cZ V11 cp
    obtain ⟨bw, K24⟩ := zl a5 cp
    refine zam (zah rfl (zag (zae (v := (zac ar.2.1)) rfl (zar (zci ar.2.1 rfl (fun a6 => ?_) (fun a6 => ?_))))))
    ·
     replace h := ite_t a6 h
     refine zam (zah rfl (zag (zae (v := (bif ar.1 then (osv aa 0 words.length ac) else zau none 0 0)) rfl (zag (zai (v := (bif ar.1 then (osv aa 0 words.length ac) else zau none 0 0)) rfl (zag (zai (v := zT) rfl (zar ?_))))))))
     have bx := bw.pick [0, 1] rfl rfl rfl
     have cq : Go.X.Loc X [] w cZ [aa, ab] [zab ([] ++ (aE ++ aN)), zab ([] ++ (aF ++ aO))] := bx.1
     have K25 := ks w bx.2
     refine zbv ?_
     obtain rfl := zad h
     obtain rfl := bg _ rfl
     replace h := bU
     try dsimp only at h
     obtain rfl := zad h
     refine ⟨[(bif ar.1 then (osv aa 0 words.length ac) else zau none 0 0), zT], ⟨rfl, rfl, trivial⟩, ?_⟩
     have eb := ((br.mono (K24 S)).mono (K25 S))
     have ec := ((bu.mono (K24 S)).mono (K25 S))
     exact ⟨aE, aN, aF, aO, rfl, (by have h9 := cq; (try rw [(aA.trans aV)] at h9); (try rw [(ax.trans aW)] at h9); exact h9), (zak (zak (zak (zak (zak (zak (zak (zak (zak (zak (zak (zak K6 K10) K12) K14) K15) K16) K17) K19) K20) K21) K23) K24) K25), (aA.trans aV), eb, bo, (ax.trans aW), ec, bp, trivial⟩
    replace h := ite_f a6 h
    refine zbm (zbe (zah rfl (zag (zca (z := (iw (aP + 1))) rfl rfl rfl ?_))))
    refine zag (zae (v := (zI (iw (aP + 1)))) rfl (zar ?_))
    have bz := bw.pick [0, 1, 3, 4] rfl rfl rfl
    have cr : Go.X.Loc X [] w cZ [aa, ab, some b3, some b8] [zab ([] ++ (aE ++ aN)), zab ([] ++ (aF ++ aO)), zab [(osv aa 0 words.length ac)], zab [(osv ab 0 known.length ad)]] := bz.1
    have K26 := ks w bz.2
    have ed := ((br.mono (K24 S)).mono (K26 S))
    have ee := ((bu.mono (K24 S)).mono (K26 S))
    obtain rfl := zad h
    refine zap ⟨(ar.2.2.1, ar.2.2.2, (iw (aP + 1))), rfl, ?_⟩
    exact ⟨aN, aE, aO, aF, _, (zef ⟨rfl, rfl, rfl, rfl, rfl, rfl, rfl, rfl, rfl, rfl, trivial⟩), cr, (zak (zak (zak (zak (zak (zak (zak (zak (zak K14 K15) K16) K17) K19) K20) K21) K23) K24) K26), ed, (aA.trans aV), bo, ee, (ax.trans aW), bp, trivial⟩
   replace h := ite_f a2 h
   refine zcd rfl ?_
   have bA := bd.pick [0, 1, 3] rfl rfl rfl
   have ct : Go.X.Loc X [] w dw [aa, ab, some b8] [zab ([] ++ (ay ++ av)), zab ([] ++ (aw ++ az)), zab [(osv ab 0 known.length ad)]] := bA.1
   have K27 := ks w bA.2
   have ef := (be.mono (K27 S))
   have eg := (bf.mono (K27 S))
   obtain rfl := zad h
   obtain rfl := bg _ rfl
   replace h := bU
   try dsimp only at h
   refine zap ?_
   exact ⟨aj, ak, av, ay, az, aw, _, rfl, (zef ⟨rfl, rfl, rfl, rfl, trivial⟩), ct, (zak K14 K27), ef, aL, aS, eg, ax, aT, trivial⟩
  rintro _ w22 ⟨aq, ap, aK, aB, aC, aR, u, rfl, rfl, a7, K28, cu, bB, cv, bC, bD, cw, -⟩
  replace h := bU
  try dsimp only at h
  refine zam (zah rfl (zag (zav (v := (osv ab 0 known.length ad)) zcs rfl rfl (a7.at 2 rfl rfl) rfl (zag (zae (v := (zI aQ)) rfl ?_)))))
  obtain ⟨x20, c0, c1, eh, c2, h⟩ := zix h
  obtain ⟨ei, bE⟩ := a7.row_some 1 rfl rfl (zev (pre := []) bC eh (Nat.lt_of_sub_eq_succ rfl))
  refine zag (zbl (r := rBool) (b := ei) (o := 0) (n := c0) (m := known.length) (xs := ap) (q := (0 + c0 * rBool.sz)) zcs ti4 (zen bE) bD rfl c1 c2 rfl ?_)
  obtain ⟨ej, n20, ek, q66, c3, h⟩ := zux h
  obtain rfl := zin c1 ek
  refine zdj (zdg (pre := []) (r := rBool) (vs := [zF]) (a := false) ti4 rfl rfl rfl rfl a7 1 (congrArg some bE) rfl bC c2 rfl c3 ?_)
  have bF : known.length = List.length ej := by rw [c3, List.length_set]; exact bD
  intro em a8 cx cy cz en
  have cA : (a8 ++ aC).length = ad * rBool.sz := zhc cw en
  have K29 := ks w cy
  refine zar (zam (zah rfl (zag (zai (v := zN) rfl ?_))))
  refine zag (zai (v := zF) rfl (zar ?_))
  have bG := cx.pick [0, 1] rfl rfl rfl
  have cB : Go.X.Loc X [] w em [aa, ab] [zab ([] ++ (aB ++ aK)), zab ([] ++ (a8 ++ aC))] := bG.1
  have K30 := ks w bG.2
  refine zbv ?_
  obtain rfl := zad h
  refine ⟨[zN, zF], ⟨rfl, rfl, trivial⟩, ?_⟩
  have eo := ((cu.mono (K29 S)).mono (K30 S))
  have ep := ((cz.mono (K29 S)).mono (K30 S))
  exact ⟨aB, aK, a8, aC, rfl, (by have h9 := cB; (try rw [bB] at h9); (try rw [bF] at h9); exact h9), (zak (zak (zak (zak (zak K6 K10) K12) K28) K29) K30), bB, eo, cv, bF, ep, cA, trivial⟩
theorem insSort_w (N : Nat) (data : (List Int)) (a : Int) (b : Int) (cmp : (Int → Int → Option Int)) (aa : Option Nat) (ab : Nat) (ah : List Value) (ac : List Value) (ag : Value) (X : List (Option Nat)) (w : World) (S : Nat → Prop) (hL : Go.X.Loc X [] w w [aa] [zab ([] ++ (ah ++ ac))]) (ay : Els rI (vH w S [aa] w) ah data) (az : (ah ++ ac).length = ab * rI.sz) (aI : ∀ w' : World, Xte X w w' → ∀ (xa_ : Int) (xb_ : Int), ∀ z, cmp xa_ xb_ = some z → FunOk Try.prog ag [(zI xa_), (zI xb_)] w' (fun v w'' => zI z = v ∧ True)) (r : (List Int)) (h : insSort N data a b cmp = some r) :
  Calls Try.prog 72 #[(osv aa 0 data.length ab), (zI a), (zI b), ag] w (fun e w' => ∃ (aq : List Value) (aB : List Value), e = Ending.returned (Value.tuple #[]) ∧ Go.X.Loc X [] w w' [aa] [zab ([] ++ (aq ++ aB))] ∧ Keep w.heap.size [aa] w [aa] w' ∧ List.length data = List.length r ∧ Els rI (vH w S [aa] w') aq r ∧ (aq ++ aB).length = ab * rI.sz ∧ True) := by
 unfold insSort at h
 refine calls_of (l := [(osv aa 0 data.length ab), (zI a), (zI b), ag]) (rl := []) (n := 53) Try.func72 rfl rfl rfl (zaj rfl) ?_
 refine zam (zah rfl (zag (zae (v := (zI a)) rfl (zag (zca (z := (iw (a + 1))) rfl rfl rfl (zag (zai (v := (zI (iw (a + 1)))) rfl (zar ?_))))))))
 obtain ⟨bU, a0, bF⟩ := zee h
 refine zbt (fun e w' => ∃ (al : (List Int)) (ar : List Value) (u : Env), al = bU ∧ e = upds [(0, (osv aa 0 data.length ab))] u ∧ Go.X.Loc X [] w w' [aa] [zab ([] ++ (ar ++ ac))] ∧ Keep w.heap.size [aa] w [aa] w' ∧ Els rI (vH w S [aa] w') ar al ∧ data.length = List.length al ∧ (ar ++ ac).length = ab * rI.sz ∧ True) ?_ ?_
 ·
  refine zbc ?_
  refine zbx a0 (fun (ss : ((List Int) × Int)) (e : Env) (w' : World) => match ss with | (am, an) => ∃ (ao : List Value) (u : Env), e = upds [(0, (osv aa 0 data.length ab)), (1, (zI a)), (2, (zI b)), (3, ag), (8, (zI an))] u ∧ Go.X.Loc X [] w w' [aa] [zab ([] ++ (ao ++ ac))] ∧ Keep w.heap.size [aa] w [aa] w' ∧ Els rI (vH w S [aa] w') ao am ∧ data.length = List.length am ∧ (ao ++ ac).length = ab * rI.sz ∧ True) ⟨ah, _, (zef ⟨rfl, rfl, rfl, rfl, rfl, trivial⟩), hL, zbp, ay, rfl, az, trivial⟩ ?_
  rintro ⟨am, an⟩ oo _ bG ⟨ao, u, rfl, aJ, K10, aK, aL, aM, -⟩ h a1
  rw [insSort_b1] at h
  refine zam (zam (zah rfl (zag (zae (v := (zI an)) rfl (zag (zae (v := (zI b)) rfl (zag (zcf ((an : Int) < b) rfl rfl zbg (zar (zbi ((an : Int) < b) rfl (fun aC => ?_) (fun aC => ?_)))))))))))
  ·
   replace h := ite_t aC h
   refine zbm (zam (zbc (zam (zah rfl (zag (zae (v := (zI an)) rfl ?_))))))
   refine zag (zai (v := (zI an)) rfl (zar ?_))
   obtain ⟨bV, a2, bH⟩ := zee h
   refine zbt (fun e w' => ∃ (ai : (List Int)) (au : List Value) (u : Env), ai = bV ∧ e = upds [(0, (osv aa 0 data.length ab)), (1, (zI a)), (2, (zI b)), (3, ag), (8, (zI an))] u ∧ Go.X.Loc X [] w w' [aa] [zab ([] ++ (au ++ ac))] ∧ Keep w.heap.size [aa] bG [aa] w' ∧ Els rI (vH w S [aa] w') au ai ∧ data.length = List.length ai ∧ (au ++ ac).length = ab * rI.sz ∧ True) ?_ ?_
   ·
    refine zbc ?_
    refine zbx a2 (fun (ss : ((List Int) × Int)) (e : Env) (w' : World) => match ss with | (ae, af) => ∃ (ap : List Value) (u : Env), e = upds [(0, (osv aa 0 data.length ab)), (1, (zI a)), (2, (zI b)), (3, ag), (8, (zI an)), (9, (zI af))] u ∧ Go.X.Loc X [] w w' [aa] [zab ([] ++ (ap ++ ac))] ∧ Keep w.heap.size [aa] bG [aa] w' ∧ Els rI (vH w S [aa] w') ap ae ∧ data.length = List.length ae ∧ (ap ++ ac).length = ab * rI.sz ∧ True) ⟨ao, _, (zef ⟨rfl, rfl, rfl, rfl, rfl, rfl, trivial⟩), aJ, zbp, aK, aL, aM, trivial⟩ ?_
    rintro ⟨ae, af⟩ oo _ bW ⟨ap, u, rfl, aD, K11, av, aj, aN, -⟩ h a3
    rw [insSort_b2] at h
    refine zam (zam ?_)
    obtain ⟨bX, h, bY⟩ := zee h
    refine zbt (fun e w' => ∃ (aT : Bool) (u : Env), aT = bX ∧ e = upds [(0, (osv aa 0 data.length ab)), (1, (zI a)), (2, (zI b)), (3, ag), (8, (zI an)), (9, (zI af)), (34, (zac aT))] u ∧ Go.X.Loc X [] w w' [aa] [zab ([] ++ (ap ++ ac))] ∧ Keep w.heap.size [aa] bW [aa] w' ∧ True) ?_ ?_
    ·
     by_cases ad : (af : Int) > a
     ·
      replace h := ite_t ad h
      obtain ⟨bI, a4, bZ, bJ, b0, h⟩ := zix h
      obtain ⟨aU, aA⟩ := aD.row_some 0 rfl rfl (zev (pre := []) av bJ (Nat.lt_of_sub_eq_succ rfl))
      obtain ⟨b1, q14, b2, b3⟩ := zeo (pre := []) (sp := ac) av bJ
      obtain rfl := b2
      obtain ⟨bK, a5, b4, b5, b6, h⟩ := zix h
      obtain ⟨b7, q21, b8, b9⟩ := zeo (pre := []) (sp := ac) av b5
      obtain rfl := b8
      refine zcx 14 [] [] (fun W1 => [.det (zI af), .det (zI a), .det (zac (decide ((af : Int) > a))), .det (zac (decide ((af : Int) > a))), .det ag, .det (osv aa 0 data.length ab), .det (zI af), .det (zal (some ⟨aU, (0 + a4 * rI.sz), none⟩)), .det (zI bI), .det (osv aa 0 data.length ab), .det (zI af), .det (zI (iw (af - 1))), .det (zal (some ⟨aU, (0 + a5 * rI.sz), none⟩)), .det (zI bK)]) mixed rfl rfl rfl (fun _ => rfl) (fun _ => rfl) ?_ ?_
      ·
       intro W1 _
       exact trivial
      intro ca a6
      obtain ⟨aE, K12⟩ := zl aD a6
      refine zaw (fun _ _ => zaq (zae rfl (er rfl))) (zaw (fun _ _ => zaq (zae rfl (er rfl))) (zaw (fun _ _ => zaq (OpY.gtr ((af : Int) > a) rfl rfl zbg (er rfl))) (zaw (fun _ _ => zaq (zae rfl (er rfl))) (zaw (fun _ _ => zcp rfl rfl (zed ad) (zae rfl (er rfl))) (zaw (fun _ _ => zcp rfl rfl (zed ad) (zae rfl (er rfl))) (zaw (fun _ _ => zcp rfl rfl (zed ad) (zae rfl (er rfl))) ?_))))))
      refine zaw (fun _ _ => zcp rfl rfl (zed ad) (zbl (r := rI) (b := aU) (o := 0) (n := a4) (m := data.length) (xs := ae) (q := (0 + a4 * rI.sz)) zan ti3 (zen aA) aj rfl bZ b0 rfl (er rfl))) (zaw (fun _ a7 => zcp rfl rfl (zed ad) (zby zay rfl rfl (zer aA ((aE.ext a7).at 0 rfl rfl)) b3 (er rfl))) (zaw (fun _ _ => zcp rfl rfl (zed ad) (zae rfl (er rfl))) (zaw (fun _ _ => zcp rfl rfl (zed ad) (zae rfl (er rfl))) (zaw (fun _ _ => zcp rfl rfl (zed ad) (OpY.sub rfl rfl rfl (er rfl))) (zaw (fun _ _ => zcp rfl rfl (zed ad) (zbl (r := rI) (b := aU) (o := 0) (n := a5) (m := data.length) (xs := ae) (q := (0 + a5 * rI.sz)) zan ti3 (zen aA) aj rfl b4 b6 rfl (er rfl))) (zaw (fun _ a8 => zcp rfl rfl (zed ad) (zby zay rfl rfl (zer aA ((aE.ext a8).at 0 rfl rfl)) b9 (er rfl))) ?_))))))
      refine zdd ?_
      rintro w27 Z34 a9 cb ⟨-⟩ cc
      have cd := @zhb ca Z34
      obtain ⟨aO, K13⟩ := zl aE a9
      obtain ⟨aV, ce, h⟩ := zee h
      refine zbb rfl rfl (zed ad) (OpY.callF rfl rfl (aI _ aO.xte bI bK  aV ce) ?_)
      rintro _ w28 ba ⟨rfl, -⟩
      obtain ⟨bb, K14⟩ := zl aO ba
      refine zbb rfl rfl (zed ad) (zcf ((aV : Int) < 0) rfl rfl zbg (zag (zbo (v := (zac (decide ((aV : Int) < 0)))) rfl (zed ad) rfl (zar ?_))))
      obtain rfl := zad h
      refine zap ?_
      exact ⟨(decide ((aV : Int) < 0)), _, rfl, (zef ⟨rfl, rfl, rfl, rfl, rfl, rfl, rfl, trivial⟩), bb, (zak (zak K12 K13) K14), trivial⟩
     replace h := ite_f ad h
     refine zcx 14 [] [] (fun W1 => [.det (zI af), .det (zI a), .det (zac (decide ((af : Int) > a))), .det (zac (decide ((af : Int) > a))), .det undef, .det undef, .det undef, .det undef, .det undef, .det undef, .det undef, .det undef, .det undef, .det undef]) mixed rfl rfl rfl (fun _ => rfl) (fun _ => rfl) ?_ ?_
     ·
      intro W1 _
      exact trivial
     intro cg bc
     obtain ⟨bd, K15⟩ := zl aD bc
     refine zaw (fun _ _ => zaq (zae rfl (er rfl))) (zaw (fun _ _ => zaq (zae rfl (er rfl))) (zaw (fun _ _ => zaq (OpY.gtr ((af : Int) > a) rfl rfl zbg (er rfl))) (zaw (fun _ _ => zaq (zae rfl (er rfl))) (zaw (fun _ _ => zdh rfl rfl (zec ad) (er rfl)) (zaw (fun _ _ => zdh rfl rfl (zec ad) (er rfl)) (zaw (fun _ _ => zdh rfl rfl (zec ad) (er rfl)) ?_))))))
     refine zaw (fun _ _ => zdh rfl rfl (zec ad) (er rfl)) (zaw (fun _ _ => zdh rfl rfl (zec ad) (er rfl)) (zaw (fun _ _ => zdh rfl rfl (zec ad) (er rfl)) (zaw (fun _ _ => zdh rfl rfl (zec ad) (er rfl)) (zaw (fun _ _ => zdh rfl rfl (zec ad) (er rfl)) (zaw (fun _ _ => zdh rfl rfl (zec ad) (er rfl)) (zaw (fun _ _ => zdh rfl rfl (zec ad) (er rfl)) ?_))))))
     refine zdd ?_
     rintro w44 Z49 be ch ⟨-⟩ ci
     have cj := @zhb cg Z49
     obtain ⟨bf, K16⟩ := zl bd be
     refine zbj rfl rfl (zec ad) (zbj rfl rfl (zec ad) (zag (zbk (v := zF) rfl (zec ad) rfl (zar ?_))))
     obtain rfl := zad h
     refine zap ?_
     exact ⟨false, _, rfl, (zef ⟨rfl, rfl, rfl, rfl, rfl, rfl, rfl, trivial⟩), bf, (zak K15 K16), trivial⟩
    rintro _ w45 ⟨aT, u, rfl, rfl, aF, K17, -⟩
    replace h := bY
    try dsimp only at h
    refine zci aT rfl (fun aG => ?_) (fun aG => ?_)
    ·
     replace h := ite_t aG h
     refine zbm (zam (zbc ?_))
     obtain ⟨aW, bg, ck, bL, cp, h⟩ := zix h
     have aX := (av.mono (K17 S))
     obtain ⟨ax, ak⟩ := aF.row_some 0 rfl rfl (zev (pre := []) aX bL (Nat.lt_of_sub_eq_succ rfl))
     obtain ⟨cq, q29, cr, cs⟩ := zeo (pre := []) (sp := ac) aX bL
     obtain rfl := cr
     obtain ⟨aY, aP, bM, ct, bN, h⟩ := zix h
     obtain ⟨cu, q36, cv, cw⟩ := zeo (pre := []) (sp := ac) aX ct
     obtain rfl := cv
     obtain ⟨x15, bh, bO, q41, bP, h⟩ := zix h
     obtain ⟨x16, aQ, aZ, q45, bQ, h⟩ := zix h
     refine Swp.drawP [15, 17] [0, 1, 2, 3, 4, 5, 6, 7, 8, 9, 10, 11, 12, 13, 14, 16] [(37, (osv aa 0 data.length ab)), (38, (zI af)), (39, (osv aa 0 data.length ab)), (40, (zI af)), (41, (zI (iw (af - 1)))), (42, (osv aa 0 data.length ab)), (43, (zI af)), (44, (zI (iw (af - 1)))), (45, (zal (some ⟨ax, (0 + bg * rI.sz), none⟩))), (46, (zI aW)), (47, (osv aa 0 data.length ab)), (48, (zI af)), (49, (zal (some ⟨ax, (0 + aP * rI.sz), none⟩))), (50, (zI aY)), (51, (zal (some ⟨ax, (0 + bh * rI.sz), none⟩))), (52, (zal (some ⟨ax, (0 + aQ * rI.sz), none⟩)))] mixed rfl rfl rfl rfl ?_
     intro w46 bi
     obtain ⟨aH, K18⟩ := zl aF bi
     refine ⟨?_, ?_⟩
     ·
      refine zao (i := 0) rfl rfl (zaq (zae rfl zrr)) (zao (i := 1) rfl rfl (zaq (zae rfl zrr)) (zao (i := 2) rfl rfl (zaq (zae rfl zrr)) (zao (i := 3) rfl rfl (zaq (zae rfl zrr)) (zao (i := 4) rfl rfl (zaq (OpY.sub (z := (iw (af - 1))) rfl rfl rfl zrr)) (zao (i := 5) rfl rfl (zaq (zae rfl zrr)) (zao (i := 6) rfl rfl (zaq (zae rfl zrr)) ?_))))))
      refine zao (i := 7) rfl rfl (zaq (OpY.sub (z := (iw (af - 1))) rfl rfl rfl zrr)) (zao (i := 8) rfl rfl (zaq (zbl (r := rI) (b := ax) (o := 0) (n := bg) (m := data.length) (xs := ae) (q := (0 + bg * rI.sz)) zan ti3 (zen ak) aj rfl ck cp rfl zrr)) (zao (i := 9) rfl rfl (zaq (zby (v := (zI aW)) zay rfl rfl (zer ak (aH.at 0 rfl rfl)) cs zrr)) (zao (i := 10) rfl rfl (zaq (zae rfl zrr)) (zao (i := 11) rfl rfl (zaq (zae rfl zrr)) (zao (i := 12) rfl rfl (zaq (zbl (r := rI) (b := ax) (o := 0) (n := aP) (m := data.length) (xs := ae) (q := (0 + aP * rI.sz)) zan ti3 (zen ak) aj rfl bM bN rfl zrr)) (zao (i := 13) rfl rfl (zaq (zby (v := (zI aY)) zay rfl rfl (zer ak (aH.at 0 rfl rfl)) cw zrr)) ?_))))))
      refine zao (i := 14) rfl rfl (zaq (zbl (r := rI) (b := ax) (o := 0) (n := bh) (m := data.length) (xs := ae) (q := (0 + bh * rI.sz)) zan ti3 (zen ak) aj rfl bO bP rfl zrr)) (zao (i := 16) rfl rfl (zaq (zbl (r := rI) (b := ax) (o := 0) (n := aQ) (m := data.length) (xs := ae) (q := (0 + aQ * rI.sz)) zan ti3 (zen ak) aj rfl aZ bQ rfl zrr)) ?_)
      exact zch
     obtain ⟨bj, n16, cx, q49, bR, h⟩ := zux h
     obtain rfl := zin bO cx
     have cy := (aX.mono (K18 S))
     refine RlL.op0 (zdg (pre := []) (r := rI) (vs := [(zI aW)]) (a := aW) ti3 rfl rfl rfl rfl aH 0 (congrArg some ak) rfl cy bP rfl bR ?_)
     have aw : data.length = List.length bj := by rw [bR, List.length_set]; exact aj
     intro w47 bk bl bm bn cz
     have bo : (bk ++ ac).length = ab * rI.sz := zhc aN cz
     have K19 := ks w bm
     refine ⟨?_, ?_⟩
     ·
      refine zao (i := 2) rfl rfl (zaq (zae rfl zrr)) (zao (i := 3) rfl rfl (zaq (zae rfl zrr)) (zao (i := 4) rfl rfl (zaq (OpY.sub (z := (iw (af - 1))) rfl rfl rfl zrr)) (zao (i := 10) rfl rfl (zaq (zae rfl zrr)) (zao (i := 11) rfl rfl (zaq (zae rfl zrr)) (zao (i := 12) rfl rfl (zaq (zbl (r := rI) (b := ax) (o := 0) (n := aP) (m := data.length) (xs := bj) (q := (0 + aP * rI.sz)) zan ti3 (zen ak) aw rfl bM (Nat.lt_of_lt_of_eq bN (Eq.trans (Eq.symm aj) aw)) rfl zrr)) (zao (i := 16) rfl rfl (zaq (zbl (r := rI) (b := ax) (o := 0) (n := aQ) (m := data.length) (xs := bj) (q := (0 + aQ * rI.sz)) zan ti3 (zen ak) aw rfl aZ (Nat.lt_of_lt_of_eq bQ (Eq.trans (Eq.symm aj) aw)) rfl zrr)) ?_))))))
      exact zch
     obtain ⟨x18, n17, cA, cB, -, h⟩ := zix h
     obtain rfl := zin aZ cA
     have cC := (List.getElem?_eq_some_iff.1 cB).1
     obtain ⟨bS, n18, cD, q58, bT, h⟩ := zux h
     obtain rfl := zin aZ cD
     have cE := (bn.mono (K19 S))
     refine RlL.op0 (zdg (pre := []) (r := rI) (vs := [(zI aY)]) (a := aY) ti3 rfl rfl rfl rfl bl 0 (congrArg some ak) rfl cE cC rfl bT ?_)
     have bp : data.length = List.length bS := by rw [bT, List.length_set]; exact aw
     intro w48 aR bq br bu cF
     have bw : (aR ++ ac).length = ab * rI.sz := zhc bo cF
     have K20 := ks w br
     refine ⟨?_, ?_⟩
     ·
      exact zch
     refine RlL.fin ?_
     refine zbe (zah rfl (zag (zae (v := (zI af)) rfl ?_)))
     refine zag (OpY.sub (z := (iw (af - 1))) rfl rfl rfl (zag (zai (v := (zI (iw (af - 1)))) rfl (zar ?_))))
     have cG := (bu.mono (K20 S))
     obtain rfl := zad h
     refine zap ⟨(bS, (iw (af - 1))), rfl, ?_⟩
     exact ⟨aR, _, (zef ⟨rfl, rfl, rfl, rfl, rfl, rfl, trivial⟩), bq, (zak (zak (zak (zak K11 K17) K18) K19) K20), cG, bp, bw, trivial⟩
    replace h := ite_f aG h
    refine zcd rfl ?_
    have cH := (av.mono (K17 S))
    obtain rfl := zad h
    obtain rfl := a3 _ rfl
    replace h := bH
    try dsimp only at h
    refine zap ?_
    exact ⟨ae, ap, _, rfl, (zef ⟨rfl, rfl, rfl, rfl, rfl, trivial⟩), aF, (zak K11 K17), cH, aj, aN, trivial⟩
   rintro _ w49 ⟨ai, au, u, rfl, rfl, bx, K21, bz, bA, bB, -⟩
   replace h := bH
   try dsimp only at h
   refine zbe (zah rfl (zag (zae (v := (zI an)) rfl ?_)))
   refine zag (zca (z := (iw (an + 1))) rfl rfl rfl (zag (zai (v := (zI (iw (an + 1)))) rfl (zar ?_))))
   obtain rfl := zad h
   refine zap ⟨(ai, (iw (an + 1))), rfl, ?_⟩
   exact ⟨au, _, (zef ⟨rfl, rfl, rfl, rfl, rfl, trivial⟩), bx, (zak K10 K21), bz, bA, bB, trivial⟩
  replace h := ite_f aC h
  refine zcd rfl ?_
  obtain rfl := zad h
  obtain rfl := a1 _ rfl
  replace h := bF
  try dsimp only at h
  refine zap ?_
  exact ⟨am, ao, _, rfl, (zef zrt), aJ, K10, aK, aL, aM, trivial⟩
 rintro _ w50 ⟨al, ar, u, rfl, rfl, bC, K22, bD, aS, bE, -⟩
 replace h := bF
 try dsimp only at h
 refine Swp.nil ?_
 obtain rfl := zad h
 refine ⟨[], trivial, ?_⟩
 exact ⟨ar, ac, rfl, (by have h9 := bC; (try rw [aS] at h9); exact h9), K22, aS, bD, bE, trivial⟩
theorem stableSort_w (N : Nat) (data : (List Int)) (n : Int) (cmp : (Int → Int → Option Int)) (ab : Option Nat) (ac : Nat) (ae : List Value) (ah : List Value) (ad : Value) (X : List (Option Nat)) (w : World) (S : Nat → Prop) (hL : Go.X.Loc X [] w w [ab] [zab ([] ++ (ae ++ ah))]) (ar : Els rI (vH w S [ab] w) ae data) (au : (ae ++ ah).length = ac * rI.sz) (ax : ∀ w' : World, Xte X w w' → ∀ (xa_ : Int) (xb_ : Int), ∀ z, cmp xa_ xb_ = some z → FunOk Try.prog ad [(zI xa_), (zI xb_)] w' (fun v w'' => zI z = v ∧ True)) (r : (List Int)) (h : stableSort N data n cmp = some r) :
  Calls Try.prog 61 #[(osv ab 0 data.length ac), (zI n), ad] w (fun e w' => ∃ (am : List Value) (ay : List Value), e = Ending.returned (Value.tuple #[]) ∧ Go.X.Loc X [] w w' [ab] [zab ([] ++ (am ++ ay))] ∧ Keep w.heap.size [ab] w [ab] w' ∧ List.length data = List.length r ∧ Els rI (vH w S [ab] w') am r ∧ (am ++ ay).length = ac * rI.sz ∧ True) := by
 unfold stableSort at h
 refine calls_of (l := [(osv ab 0 data.length ac), (zI n), ad]) (rl := []) (n := 63) Try.func61 rfl rfl rfl (zaj rfl) ?_
 refine zam (zah rfl (zag (zai (v := (zI 20)) rfl (zar (zam (zah rfl (zag (zae (v := (zI 20)) rfl (zag (zai (v := (zI 0)) rfl (zag (zai (v := (zI 20)) rfl (zar (zam ?_))))))))))))))
 obtain ⟨bl, aQ, bf⟩ := zee h
 refine zbt (fun e w' => ∃ (af : (List Int)) (aG : Int) (av : List Value) (an : List Value) (u : Env), (af, aG) = bl ∧ e = upds [(0, (osv ab 0 data.length ac)), (1, (zI n)), (2, ad), (6, (zI 20)), (7, (zI aG))] u ∧ Go.X.Loc X [] w w' [ab] [zab ([] ++ (an ++ av))] ∧ Keep w.heap.size [ab] w [ab] w' ∧ Els rI (vH w S [ab] w') an af ∧ data.length = List.length af ∧ (an ++ av).length = ac * rI.sz ∧ True) ?_ ?_
 ·
  refine zbc ?_
  refine zbx aQ (fun (ss : ((List Int) × Int × Int)) (e : Env) (w' : World) => match ss with | (ag, aH, aj) => ∃ (ao : List Value) (ak : List Value) (u : Env), e = upds [(0, (osv ab 0 data.length ac)), (1, (zI n)), (2, ad), (6, (zI 20)), (7, (zI aH)), (8, (zI aj))] u ∧ Go.X.Loc X [] w w' [ab] [zab ([] ++ (ak ++ ao))] ∧ Keep w.heap.size [ab] w [ab] w' ∧ Els rI (vH w S [ab] w') ak ag ∧ data.length = List.length ag ∧ (ak ++ ao).length = ac * rI.sz ∧ True) ⟨ah, ae, _, (zef ⟨rfl, rfl, rfl, rfl, rfl, rfl, trivial⟩), hL, zbp, ar, rfl, au, trivial⟩ ?_
  rintro ⟨ag, aH, aj⟩ oo _ w10 ⟨ao, ak, u, rfl, aw, K10, aI, ap, aJ, -⟩ h aR
  rw [stableSort_b1] at h
  refine zam (zam (zah rfl (zag (zae (v := (zI aj)) rfl (zag (zae (v := (zI n)) rfl (zag (zeb ((aj : Int) ≤ n) rfl rfl zbg (zar (zbi ((aj : Int) ≤ n) rfl (fun az => ?_) (fun az => ?_)))))))))))
  ·
   replace h := ite_t az h
   refine zbm (zbc (zam (zah rfl (zag (zae (v := (osv ab 0 data.length ac)) rfl ?_)))))
   refine zag (zae (v := (zI aH)) rfl (zag (zae (v := (zI aj)) rfl (zag (zae (v := ad) rfl ?_)))))
   obtain ⟨aS, bm, h⟩ := zee h
   have aT := aw.lendW [0] rfl rfl rfl
   refine zag (zdt en72 rfl rfl (calls_args (by rw [← ap]; first | done | rfl) (insSort_w N ag aH aj cmp ab ac ak ao ad [ab] _ Any (by have h9 := aT; (try rw [ap] at h9); exact h9) (aI.mono (zcv [0] rfl)) aJ (fun w9 aU => ax w9 (Xte.lent aw [0] rfl aU)) aS bm)) ?_)
   rintro _ bg ⟨aA, aK, rfl, aV, K11, aL, aW, aX, -⟩
   refine ⟨_, rfl, ?_⟩
   have aM := aw.backW [0] [] rfl rfl rfl rfl aV
   have aY : Go.X.Loc X [] w bg [ab] [zab ([] ++ (aA ++ aK))] := (by have h9 := aM.1; (try rw [← (ap.trans aL)] at h9); exact h9)
   have K12 := ks w aM.2
   have aZ : Els rI (vH w S [ab] bg) aA aS := zcj (fun _ _ _ _ h => h) aW
   refine zar (zam (zah rfl (zag (zae (v := (zI aj)) rfl ?_))))
   refine zag (zai (v := (zI aj)) rfl (zar (zah rfl (zag (zae (v := (zI aj)) rfl (zag (zae (v := (zI 20)) rfl (zag (zca (z := (iw (aj + 20))) rfl rfl rfl (zag (zai (v := (zI (iw (aj + 20)))) rfl (zar (zbe ?_)))))))))))))
   obtain rfl := zad h
   refine zap ⟨(aS, aj, (iw (aj + 20))), rfl, ?_⟩
   exact ⟨aK, aA, _, (zef ⟨rfl, rfl, rfl, rfl, rfl, rfl, trivial⟩), aY, (zak K10 K12), aZ, (ap.trans aL), aX, trivial⟩
  replace h := ite_f az h
  refine zcd rfl ?_
  obtain rfl := zad h
  obtain rfl := aR _ rfl
  replace h := bf
  try dsimp only at h
  refine zap ?_
  exact ⟨ag, aH, ao, ak, _, rfl, (zef ⟨rfl, rfl, rfl, rfl, rfl, trivial⟩), aw, K10, aI, ap, aJ, trivial⟩
 rintro _ w12 ⟨af, aG, av, an, u, rfl, rfl, aB, K13, a0, aq, a1, -⟩
 replace h := bf
 try dsimp only at h
 refine zam (zah rfl (zag (zae (v := (osv ab 0 data.length ac)) rfl (zag (zae (v := (zI aG)) rfl (zag (zae (v := (zI n)) rfl (zag (zae (v := ad) rfl ?_)))))))))
 obtain ⟨bh, bn, h⟩ := zee h
 have a2 := aB.lendW [0] rfl rfl rfl
 refine zag (zdt en72 rfl rfl (calls_args (by rw [← aq]; first | done | rfl) (insSort_w N af aG n cmp ab ac an av ad [ab] _ Any (by have h9 := a2; (try rw [aq] at h9); exact h9) (a0.mono (zcv [0] rfl)) a1 (fun w9 aU => ax w9 (Xte.lent aB [0] rfl aU)) bh bn)) ?_)
 rintro _ aP ⟨ai, al, rfl, a3, K14, aC, a4, a5, -⟩
 refine ⟨_, rfl, ?_⟩
 have aN := aB.backW [0] [] rfl rfl rfl rfl a3
 have a6 : Go.X.Loc X [] w aP [ab] [zab ([] ++ (ai ++ al))] := (by have h9 := aN.1; (try rw [← (aq.trans aC)] at h9); exact h9)
 have K15 := ks w aN.2
 have a7 : Els rI (vH w S [ab] aP) ai bh := zcj (fun _ _ _ _ h => h) a4
 refine zar ?_
 obtain ⟨bo, a8, bi⟩ := zee h
 refine zbt (fun e w' => ∃  (u : Env), () = bo ∧ e = upds [(0, (osv ab 0 data.length ac))] u ∧ Go.X.Loc X [] w w' [ab] [zab ([] ++ (ai ++ al))] ∧ Keep w.heap.size [ab] aP [ab] w' ∧ True) ?_ ?_
 ·
  refine zbc ?_
  refine zbx a8 (fun (ss : Int) (e : Env) (w' : World) => match ss with | aa => ∃ (u : Env), e = upds [(0, (osv ab 0 data.length ac)), (1, (zI n)), (2, ad), (6, (zI aa))] u ∧ Go.X.Loc X [] w w' [ab] [zab ([] ++ (ai ++ al))] ∧ Keep w.heap.size [ab] aP [ab] w' ∧ True) ⟨_, (zef ⟨rfl, rfl, rfl, rfl, trivial⟩), a6, zbp, trivial⟩ ?_
  rintro aa oo _ bj ⟨u, rfl, aO, K16, -⟩ h a9
  rw [stableSort_b2] at h
  refine zam (zam (zah rfl (zag (zae (v := (zI aa)) rfl (zag (zae (v := (zI n)) rfl (zag (zcf ((aa : Int) < n) rfl rfl zbg (zar (zbi ((aa : Int) < n) rfl (fun aD => ?_) (fun aD => ?_)))))))))))
  ·
   replace h := ite_t aD h
   refine zbm (zbc (zam (zah rfl (zag (zae (v := (zI aa)) rfl ?_)))))
   refine zag (OpY.mul (x := 2) (y := aa) (z := (iw (2 * aa))) rfl rfl rfl (zag (zai (v := (zI 0)) rfl (zag (zai (v := (zI (iw (2 * aa)))) rfl (zar (zam ?_)))))))
   obtain ⟨bp, ba, bk⟩ := zee h
   refine zbt (fun e w' => ∃  (u : Env), () = bp ∧ e = upds [(0, (osv ab 0 data.length ac)), (1, (zI n)), (2, ad), (6, (zI aa)), (7, (zI 0))] u ∧ Go.X.Loc X [] w w' [ab] [zab ([] ++ (ai ++ al))] ∧ Keep w.heap.size [ab] bj [ab] w' ∧ True) ?_ ?_
   ·
    refine zbc ?_
    refine zbx ba (fun (ss : Unit) (e : Env) (w' : World) => match ss with | _ => ∃ (u : Env), e = upds [(0, (osv ab 0 data.length ac)), (1, (zI n)), (2, ad), (6, (zI aa)), (7, (zI 0)), (8, (zI (iw (2 * aa))))] u ∧ Go.X.Loc X [] w w' [ab] [zab ([] ++ (ai ++ al))] ∧ Keep w.heap.size [ab] bj [ab] w' ∧ True) ⟨_, (zef ⟨rfl, rfl, rfl, rfl, rfl, rfl, trivial⟩), aO, zbp, trivial⟩ ?_
    rintro _ oo _ w15 ⟨u, rfl, bb, K17, -⟩ h bc
    rw [stableSort_b3] at h
    refine zam (zam (zah rfl (zag (zae (v := (zI (iw (2 * aa)))) rfl (zag (zae (v := (zI n)) rfl (zag (zeb (((iw (2 * aa)) : Int) ≤ n) rfl rfl zbg (zar (zbi (((iw (2 * aa)) : Int) ≤ n) rfl (fun aE => ?_) (fun aE => ?_)))))))))))
    ·
     replace h := ite_t aE h
     refine zbm (zbc (zam (zah rfl (zag (zae (v := (osv ab 0 data.length ac)) rfl ?_)))))
     refine zag (zae (v := (zI 0)) rfl (zag (zae (v := (zI 0)) rfl (zag (zae (v := (zI aa)) rfl (zag (zca (z := (iw (0 + aa))) rfl rfl rfl (zag (zae (v := (zI (iw (2 * aa)))) rfl (zag (zae (v := ad) rfl ?_)))))))))))
     cases h
    replace h := ite_f aE h
    refine zcd rfl ?_
    obtain rfl := zad h
    obtain rfl := bc _ rfl
    replace h := bk
    try dsimp only at h
    refine zap ?_
    exact ⟨_, rfl, (zef ⟨rfl, rfl, rfl, rfl, rfl, trivial⟩), bb, K17, trivial⟩
   rintro _ w16 ⟨u, rfl, rfl, bd, K18, -⟩
   replace h := bk
   try dsimp only at h
   refine zam (zam (zah rfl (zag (zae (v := (zI 0)) rfl (zag (zae (v := (zI aa)) rfl (zag (zca (z := (iw (0 + aa))) rfl rfl rfl (zag (zai (v := (zI (iw (0 + aa)))) rfl (zar (zam (zah rfl (zag (zae (v := (zI (iw (0 + aa)))) rfl (zag (zae (v := (zI n)) rfl (zag (zcf (((iw (0 + aa)) : Int) < n) rfl rfl zbg (zar ?_))))))))))))))))))))
   refine zbi (((iw (0 + aa)) : Int) < n) rfl (fun aF => ?_) (fun aF => ?_)
   ·
    replace h := ite_t aF h
    refine zah rfl (zag (zae (v := (osv ab 0 data.length ac)) rfl (zag (zae (v := (zI 0)) rfl (zag (zae (v := (zI (iw (0 + aa)))) rfl (zag (zae (v := (zI n)) rfl (zag (zae (v := ad) rfl ?_))))))))))
    cases h
   replace h := ite_f aF h
   refine zbm (zah rfl (zag (zae (v := (zI aa)) rfl ?_)))
   refine zag (OpY.mul (x := aa) (y := 2) (z := (iw (aa * 2))) rfl rfl rfl (zag (zai (v := (zI (iw (aa * 2)))) rfl (zar (zbe ?_)))))
   obtain rfl := zad h
   refine zap ⟨(iw (aa * 2)), rfl, ?_⟩
   exact ⟨_, (zef ⟨rfl, rfl, rfl, rfl, trivial⟩), bd, (zak K16 K18), trivial⟩
  replace h := ite_f aD h
  refine zcd rfl ?_
  obtain rfl := zad h
  obtain rfl := a9 _ rfl
  replace h := bi
  try dsimp only at h
  refine zap ?_
  exact ⟨_, rfl, (zef zrt), aO, K16, trivial⟩
 rintro _ w17 ⟨u, rfl, rfl, be, K19, -⟩
 replace h := bi
 try dsimp only at h
 refine Swp.nil ?_
 obtain rfl := zad h
 refine ⟨[], trivial, ?_⟩
 have bq := (a7.mono (K19 S))
 exact ⟨ai, al, rfl, (by have h9 := be; (try rw [(aq.trans aC)] at h9); exact h9), (zak (zak K13 K15) K19), (aq.trans aC), bq, a5, trivial⟩
theorem sortStable_w (N : Nat) (x : (List Int)) (cmp : (Int → Int → Option Int)) (aa : Option Nat) (ab : Nat) (ae : List Value) (ag : List Value) (ac : Value) (X : List (Option Nat)) (w : World) (S : Nat → Prop) (hL : Go.X.Loc X [] w w [aa] [zab ([] ++ (ae ++ ag))]) (ah : Els rI (vH w S [aa] w) ae x) (ak : (ae ++ ag).length = ab * rI.sz) (ai : ∀ w' : World, Xte X w w' → ∀ (xa_ : Int) (xb_ : Int), ∀ z, cmp xa_ xb_ = some z → FunOk Try.prog ac [(zI xa_), (zI xb_)] w' (fun v w'' => zI z = v ∧ True)) (r : (List Int)) (h : sortStable N x cmp = some r) :
  Calls Try.prog 33 #[(osv aa 0 x.length ab), ac] w (fun e w' => ∃ (ad : List Value) (af : List Value), e = Ending.returned (Value.tuple #[]) ∧ Go.X.Loc X [] w w' [aa] [zab ([] ++ (ad ++ af))] ∧ Keep w.heap.size [aa] w [aa] w' ∧ List.length x = List.length r ∧ Els rI (vH w S [aa] w') ad r ∧ (ad ++ af).length = ab * rI.sz ∧ True) := by
 unfold sortStable at h
 refine calls_of (l := [(osv aa 0 x.length ab), ac]) (rl := []) (n := 9) Try.func33 rfl rfl rfl (zaj rfl) ?_
 refine zah rfl (zag (zae (v := (osv aa 0 x.length ab)) rfl (zag (zae (v := (osv aa 0 x.length ab)) rfl (zag (zcl (pre := []) (r := rI) (xs := x) zan rfl (hL.at 0 rfl rfl) ah rfl rfl (zag (zae (v := ac) rfl ?_))))))))
 obtain ⟨r2, q3, h⟩ := zee h
 have aw := hL.lendW [0] rfl rfl rfl
 refine zag (zdt en61 rfl rfl (stableSort_w N x (x.length : Int) cmp aa ab ae ag ac [aa] _ Any aw (ah.mono (zcv [0] rfl)) ak (fun w9 al => ai w9 (Xte.lent hL [0] rfl al)) r2 q3) ?_)
 rintro _ au ⟨am, av, rfl, an, K10, ao, al, ap, -⟩
 refine ⟨_, rfl, ?_⟩
 have aj := hL.backW [0] [] rfl rfl rfl rfl an
 have aq : Go.X.Loc X [] w au [aa] [zab ([] ++ (am ++ av))] := (by have h9 := aj.1; (try rw [← ao] at h9); exact h9)
 have K11 := ks w aj.2
 have ar : Els rI (vH w S [aa] au) am r2 := zcj (fun _ _ _ _ h => h) al
 refine zar ?_
 refine Swp.nil ?_
 obtain rfl := zad h
 refine ⟨[], trivial, ?_⟩
 exact ⟨am, av, rfl, (by have h9 := aq; (try rw [ao] at h9); exact h9), K11, ao, ar, ap, trivial⟩
theorem tSolve1_w (N : Nat) (a : Int) (b : Int) (ca : (List TClass)) (ac : Nat) (ab : Value) (w : World) (S : Nat → Prop) (ca_at : At (vH w S [] w) ac 0 [ab]) (ad : Rs rTClass (vH w S [] w) ab ca) (r : Int) (h : tSolve1 N a b ca = some r) :
  Calls Try.prog 34 #[(zI a), (zI b), (zal (some ⟨ac, 0, none⟩))] w (Ret w (fun v w' => (zI r) = v ∧ True)) := by
 unfold tSolve1 at h
 have hL : vL w w [] [] := Go.X.Loc.begin0 w
 refine calls_of (l := [(zI a), (zI b), (zal (some ⟨ac, 0, none⟩))]) (rl := [.tmp 5]) (n := 19) Try.func34 rfl rfl rfl (zaj rfl) ?_
 refine zam (zah rfl (zag (zai (v := (zI 0)) rfl (zar (zam ?_)))))
 obtain ⟨x1, n3, q4, q5, -, h⟩ := zix h
 obtain ⟨b6, o7, c8, vs9, aw, q11, ax, ay⟩ := zcy ad q5
 obtain ⟨v10, ag, v12, rfl, k10, az, k12, -⟩ := rTClass_open ay
 have aA := (ax.part (us := [ag]) 3 rfl)
 obtain ⟨ae, af, aB, au, -, h⟩ := zix h
 obtain ⟨av, ah, c10, aC, aD, q17, aE, aF⟩ := zcy ad au
 obtain ⟨v13, ai, v15, rfl, k13, aG, k15, -⟩ := rTClass_open aF
 have aH := (aE.part (us := [ai]) 3 rfl)
 refine zcx 12 [] [] (fun W1 => [.det ab, .det (zI a), .det (zal (some ⟨b6, (o7 + n3 * rTClass.sz), none⟩)), .det (zal (some ⟨b6, (o7 + n3 * rTClass.sz) + 3, none⟩)), .det ag, .det (zI (x1.words.length : Int)), .det ab, .det (zI b), .det (zal (some ⟨av, (ah + af * rTClass.sz), none⟩)), .det (zal (some ⟨av, (ah + af * rTClass.sz) + 3, none⟩)), .det ai, .det (zI (ae.words.length : Int))]) mixed rfl rfl rfl (fun _ => rfl) (fun _ => rfl) ?_ ?_
 ·
  intro W1 _
  exact trivial
 intro aI aj
 obtain ⟨aa, K10⟩ := zl hL aj
 refine zaw (fun _ ak => zaq (zbu zas rfl rfl zek (zbz ((ke aa ak) S) (zbz (K10 S) ca_at)) (er rfl))) (zaw (fun _ _ => zaq (zae rfl (er rfl))) (zaw (fun _ _ => zaq (zbs (r := rTClass) (v := ab) (n := n3) (m := (o7 + n3 * rTClass.sz)) zas ti56 rfl aw rfl q4 q5 rfl (er rfl))) (zaw (fun _ _ => zaq (zat zbq rfl ti27 rfl rfl rfl (er rfl))) (zaw (fun _ al => zaq (zbu zaz rfl rfl zek (zbz ((ke aa al) S) (zbz (K10 S) aA)) (er rfl))) (zaw (fun _ am => zaq (zcc (v := ag) zaz rfl ((az.mono (K10 S)).mono ((ke aa am) S)) (er rfl))) (zaw (fun _ an => zaq (zbu zas rfl rfl zek (zbz ((ke aa an) S) (zbz (K10 S) ca_at)) (er rfl))) ?_))))))
 refine zaw (fun _ _ => zaq (zae rfl (er rfl))) (zaw (fun _ _ => zaq (zbs (r := rTClass) (v := ab) (n := af) (m := (ah + af * rTClass.sz)) zas ti56 rfl aD rfl aB au rfl (er rfl))) (zaw (fun _ _ => zaq (zat zbq rfl ti27 rfl rfl rfl (er rfl))) (zaw (fun _ ao => zaq (zbu zaz rfl rfl zek (zbz ((ke aa ao) S) (zbz (K10 S) aH)) (er rfl))) (zaw (fun _ ap => zaq (zcc (v := ai) zaz rfl ((aG.mono (K10 S)).mono ((ke aa ap) S)) (er rfl))) (zdd ?_)))))
 rintro w23 Z32 aq aJ ⟨-⟩ aK
 have aL := @zhb aI Z32
 have ar := aa.ext aq
 refine zag (OpY.sub (z := (iw ((x1.words.length : Int) - (ae.words.length : Int)))) rfl rfl rfl (zag (zai (v := (zI (iw ((x1.words.length : Int) - (ae.words.length : Int))))) rfl (zar (zbv ?_)))))
 obtain rfl := zad h
 refine ⟨[(zI (iw ((x1.words.length : Int) - (ae.words.length : Int))))], zrt, ⟨_, rfl, ar.done, ?_⟩⟩
 exact zrt
theorem tSolve_w (N : Nat) (p : TProb) (eh : Value) (ct : Value) (cu : Value) (cv : Value) (cw : Value) (w : World) (S : Nat → Prop) (mb : Rs rI (vH w S [] w) eh p.Min) (g8 : Rs rI (vH w S [] w) ct p.Max) (g9 : Rs rTTest (vH w S [] w) cu p.Tests) (ha : Rs rArr2Int (vH w S [] w) cv p.Same) (hc : Rs rArr2Int (vH w S [] w) cw p.Different) (r : ((List (List UInt8)) × Bool)) (h : tSolve N p = some r) :
  Calls Try.prog 17 #[(zbr #[eh, ct, cu, cv, cw])] w (Ret w (fun v w' => ∃ (hd : Option Nat) (fs : Nat) (he : List Value) (sp0 : List Value), .tuple #[(osv hd 0 r.1.length fs), (zac r.2)] = v ∧ NewOwn w w' [hd] [zab ([] ++ (he ++ sp0))] ∧ Els rStr (vH w None [hd] w') he r.1 ∧ (he ++ sp0).length = fs * rStr.sz ∧ True)) := by
 unfold tSolve at h
 have hL : vL w w [] [] := Go.X.Loc.begin0 w
 refine calls_of (l := [(zbr #[eh, ct, cu, cv, cw])]) (rl := [.tmp 2, .tmp 3]) (n := 185) Try.func17 rfl rfl rfl (zaj rfl) ?_
 refine zam (zah rfl (zag (zdo (cs := [eh, ct, cu, cv, cw]) rfl rfl hL ?_)))
 intro b1 w2 gX mc
 have K4 := ks w mc
 refine zag (zai (v := zN) rfl (zag (zai (v := zF) rfl (zar (zam (zah rfl (zag (zcr (vs := [eh, ct, cu, cv, cw]) zct rfl ti31 rfl (gX.at 0 rfl rfl) rfl rfl ?_))))))))
 obtain ⟨r6, q7, h⟩ := zee h
 have md := (mb.mono (K4 S))
 have me := (g8.mono (K4 S))
 have mf := (g9.mono (K4 S))
 have mg := (ha.mono (K4 S))
 have mh := (hc.mono (K4 S))
 refine zag (zce en31 rfl rfl (tgathered_w N p eh ct cu cv cw _ Any (md.mono vw_any) (me.mono vw_any) (mf.mono vw_any) (mg.mono vw_any) (mh.mono vw_any) r6 q7) ?_)
 rintro _ w10 hf ⟨ac, ab, ei, ah, aa, al, ai, ag, rfl, hg, ej, hh, ek, mi, -⟩
 replace ej := ej.mono (zbw (S := None) gX [ac, aa])
 replace ek := ek.mono (zbw (S := None) gX [ac, aa])
 have hj := gX.adoptL hf hg
 have hk := hj.1
 refine zag (zae (v := (Value.tuple #[(osv ac 0 r6.1.length ab), (osv aa 0 r6.2.1.length al), (zac r6.2.2)])) rfl (zag (zcm (vs := [(osv ac 0 r6.1.length ab), (osv aa 0 r6.2.1.length al), (zac r6.2.2)]) (v := (osv ac 0 r6.1.length ab)) rfl rfl (zag (zcm (vs := [(osv ac 0 r6.1.length ab), (osv aa 0 r6.2.1.length al), (zac r6.2.2)]) (v := (osv aa 0 r6.2.1.length al)) rfl rfl (zag (zcm (vs := [(osv ac 0 r6.1.length ab), (osv aa 0 r6.2.1.length al), (zac r6.2.2)]) (v := (zac r6.2.2)) rfl rfl (zag (zdw (cs := [zN]) ti52 rfl hk ?_)))))))))
 intro ad w11 hl hm
 have K10 := ks w hm
 refine zdj (zdi (vs := [(osv ac 0 r6.1.length ab)]) ti52 rfl rfl (zes (zem ac 0 r6.1.length ab)) rfl (zej (zem ac 0 r6.1.length ab) zeu) hl 0 rfl rfl (zaj rfl) ?_)
 intro fu dV hn
 have K11 := ks w hn
 refine zag (zai (v := (osv aa 0 r6.2.1.length al)) rfl (zag (zai (v := (zac r6.2.2)) rfl (zar (zam (zam (zah rfl (zag (zae (v := (zac r6.2.2)) rfl (zag (OpY.not (x := r6.2.2) rfl (zar (zci (!r6.2.2) rfl (fun em => ?_) (fun em => ?_))))))))))))))
 ·
  replace h := ite_t em h
  refine zam (zah rfl (zag (zai (v := zN) rfl (zag (zai (v := zF) rfl (zar ?_))))))
  have ho := dV.addNil
  have fv : vL w fu [none, some ad, ac, aa, some b1] [zab ([] ++ ([] ++ [])), zab [(osv ac 0 r6.1.length ab)], zab ([] ++ (ei ++ ah)), zab ([] ++ (ai ++ ag)), zab [eh, ct, cu, cv, cw]] := ho.1
  have hp : Els rStr (vH w None [none, some ad, ac, aa, some b1] fu) [] [] := zcn
  refine zbv ?_
  obtain rfl := zad h
  refine ⟨[(osv none 0 (List.length ([] : (List (List UInt8)))) 0), zF], ⟨rfl, rfl, trivial⟩, ⟨_, rfl, fv.done, ?_⟩⟩
  exact ⟨none, 0, [], [], rfl, (fv.newOwn [0] rfl rfl rfl), (hp.mono (zdy [0] rfl)), (show ([] ++ [] : List Value).length = 0 * rStr.sz by simp), trivial⟩
 replace h := ite_f em h
 refine zbm (zam (zam (zah rfl (zag (zav (v := (osv ac 0 r6.1.length ab)) zas rfl rfl (dV.at 0 rfl rfl) rfl ?_)))))
 have lc := ((ej.mono (K10 None)).mono (K11 None))
 refine zag (zcl (pre := []) (r := rTClass) (xs := r6.1) zas rfl (dV.at 1 rfl rfl) lc rfl rfl (zag (zae (v := (zI 0)) rfl (zar ?_))))
 obtain ⟨mj, hr, ht⟩ := zee h
 refine zbt (fun e w' => ∃ (aJ : (List TClass)) (an : List Value) (u : Env), (Sum.inl aJ) = mj ∧ e = upds [(4, (zal (some ⟨ad, 0, none⟩))), (5, (osv aa 0 r6.2.1.length al))] u ∧ vL w w' [some ad, ac, aa] [zab [(osv ac 0 r6.1.length ab)], zab ([] ++ (an ++ ah)), zab ([] ++ (ai ++ ag))] ∧ Keep w.heap.size [some ad, ac, aa, some b1] fu [some ad, ac, aa] w' ∧ Els rTClass (vH w None [some ad, ac, aa] w') an aJ ∧ r6.1.length = List.length aJ ∧ (an ++ ah).length = ab * rTClass.sz ∧ True) ?_ ?_
 ·
  refine zbc ?_
  have fw := dV.pick [0, 1, 2] rfl rfl rfl
  have hu : vL w fu [some ad, ac, aa] [zab [(osv ac 0 r6.1.length ab)], zab ([] ++ (ei ++ ah)), zab ([] ++ (ai ++ ag))] := fw.1
  have K12 := ks w fw.2
  have ml := (lc.mono (K12 None))
  refine zbx hr (fun (ss : ((List TClass) × Int)) (e : Env) (w' : World) => match ss with | (en, cR) => ∃ (cS : List Value) (u : Env), e = upds [(4, (zal (some ⟨ad, 0, none⟩))), (5, (osv aa 0 r6.2.1.length al)), (32, (zI (r6.1.length : Int))), (33, (zI cR))] u ∧ vL w w' [some ad, ac, aa] [zab [(osv ac 0 r6.1.length ab)], zab ([] ++ (cS ++ ah)), zab ([] ++ (ai ++ ag))] ∧ Keep w.heap.size [some ad, ac, aa, some b1] fu [some ad, ac, aa] w' ∧ Els rTClass (vH w None [some ad, ac, aa] w') cS en ∧ r6.1.length = List.length en ∧ (cS ++ ah).length = ab * rTClass.sz ∧ True) ⟨ei, _, (zef ⟨rfl, rfl, rfl, rfl, trivial⟩), hu, K12, ml, rfl, hh, trivial⟩ ?_
  rintro ⟨en, cR⟩ oo _ w13 ⟨cS, u, rfl, eo, K13, c3, c4, fx, -⟩ h fy
  rw [tSolve_b1] at h
  refine zam (zah rfl (zag (zcf ((cR : Int) < (r6.1.length : Int)) rfl rfl zbg (zar (zam (zbi ((cR : Int) < (r6.1.length : Int)) rfl (fun ep => ?_) (fun ep => ?_)))))))
  ·
   replace h := ite_t ep h
   refine zbm (zam (zbc (zam (zah rfl (zag (zae (v := (zI cR)) rfl ?_))))))
   refine zag (zai (v := (zI cR)) rfl (zar (zam ?_)))
   obtain ⟨fz, hv, mm, ld, mo, h⟩ := zix h
   obtain ⟨es, b8⟩ := eo.row_some 1 rfl rfl (zev (pre := []) c3 ld (Nat.lt_of_sub_eq_succ rfl))
   obtain ⟨mp, q14, mq, mr⟩ := zeo (pre := []) (sp := ah) c3 ld
   obtain ⟨hw, hx, hy, rfl, ms, mt, mu, -⟩ := rTClass_open mq
   obtain ⟨hA, gY, mv, mw, my, h⟩ := zix h
   obtain ⟨mz, q21, mA, mB⟩ := zeo (pre := []) (sp := ah) c3 mw
   obtain ⟨v13, v14, hB, rfl, k13, k14, mC, -⟩ := rTClass_open mA
   have mD := elem_part (us := [hB]) (q := 4) mB rfl
   obtain ⟨dW, mE, h⟩ := zee h
   refine zcx 14 [] [] (fun W1 => [.det (osv ac 0 r6.1.length ab), .det (zI cR), .det (osv ac 0 r6.1.length ab), .det (zI cR), .det (zal (some ⟨es, (0 + hv * rTClass.sz), none⟩)), .det (zbr #[(zI fz.low), (zI fz.high), hw, hx, hy]), .det (osv ac 0 r6.1.length ab), .det (zI cR), .det (zal (some ⟨es, (0 + gY * rTClass.sz), none⟩)), .det (zal (some ⟨es, ((0 + gY * rTClass.sz) + 4), none⟩)), .det hB, .det (zI (hA.apart.length : Int)), .det (zI (iw ((hA.apart.length : Int) + 1))), .rel (fun v Z w' => ∃ bf aS bZ b9, (osv bf 0 dW.length aS) = v ∧ OwnC w' bf (zab ([] ++ (bZ ++ b9))) ∧ Els rStr (vZ W1 w None [some ad, ac, aa] Z w') bZ dW ∧ (bZ ++ b9 : List Value).length = aS * rStr.sz ∧ True) footV]) mixed rfl rfl rfl (fun _ => rfl) (fun _ => rfl) ?_ ?_
   ·
    intro W1 _
    exact ⟨fun v Z Z' w w' hΦ hz _ _ hs => by obtain ⟨bf, aS, bZ, b9, rfl, et, cx, c5, -⟩ := hΦ; exact ⟨bf, aS, bZ, b9, rfl, (et.stay (fun b hb => (zel (ob := bf) (o := 0) (n := dW.length) (cap := aS)).2 (by rw [hb]; exact zbf)) hs), (cx.mono (zdz hz hs)), c5, trivial⟩, trivial⟩
   intro lf hC
   obtain ⟨b0, K14⟩ := zl eo hC
   refine zaw (fun _ hD => zaq (zav zas rfl rfl ((b0.ext hD).at 0 rfl rfl) rfl (er rfl))) (zaw (fun _ _ => zaq (zae rfl (er rfl))) (zaw (fun _ hE => zaq (zav zas rfl rfl ((b0.ext hE).at 0 rfl rfl) rfl (er rfl))) (zaw (fun _ _ => zaq (zae rfl (er rfl))) (zaw (fun _ _ => zaq (zbl (r := rTClass) (b := es) (o := 0) (n := hv) (m := r6.1.length) (xs := en) (q := (0 + hv * rTClass.sz)) zas ti56 (zen b8) c4 rfl mm mo rfl (er rfl))) (zaw (fun _ hF => zaq (zcr (vs := [(zI fz.low), (zI fz.high), hw, hx, hy]) zbq rfl ti56 rfl (zer b8 ((b0.ext hF).at 1 rfl rfl)) rfl mr (er rfl))) (zaw (fun _ hG => zaq (zav zas rfl rfl ((b0.ext hG).at 0 rfl rfl) rfl (er rfl))) ?_))))))
   refine zaw (fun _ _ => zaq (zae rfl (er rfl))) (zaw (fun _ _ => zaq (zbl (r := rTClass) (b := es) (o := 0) (n := gY) (m := r6.1.length) (xs := en) (q := (0 + gY * rTClass.sz)) zas ti56 (zen b8) c4 rfl mv my rfl (er rfl))) (zaw (fun _ _ => zaq (zat zbq rfl ti22 rfl rfl rfl (er rfl))) (zaw (fun _ hH => zaq (zby zan rfl rfl (zer b8 ((b0.ext hH).at 1 rfl rfl)) mD (er rfl))) (zaw (fun _ hI => zaq (zcc (v := hB) zan rfl ((mC.mono (K14 None)).mono ((ke b0 hI) None)) (er rfl))) (zaw (fun _ _ => zaq (zca rfl rfl rfl (er rfl))) (zea ?_ ?_))))))
   ·
    rintro w28 Z33 hJ hK ⟨-⟩
    have K16 := ke b0 hJ
    refine zaq (zce en32 rfl rfl (tfirst_w N fz (iw ((hA.apart.length : Int) + 1)) hw hx hy _ Any (((ms.mono (K14 None)).mono (K16 None)).mono vw_any) (((mt.mono (K14 None)).mono (K16 None)).mono vw_any) (((mu.mono (K14 None)).mono (K16 None)).mono vw_any) dW mE) ?_)
    rintro _ w29 hM ⟨bf, aS, bZ, b9, rfl, fA, cx, c5, -⟩
    exact Made.ext hM hK fA (fun b hb => footV_osv.1 hb) ⟨bf, aS, bZ, b9, rfl, fA.2.2.1, (cx.mono Zv.made), c5, trivial⟩
   intro z10
   refine zdd ?_
   rintro lg Z34 hN hO ⟨⟨⟨bf, aS, bZ, b9, rfl, et, cx, c5, -⟩, hP⟩, -⟩ mF
   have fB : ∀ b, some b ∈ ([bf] : List (Option Nat)) → lf.heap.size ≤ b ∧ ¬ Z34 b := by
    intro b hb
    rcases List.mem_cons.1 hb with hb' | hb
    ·
     have := hP b ((zel (ob := bf) (o := 0) (n := dW.length) (cap := aS)).2 (by rw [hb']; exact zbf)); exact ⟨this.1, this.2.2⟩
    cases hb
   replace cx := cx.mono (Zv.fin b0 hO fB)
   have hQ : NewOwn lf lg [bf] [zab ([] ++ (bZ ++ b9))] := (zdx NewOwn.nil et (fun b hb => (fB b (by rw [← hb]; simp)).1) (fun b _ hb => by cases hb))
   have fC := b0.adoptL hN hQ
   have fD := fC.1
   have K17 := ks w fC.2
   obtain ⟨ed, hR, lh, mG, li, h⟩ := zix h
   refine zag (zbl (r := rTClass) (b := es) (o := 0) (n := hR) (m := r6.1.length) (xs := en) (q := (0 + hR * rTClass.sz)) zas ti56 (zen b8) c4 rfl lh li rfl (zag (zat (q := ((0 + hR * rTClass.sz) + 3)) zbq rfl ti27 rfl rfl rfl ?_)))
   have hS := fD.freezeRow 0 rfl rfl cx rfl rfl rfl c5
   have fE := fD.pick [1, 2, 3] rfl rfl rfl
   have hT : vL w lg [some ad, ac, aa] [zab [(osv ac 0 r6.1.length ab)], zab ([] ++ (cS ++ ah)), zab ([] ++ (ai ++ ag))] := fE.1
   have K18 := ks w fE.2
   have lj := (((c3.mono (K14 None)).mono (K17 None)).mono (K18 None))
   obtain ⟨mH, q30, mI, mJ⟩ := zeo (pre := []) (sp := ah) lj mG
   obtain ⟨hU, mK, hV, rfl, mL, k17, mM, -⟩ := rTClass_open mI
   obtain ⟨hW, n13, mN, q35, ll, h⟩ := zux h
   obtain rfl := zin lh mN
   refine zdj (OpY.stPart (pre := []) (r := rTClass) (off := 3) (us := [(osv bf 0 dW.length aS)]) (vs := [(zI ed.low), (zI ed.high), hU, mK, hV]) (vs' := [(zI ed.low), (zI ed.high), hU, (osv bf 0 dW.length aS), hV]) (a := (TClass.mk ed.low ed.high ed.tests dW ed.apart)) ti27 rfl rfl (zes hS.one) rfl (zej hS.one zeu) mJ (zaj rfl) rfl (rTClass_close ⟨hU, (osv bf 0 dW.length aS), hV, rfl, mL, hS, mM, trivial⟩) hT 1 (congrArg some b8) rfl lj li rfl ll ?_)
   have fF : r6.1.length = List.length hW := by rw [ll, List.length_set]; exact c4
   intro lm eu dX hX hY mO
   have hZ : (eu ++ ah).length = ab * rTClass.sz := zhc fx mO
   have K19 := ks w hX
   refine zar (zam (zah rfl (zag (zav (v := (osv ac 0 r6.1.length ab)) zas rfl rfl (dX.at 0 rfl rfl) rfl ?_))))
   refine zag (zae (v := (zI cR)) rfl ?_)
   obtain ⟨ln, h0, mP, mQ, mR, h⟩ := zix h
   refine zag (zbl (r := rTClass) (b := es) (o := 0) (n := h0) (m := r6.1.length) (xs := hW) (q := (0 + h0 * rTClass.sz)) zas ti56 (zen b8) fF rfl mP mR rfl (zag (zat (q := ((0 + h0 * rTClass.sz) + 3)) zbq rfl ti27 rfl rfl rfl ?_)))
   have lp := (hY.mono (K19 None))
   obtain ⟨mS, q42, mT, mU⟩ := zeo (pre := []) (sp := ah) lp mQ
   obtain ⟨v19, h1, v21, rfl, k19, mV, k21, -⟩ := rTClass_open mT
   have mW := elem_part (us := [h1]) (q := 3) mU rfl
   refine zag (zby (v := h1) zaz rfl rfl (zer b8 (dX.at 1 rfl rfl)) mW (zag (zcc (v := h1) zaz rfl mV (zag (zdb (((ln.words.length : Int) : Int) = 0) rfl rfl zbg (zar (zbi (((ln.words.length : Int) : Int) = 0) rfl (fun ew => ?_) (fun ew => ?_))))))))
   ·
    replace h := ite_t ew h
    refine zam (zah rfl (zag (zai (v := zN) rfl (zag (zai (v := zF) rfl (zar ?_))))))
    have h2 := dX.addNil
    have fG : vL w lm [none, some ad, ac, aa] [zab ([] ++ ([] ++ [])), zab [(osv ac 0 r6.1.length ab)], zab ([] ++ (eu ++ ah)), zab ([] ++ (ai ++ ag))] := h2.1
    have h3 : Els rStr (vH w None [none, some ad, ac, aa] lm) [] [] := zcn
    refine zbv ?_
    obtain rfl := zad h
    obtain rfl := fy _ rfl
    replace h := ht
    try dsimp only at h
    obtain rfl := zad h
    refine ⟨[(osv none 0 (List.length ([] : (List (List UInt8)))) 0), zF], ⟨rfl, rfl, trivial⟩, ⟨_, rfl, fG.done, ?_⟩⟩
    exact ⟨none, 0, [], [], rfl, (fG.newOwn [0] rfl rfl rfl), (h3.mono (zdy [0] rfl)), (show ([] ++ [] : List Value).length = 0 * rStr.sz by simp), trivial⟩
   replace h := ite_f ew h
   refine zbm (zbe (zah rfl (zag (zca (z := (iw (cR + 1))) rfl rfl rfl ?_))))
   refine zag (zae (v := (zI (iw (cR + 1)))) rfl (zar ?_))
   obtain rfl := zad h
   refine zap ⟨(hW, (iw (cR + 1))), rfl, ?_⟩
   exact ⟨eu, _, (zef ⟨rfl, rfl, rfl, rfl, trivial⟩), dX, (zak (zak (zak (zak K13 K14) K17) K18) K19), lp, fF, hZ, trivial⟩
  replace h := ite_f ep h
  refine zcd rfl ?_
  obtain rfl := zad h
  obtain rfl := fy _ rfl
  replace h := ht
  try dsimp only at h
  refine zap ?_
  exact ⟨en, cS, _, rfl, (zef ⟨rfl, rfl, trivial⟩), eo, K13, c3, c4, fx, trivial⟩
 rintro _ mX ⟨aJ, an, u, rfl, rfl, ex, K20, fH, az, cy, -⟩
 replace h := ht
 try dsimp only at h
 refine zam (zah rfl (zag (zai (v := zN) rfl (zar (zam (zah rfl (zag (zav (v := (osv ac 0 r6.1.length ab)) zas rfl rfl (ex.at 0 rfl rfl) rfl (zag (zcl (pre := []) (r := rTClass) (xs := aJ) zas rfl (ex.at 1 rfl rfl) fH rfl az ?_))))))))))
 obtain ⟨bm, mY, h⟩ := zee h
 obtain ⟨bP, mZ, m0, m1, m2⟩ := mk1_some mY
 refine zag (zdl (r := rI) (H := (vH w None [some ad, ac, aa] mX)) (zc := [(zI 0)]) (x := 0) zan ti3 rfl rfl rfl rfl mZ m0 m1 m2 ex ?_)
 intro ao m3 fI h4 h5 ey h6
 have K21 := ks w h6
 refine zag (zai (v := (osv (some ao) 0 bm.length bP)) rfl (zar (zam (zah rfl (zag (zav (v := (osv ac 0 r6.1.length ab)) zas rfl rfl (ey.at 1 rfl rfl) rfl ?_))))))
 have lq := (fH.mono (K21 None))
 refine zag (zcl (pre := []) (r := rTClass) (xs := aJ) zas rfl (ey.at 2 rfl rfl) lq rfl az ?_)
 obtain ⟨bp, m4, h⟩ := zee h
 obtain ⟨bY, m5, m6, m7, m8⟩ := mk1_some m4
 refine zag (zdl (r := rBool) (H := (vH w None [some ao, some ad, ac, aa] m3)) (zc := [zF]) (x := false) zcs ti4 rfl rfl rfl rfl m5 m6 m7 m8 ey ?_)
 intro ak h7 cT h8 ia ez ib
 have K22 := ks w ib
 refine zag (zai (v := (osv (some ak) 0 bp.length bY)) rfl (zar (zam (zam (zah rfl (zag (zav (v := (osv ac 0 r6.1.length ab)) zas rfl rfl (ez.at 2 rfl rfl) rfl ?_)))))))
 have gZ := (lq.mono (K22 None))
 refine zag (zcl (pre := []) (r := rTClass) (xs := aJ) zas rfl (ez.at 3 rfl rfl) gZ rfl az (zag (zae (v := (zI 0)) rfl (zar ?_))))
 obtain ⟨m9, ic, lr⟩ := zee h
 refine zbt (fun e w' => ∃ (b2 : (List Int)) (cz : List Value) (u : Env), b2 = m9 ∧ e = upds [(4, (zal (some ⟨ad, 0, none⟩))), (5, (osv aa 0 r6.2.1.length al)), (8, zN), (9, (osv (some ao) 0 bm.length bP)), (10, (osv (some ak) 0 bp.length bY))] u ∧ vL w w' [some ad, ac, aa, some ao, some ak] [zab [(osv ac 0 r6.1.length ab)], zab ([] ++ (an ++ ah)), zab ([] ++ (ai ++ ag)), zab ([] ++ (cz ++ [])), zab ([] ++ (cT ++ []))] ∧ Keep w.heap.size [some ak, some ao, some ad, ac, aa] h7 [some ad, ac, aa, some ao, some ak] w' ∧ Els rI (vH w None [some ad, ac, aa, some ao, some ak] w') cz b2 ∧ bm.length = List.length b2 ∧ (cz ++ []).length = bP * rI.sz ∧ True) ?_ ?_
 ·
  refine zbc ?_
  have fJ := ez.pick [2, 3, 4, 1, 0] rfl rfl rfl
  have ie : vL w h7 [some ad, ac, aa, some ao, some ak] [zab [(osv ac 0 r6.1.length ab)], zab ([] ++ (an ++ ah)), zab ([] ++ (ai ++ ag)), zab ([] ++ (fI ++ [])), zab ([] ++ (cT ++ []))] := fJ.1
  have K23 := ks w fJ.2
  have na := (((h4.mono (K21 None)).mono (K22 None)).mono (K23 None))
  refine zbx ic (fun (ss : ((List Int) × Int)) (e : Env) (w' : World) => match ss with | (bq, c6) => ∃ (c7 : List Value) (u : Env), e = upds [(4, (zal (some ⟨ad, 0, none⟩))), (5, (osv aa 0 r6.2.1.length al)), (8, zN), (9, (osv (some ao) 0 bm.length bP)), (10, (osv (some ak) 0 bp.length bY)), (67, (zI (aJ.length : Int))), (68, (zI c6))] u ∧ vL w w' [some ad, ac, aa, some ao, some ak] [zab [(osv ac 0 r6.1.length ab)], zab ([] ++ (an ++ ah)), zab ([] ++ (ai ++ ag)), zab ([] ++ (c7 ++ [])), zab ([] ++ (cT ++ []))] ∧ Keep w.heap.size [some ak, some ao, some ad, ac, aa] h7 [some ad, ac, aa, some ao, some ak] w' ∧ Els rI (vH w None [some ad, ac, aa, some ao, some ak] w') c7 bq ∧ bm.length = List.length bq ∧ (c7 ++ []).length = bP * rI.sz ∧ True) ⟨fI, _, (zef ⟨rfl, rfl, rfl, rfl, rfl, rfl, rfl, trivial⟩), ie, K23, na, rfl, h5, trivial⟩ ?_
  rintro ⟨bq, c6⟩ oo _ w35 ⟨c7, u, rfl, c8, K24, fK, eA, fL, -⟩ h ig
  rw [tSolve_b2] at h
  refine zam (zah rfl (zag (zcf ((c6 : Int) < (aJ.length : Int)) rfl rfl zbg (zar (zam (zbi ((c6 : Int) < (aJ.length : Int)) rfl (fun eB => ?_) (fun eB => ?_)))))))
  ·
   replace h := ite_t eB h
   refine zbm (zam (zbc (zam (zah rfl (zag (zae (v := (zI c6)) rfl ?_))))))
   refine zag (zai (v := (zI c6)) rfl (zar (zah rfl (zag (zae (v := (osv (some ao) 0 bm.length bP)) rfl (zag (zae (v := (zI c6)) rfl (zag (zav (v := (osv ac 0 r6.1.length ab)) zas rfl rfl (c8.at 0 rfl rfl) rfl (zag (zae (v := (zI c6)) rfl ?_)))))))))))
   obtain ⟨ls, ih, nb, lu, nc, h⟩ := zix h
   have lv := (gZ.mono (K24 None))
   obtain ⟨ng, fM⟩ := c8.row_some 1 rfl rfl (zev (pre := []) lv lu (Nat.lt_of_sub_eq_succ rfl))
   refine zag (zbl (r := rTClass) (b := ng) (o := 0) (n := ih) (m := r6.1.length) (xs := aJ) (q := (0 + ih * rTClass.sz)) zas ti56 (zen fM) az rfl nb nc rfl (zag (zat (q := ((0 + ih * rTClass.sz) + 4)) zbq rfl ti22 rfl rfl rfl ?_)))
   obtain ⟨nh, q60, ni, nj⟩ := zeo (pre := []) (sp := ah) lv lu
   obtain ⟨v22, v23, ii, rfl, k22, k23, nk, -⟩ := rTClass_open ni
   have nl := elem_part (us := [ii]) (q := 4) nj rfl
   refine zag (zby (v := ii) zan rfl rfl (zer fM (c8.at 1 rfl rfl)) nl (zag (zcc (v := ii) zan rfl nk ?_)))
   obtain ⟨x20, lw, lx, q66, ly, h⟩ := zix h
   refine zag (zbl (r := rI) (b := ao) (o := 0) (n := lw) (m := bm.length) (xs := bq) (q := (0 + lw * rI.sz)) zan ti3 rfl eA rfl lx ly rfl ?_)
   obtain ⟨lz, n17, nm, q70, lA, h⟩ := zux h
   obtain rfl := zin lx nm
   refine zdj (zdg (pre := []) (r := rI) (vs := [(zI (ls.apart.length : Int))]) (a := (ls.apart.length : Int)) ti3 rfl rfl rfl rfl c8 3 rfl rfl fK ly rfl lA ?_)
   have ij : bm.length = List.length lz := by rw [lA, List.length_set]; exact eA
   intro w36 fN ik il im np
   have io : (fN ++ []).length = bP * rI.sz := zhc fL np
   have K25 := ks w il
   refine zar (zbe (zah rfl (zag (zca (z := (iw (c6 + 1))) rfl rfl rfl ?_))))
   refine zag (zae (v := (zI (iw (c6 + 1)))) rfl (zar ?_))
   have nq := (im.mono (K25 None))
   obtain rfl := zad h
   refine zap ⟨(lz, (iw (c6 + 1))), rfl, ?_⟩
   exact ⟨fN, _, (zef ⟨rfl, rfl, rfl, rfl, rfl, rfl, rfl, trivial⟩), ik, (zak K24 K25), nq, ij, io, trivial⟩
  replace h := ite_f eB h
  refine zcd rfl ?_
  obtain rfl := zad h
  obtain rfl := ig _ rfl
  replace h := lr
  try dsimp only at h
  refine zap ?_
  exact ⟨bq, c7, _, rfl, (zef ⟨rfl, rfl, rfl, rfl, rfl, trivial⟩), c8, K24, fK, eA, fL, trivial⟩
 rintro _ g0 ⟨b2, cz, u, rfl, rfl, ip, K26, iq, ir, it, -⟩
 replace h := lr
 try dsimp only at h
 refine zam (zam (zah rfl (zag (zai (v := zT) rfl (zar ?_)))))
 obtain ⟨nr, iu, lB⟩ := zee h
 refine zbt (fun e w' => ∃ (aq : (List Int)) (aL : (List Bool)) (ae : Option Nat) (aM : Nat) (br : List Value) (bn : List Value) (eC : Nat) (ca : List Value) (u : Env), (aq, aL) = nr ∧ e = upds [(4, (zal (some ⟨ad, 0, none⟩))), (5, (osv aa 0 r6.2.1.length al)), (8, (osv ae 0 eC aM)), (10, (osv (some ak) 0 bp.length bY))] u ∧ vL w w' [some ad, ac, aa, ae, some ak] [zab [(osv ac 0 r6.1.length ab)], zab ([] ++ (an ++ ah)), zab ([] ++ (ai ++ ag)), zab ([] ++ (bn ++ br)), zab ([] ++ (ca ++ []))] ∧ Keep w.heap.size [some ad, ac, aa, some ao, some ak] g0 [some ad, ac, aa, ae, some ak] w' ∧ Els rI (vH w None [some ad, ac, aa, ae, some ak] w') bn aq ∧ eC = List.length aq ∧ (bn ++ br).length = aM * rI.sz ∧ Els rBool (vH w None [some ad, ac, aa, ae, some ak] w') ca aL ∧ bp.length = List.length aL ∧ (ca ++ []).length = bY * rBool.sz ∧ True) ?_ ?_
 ·
  refine zbc ?_
  have fO := ip.addNil
  have iv : vL w g0 [none, some ad, ac, aa, some ao, some ak] [zab ([] ++ ([] ++ [])), zab [(osv ac 0 r6.1.length ab)], zab ([] ++ (an ++ ah)), zab ([] ++ (ai ++ ag)), zab ([] ++ (cz ++ [])), zab ([] ++ (cT ++ []))] := fO.1
  have K27 := ks w fO.2
  have fP := iv.pick [1, 2, 3, 0, 4, 5] rfl rfl rfl
  have ix : vL w g0 [some ad, ac, aa, none, some ao, some ak] [zab [(osv ac 0 r6.1.length ab)], zab ([] ++ (an ++ ah)), zab ([] ++ (ai ++ ag)), zab ([] ++ ([] ++ [])), zab ([] ++ (cz ++ [])), zab ([] ++ (cT ++ []))] := fP.1
  have K28 := ks w fP.2
  have ns := ((zcn (r := rI)).mono (K28 None))
  have nt := ((iq.mono (K27 None)).mono (K28 None))
  have nu := ((((h8.mono (K22 None)).mono (K26 None)).mono (K27 None)).mono (K28 None))
  refine zbx iu (fun (ss : ((List Int) × (List Int) × (List Bool) × Bool)) (e : Env) (w' : World) => match ss with | (bg, cA, a6, a7) => ∃ (bo : Option Nat) (cb : Nat) (cU : List Value) (cB : List Value) (eD : Nat) (c9 : List Value) (cC : List Value) (u : Env), e = upds [(4, (zal (some ⟨ad, 0, none⟩))), (5, (osv aa 0 r6.2.1.length al)), (8, (osv bo 0 eD cb)), (9, (osv (some ao) 0 bm.length bP)), (10, (osv (some ak) 0 bp.length bY)), (12, (zac a7))] u ∧ vL w w' [some ad, ac, aa, bo, some ao, some ak] [zab [(osv ac 0 r6.1.length ab)], zab ([] ++ (an ++ ah)), zab ([] ++ (ai ++ ag)), zab ([] ++ (cB ++ cU)), zab ([] ++ (c9 ++ [])), zab ([] ++ (cC ++ []))] ∧ Keep w.heap.size [some ad, ac, aa, some ao, some ak] g0 [some ad, ac, aa, bo, some ao, some ak] w' ∧ Els rI (vH w None [some ad, ac, aa, bo, some ao, some ak] w') cB bg ∧ eD = List.length bg ∧ (cB ++ cU).length = cb * rI.sz ∧ Els rI (vH w None [some ad, ac, aa, bo, some ao, some ak] w') c9 cA ∧ bm.length = List.length cA ∧ (c9 ++ []).length = bP * rI.sz ∧ Els rBool (vH w None [some ad, ac, aa, bo, some ao, some ak] w') cC a6 ∧ bp.length = List.length a6 ∧ (cC ++ []).length = bY * rBool.sz ∧ True) ⟨none, 0, [], [], (List.length ([] : (List Int))), cz, cT, _, (zef ⟨rfl, rfl, rfl, rfl, rfl, rfl, trivial⟩), ix, (zak K27 K28), ns, rfl, (show ([] ++ [] : List Value).length = 0 * rI.sz by simp), nt, ir, it, nu, rfl, ia, trivial⟩ ?_
  rintro ⟨bg, cA, a6, a7⟩ oo _ iy ⟨bo, cb, cU, cB, eD, c9, cC, u, rfl, dY, K29, fQ, rfl, fR, iz, iA, iB, fS, fT, fU, -⟩ h iC
  rw [tSolve_b3] at h
  refine zam (zam (zah rfl (zag (zae (v := (zac a7)) rfl (zar (zci a7 rfl (fun eE => ?_) (fun eE => ?_)))))))
  ·
   replace h := ite_t eE h
   refine zbm (zbc (zam (zah rfl (zag (zai (v := zF) rfl ?_)))))
   refine zar (zam (zah rfl (zag (zav (v := (osv ac 0 r6.1.length ab)) zas rfl rfl (dY.at 0 rfl rfl) rfl ?_))))
   have iD := ((gZ.mono (K26 None)).mono (K29 None))
   refine zag (zcl (pre := []) (r := rTClass) (xs := aJ) zas rfl (dY.at 1 rfl rfl) iD rfl az (zag (zae (v := (zI 0)) rfl (zar ?_))))
   obtain ⟨nv, iE, lC⟩ := zee h
   refine zbt (fun e w' => ∃ (bh : (List Int)) (bu : (List Int)) (aN : (List Bool)) (a8 : Bool) (cc : Option Nat) (cO : Nat) (dZ : List Value) (da : List Value) (eF : Nat) (db : List Value) (dc : List Value) (u : Env), (bh, bu, aN, a8) = nv ∧ e = upds [(4, (zal (some ⟨ad, 0, none⟩))), (5, (osv aa 0 r6.2.1.length al)), (8, (osv cc 0 eF cO)), (9, (osv (some ao) 0 bm.length bP)), (10, (osv (some ak) 0 bp.length bY)), (12, (zac a8))] u ∧ vL w w' [some ad, ac, aa, cc, some ao, some ak] [zab [(osv ac 0 r6.1.length ab)], zab ([] ++ (an ++ ah)), zab ([] ++ (ai ++ ag)), zab ([] ++ (da ++ dZ)), zab ([] ++ (db ++ [])), zab ([] ++ (dc ++ []))] ∧ Keep w.heap.size [some ad, ac, aa, bo, some ao, some ak] iy [some ad, ac, aa, cc, some ao, some ak] w' ∧ Els rI (vH w None [some ad, ac, aa, cc, some ao, some ak] w') da bh ∧ eF = List.length bh ∧ (da ++ dZ).length = cO * rI.sz ∧ Els rI (vH w None [some ad, ac, aa, cc, some ao, some ak] w') db bu ∧ bm.length = List.length bu ∧ (db ++ []).length = bP * rI.sz ∧ Els rBool (vH w None [some ad, ac, aa, cc, some ao, some ak] w') dc aN ∧ bp.length = List.length aN ∧ (dc ++ []).length = bY * rBool.sz ∧ True) ?_ ?_
   ·
    refine zbc ?_
    refine zbx iE (fun (ss : ((List Int) × (List Int) × (List Bool) × Bool × Int)) (e : Env) (w' : World) => match ss with | (aF, bi, ap, aO, be) => ∃ (a9 : Option Nat) (bl : Nat) (cD : List Value) (cd : List Value) (eG : Nat) (b3 : List Value) (cE : List Value) (u : Env), e = upds [(4, (zal (some ⟨ad, 0, none⟩))), (5, (osv aa 0 r6.2.1.length al)), (8, (osv a9 0 eG bl)), (9, (osv (some ao) 0 bm.length bP)), (10, (osv (some ak) 0 bp.length bY)), (12, (zac aO)), (83, (zI (aJ.length : Int))), (84, (zI be))] u ∧ vL w w' [some ad, ac, aa, a9, some ao, some ak] [zab [(osv ac 0 r6.1.length ab)], zab ([] ++ (an ++ ah)), zab ([] ++ (ai ++ ag)), zab ([] ++ (cd ++ cD)), zab ([] ++ (b3 ++ [])), zab ([] ++ (cE ++ []))] ∧ Keep w.heap.size [some ad, ac, aa, bo, some ao, some ak] iy [some ad, ac, aa, a9, some ao, some ak] w' ∧ Els rI (vH w None [some ad, ac, aa, a9, some ao, some ak] w') cd aF ∧ eG = List.length aF ∧ (cd ++ cD).length = bl * rI.sz ∧ Els rI (vH w None [some ad, ac, aa, a9, some ao, some ak] w') b3 bi ∧ bm.length = List.length bi ∧ (b3 ++ []).length = bP * rI.sz ∧ Els rBool (vH w None [some ad, ac, aa, a9, some ao, some ak] w') cE ap ∧ bp.length = List.length ap ∧ (cE ++ []).length = bY * rBool.sz ∧ True) ⟨bo, cb, cU, cB, bg.length, c9, cC, _, (zef ⟨rfl, rfl, rfl, rfl, rfl, rfl, rfl, rfl, trivial⟩), dY, zbp, fQ, rfl, fR, iz, iA, iB, fS, fT, fU, trivial⟩ ?_
    rintro ⟨aF, bi, ap, aO, be⟩ oo _ nw ⟨a9, bl, cD, cd, eG, b3, cE, u, rfl, d0, K30, eH, rfl, eI, d1, d2, eJ, d3, cV, eK, -⟩ h iF
    rw [tSolve_b4] at h
    refine zam (zah rfl (zag (zcf ((be : Int) < (aJ.length : Int)) rfl rfl zbg (zar (zam (zbi ((be : Int) < (aJ.length : Int)) rfl (fun eL => ?_) (fun eL => ?_)))))))
    ·
     replace h := ite_t eL h
     refine zbm (zam (zbc (zam (zah rfl (zag (zae (v := (zI be)) rfl ?_))))))
     refine zag (zai (v := (zI be)) rfl (zar (zam ?_)))
     obtain ⟨nx, h, ny⟩ := zee h
     refine zbt (fun e w' => ∃ (g1 : Bool) (u : Env), g1 = nx ∧ e = upds [(4, (zal (some ⟨ad, 0, none⟩))), (5, (osv aa 0 r6.2.1.length al)), (8, (osv a9 0 aF.length bl)), (9, (osv (some ao) 0 bm.length bP)), (10, (osv (some ak) 0 bp.length bY)), (12, (zac aO)), (13, (zI be)), (83, (zI (aJ.length : Int))), (84, (zI be)), (104, (zac g1))] u ∧ vL w w' [some ad, ac, aa, a9, some ao, some ak] [zab [(osv ac 0 r6.1.length ab)], zab ([] ++ (an ++ ah)), zab ([] ++ (ai ++ ag)), zab ([] ++ (cd ++ cD)), zab ([] ++ (b3 ++ [])), zab ([] ++ (cE ++ []))] ∧ Keep w.heap.size [some ad, ac, aa, a9, some ao, some ak] nw [some ad, ac, aa, a9, some ao, some ak] w' ∧ True) ?_ ?_
     ·
      obtain ⟨eM, fm, lD, nz, lE, h⟩ := zix h
      obtain ⟨nA, q77, nB, lF⟩ := zeo (pre := []) (sp := []) d3 nz
      obtain rfl := nB
      by_cases ax : (!eM) = true
      ·
       replace h := ite_t ax h
       obtain ⟨g2, g3, nC, lG, nD, h⟩ := zix h
       have lH := (iD.mono (K30 None))
       obtain ⟨iG, fV⟩ := d0.row_some 1 rfl rfl (zev (pre := []) lH lG (Nat.lt_of_sub_eq_succ rfl))
       obtain ⟨nE, q84, nF, nG⟩ := zeo (pre := []) (sp := ah) lH lG
       obtain ⟨v25, iH, v27, rfl, k25, nH, k27, -⟩ := rTClass_open nF
       have nJ := elem_part (us := [iH]) (q := 3) nG rfl
       obtain ⟨g4, iI, nK, nL, nM, h⟩ := zix h
       obtain ⟨nN, q92, nO, nP⟩ := zeo (pre := []) (sp := []) d1 nL
       obtain rfl := nO
       refine zcx 16 [] [] (fun W1 => [.det (osv (some ak) 0 bp.length bY), .det (zI be), .det (zal (some ⟨ak, (0 + fm * rBool.sz), none⟩)), .det (zac eM), .det (zac (!eM)), .det (zac (!eM)), .det (osv ac 0 r6.1.length ab), .det (zI be), .det (zal (some ⟨iG, (0 + g3 * rTClass.sz), none⟩)), .det (zal (some ⟨iG, ((0 + g3 * rTClass.sz) + 3), none⟩)), .det iH, .det (zI (g2.words.length : Int)), .det (osv (some ao) 0 bm.length bP), .det (zI be), .det (zal (some ⟨ao, (0 + iI * rI.sz), none⟩)), .det (zI g4)]) mixed rfl rfl rfl (fun _ => rfl) (fun _ => rfl) ?_ ?_
       ·
        intro W1 _
        exact trivial
       intro nQ iJ
       obtain ⟨cW, K31⟩ := zl d0 iJ
       refine zaw (fun _ _ => zaq (zae rfl (er rfl))) (zaw (fun _ _ => zaq (zae rfl (er rfl))) (zaw (fun _ _ => zaq (zbl (r := rBool) (b := ak) (o := 0) (n := fm) (m := bp.length) (xs := ap) (q := (0 + fm * rBool.sz)) zcs ti4 rfl cV rfl lD lE rfl (er rfl))) (zaw (fun _ iK => zaq (zby zdp rfl rfl ((cW.ext iK).at 5 rfl rfl) lF (er rfl))) (zaw (fun _ _ => zaq (OpY.not rfl (er rfl))) (zaw (fun _ _ => zaq (zae rfl (er rfl))) (zaw (fun _ iL => zcp rfl rfl ax (zav zas rfl rfl ((cW.ext iL).at 0 rfl rfl) rfl (er rfl))) ?_))))))
       refine zaw (fun _ _ => zcp rfl rfl ax (zae rfl (er rfl))) (zaw (fun _ _ => zcp rfl rfl ax (zbl (r := rTClass) (b := iG) (o := 0) (n := g3) (m := r6.1.length) (xs := aJ) (q := (0 + g3 * rTClass.sz)) zas ti56 (zen fV) az rfl nC nD rfl (er rfl))) (zaw (fun _ _ => zcp rfl rfl ax (zat zbq rfl ti27 rfl rfl rfl (er rfl))) (zaw (fun _ iM => zcp rfl rfl ax (zby zaz rfl rfl (zer fV ((cW.ext iM).at 1 rfl rfl)) nJ (er rfl))) (zaw (fun _ iN => zcp rfl rfl ax (zcc (v := iH) zaz rfl ((nH.mono (K31 None)).mono ((ke cW iN) None)) (er rfl))) (zaw (fun _ _ => zcp rfl rfl ax (zae rfl (er rfl))) (zaw (fun _ _ => zcp rfl rfl ax (zae rfl (er rfl))) ?_))))))
       refine zaw (fun _ _ => zcp rfl rfl ax (zbl (r := rI) (b := ao) (o := 0) (n := iI) (m := bm.length) (xs := bi) (q := (0 + iI * rI.sz)) zan ti3 rfl d2 rfl nK nM rfl (er rfl))) (zaw (fun _ iO => zcp rfl rfl ax (zby zay rfl rfl ((cW.ext iO).at 4 rfl rfl) nP (er rfl))) (zdd ?_))
       rintro w57 Z51 iP nR ⟨-⟩ nS
       have nT := @zhb nQ Z51
       obtain ⟨iQ, K33⟩ := zl cW iP
       refine zbb rfl rfl ax (OpY.gtr (((g2.words.length : Int) : Int) > g4) rfl rfl zbg (zag (zbo (v := (zac (decide (((g2.words.length : Int) : Int) > g4)))) rfl ax rfl (zar ?_))))
       obtain rfl := zad h
       refine zap ?_
       exact ⟨(decide (((g2.words.length : Int) : Int) > g4)), _, rfl, (zef ⟨rfl, rfl, rfl, rfl, rfl, rfl, rfl, rfl, rfl, rfl, trivial⟩), iQ, (zak K31 K33), trivial⟩
      replace h := ite_f ax h
      refine zcx 16 [] [] (fun W1 => [.det (osv (some ak) 0 bp.length bY), .det (zI be), .det (zal (some ⟨ak, (0 + fm * rBool.sz), none⟩)), .det (zac eM), .det (zac (!eM)), .det (zac (!eM)), .det undef, .det undef, .det undef, .det undef, .det undef, .det undef, .det undef, .det undef, .det undef, .det undef]) mixed rfl rfl rfl (fun _ => rfl) (fun _ => rfl) ?_ ?_
      ·
       intro W1 _
       exact trivial
      intro nU iR
      obtain ⟨fW, K34⟩ := zl d0 iR
      refine zaw (fun _ _ => zaq (zae rfl (er rfl))) (zaw (fun _ _ => zaq (zae rfl (er rfl))) (zaw (fun _ _ => zaq (zbl (r := rBool) (b := ak) (o := 0) (n := fm) (m := bp.length) (xs := ap) (q := (0 + fm * rBool.sz)) zcs ti4 rfl cV rfl lD lE rfl (er rfl))) (zaw (fun _ iS => zaq (zby zdp rfl rfl ((fW.ext iS).at 5 rfl rfl) lF (er rfl))) (zaw (fun _ _ => zaq (OpY.not rfl (er rfl))) (zaw (fun _ _ => zaq (zae rfl (er rfl))) (zaw (fun _ _ => zdh rfl rfl (zeg ax) (er rfl)) ?_))))))
      refine zaw (fun _ _ => zdh rfl rfl (zeg ax) (er rfl)) (zaw (fun _ _ => zdh rfl rfl (zeg ax) (er rfl)) (zaw (fun _ _ => zdh rfl rfl (zeg ax) (er rfl)) (zaw (fun _ _ => zdh rfl rfl (zeg ax) (er rfl)) (zaw (fun _ _ => zdh rfl rfl (zeg ax) (er rfl)) (zaw (fun _ _ => zdh rfl rfl (zeg ax) (er rfl)) (zaw (fun _ _ => zdh rfl rfl (zeg ax) (er rfl)) ?_))))))
      refine zaw (fun _ _ => zdh rfl rfl (zeg ax) (er rfl)) (zaw (fun _ _ => zdh rfl rfl (zeg ax) (er rfl)) (zdd ?_))
      rintro w75 Z68 iT nW ⟨-⟩ nX
      have nY := @zhb nU Z68
      obtain ⟨iU, K35⟩ := zl fW iT
      refine zbj rfl rfl (zeg ax) (zag (zbk (v := zF) rfl (zeg ax) rfl (zar ?_)))
      obtain rfl := zad h
      refine zap ?_
      exact ⟨false, _, rfl, (zef ⟨rfl, rfl, rfl, rfl, rfl, rfl, rfl, rfl, rfl, rfl, trivial⟩), iU, (zak K34 K35), trivial⟩
     rintro _ w76 ⟨g1, u, rfl, rfl, fX, K36, -⟩
     replace h := ny
     try dsimp only at h
     refine zci g1 rfl (fun eN => ?_) (fun eN => ?_)
     ·
      replace h := ite_t eN h
      refine zam (zah rfl (zag (zae (v := (osv (some ak) 0 bp.length bY)) rfl (zag (zae (v := (zI be)) rfl ?_)))))
      obtain ⟨x27, lI, lJ, q97, lK, h⟩ := zix h
      refine zag (zbl (r := rBool) (b := ak) (o := 0) (n := lI) (m := bp.length) (xs := ap) (q := (0 + lI * rBool.sz)) zcs ti4 rfl cV rfl lJ lK rfl ?_)
      obtain ⟨lL, n22, iV, nZ, fY, h⟩ := zux h
      obtain rfl := zin lJ iV
      have n0 := (d3.mono (K36 None))
      refine zdj (zdg (pre := []) (r := rBool) (vs := [zT]) (a := true) ti4 rfl rfl rfl rfl fX 5 rfl rfl n0 lK rfl fY ?_)
      have iW : bp.length = List.length lL := by rw [fY, List.length_set]; exact cV
      intro n1 dd iX iY iZ i0
      have i1 : (dd ++ []).length = bY * rBool.sz := zhc eK i0
      have K37 := ks w iY
      refine zag (zai (v := zT) rfl (zar (zam (zah rfl (zag (zae (v := (osv a9 0 aF.length bl)) rfl (zag (zae (v := (zI be)) rfl ?_))))))))
      have fZ : Els rI (vH w None [some ad, ac, aa, a9, some ao, some ak] n1) [(zI be)] [be] := (zcq (a := [(zI be)]) rfl zcn)
      refine zag (zco (r := rI) (vs := [(zI be)]) (css := [[(zI be)]]) (xs := [be]) zan ti3 (zaj rfl) rfl rfl ⟨rfl, rfl, trivial⟩ (zaj rfl) fZ rfl iX ?_)
      intro i2 n2 n3 f0 i3
      have K38 := ks w i3
      obtain ⟨fo, i4, h⟩ := zee h
      obtain ⟨i5, i6, i7⟩ := zep i4
      have lM := (fZ.mono (K38 None))
      have n4 := (((eH.mono (K36 None)).mono (K37 None)).mono (K38 None))
      refine zag (zcz (r := rI) (H := (vH w None [some i2, some ad, ac, aa, a9, some ao, some ak] n2)) (cs := cd) (sp := cD) (xs := aF) (ys := [be]) (Y := fo) (n := aF.length) (cap := bl) (i := 4) zan ti3 rfl rfl rfl rfl f0 rfl rfl n4 rfl eI (zdu (pre := []) (o := 0) (n := 1) (cap := 1) (f0.at 0 rfl rfl) lM rfl rfl rfl) (zcj (fun _ _ _ _ h => h) lM) i5 i6 i7 ?_)
      intro bj cP d4 d5 i9 ja jb d6 jc
      have K39 := ks w jc
      refine zag (zai (v := (osv bj 0 fo.length cP)) rfl (zar (zam (zah rfl (zag (zav (v := (osv ac 0 r6.1.length ab)) zas rfl rfl (d6.at 1 rfl rfl) rfl (zag (zae (v := (zI be)) rfl ?_))))))))
      obtain ⟨jd, je, jf, f1, jg, h⟩ := zix h
      have lN := (((((iD.mono (K30 None)).mono (K36 None)).mono (K37 None)).mono (K38 None)).mono (K39 None))
      obtain ⟨n5, f2⟩ := d6.row_some 2 rfl rfl (zev (pre := []) lN f1 (Nat.lt_of_sub_eq_succ rfl))
      refine zag (zbl (r := rTClass) (b := n5) (o := 0) (n := je) (m := r6.1.length) (xs := aJ) (q := (0 + je * rTClass.sz)) zas ti56 (zen f2) az rfl jf jg rfl (zag (zat (q := ((0 + je * rTClass.sz) + 4)) zbq rfl ti22 rfl rfl rfl ?_)))
      obtain ⟨n6, n7, jh, ji⟩ := zeo (pre := []) (sp := ah) lN f1
      obtain ⟨v28, v29, f3, rfl, k28, k29, lO, -⟩ := rTClass_open jh
      have jj := elem_part (us := [f3]) (q := 4) ji rfl
      refine zag (zby (v := f3) zan rfl rfl (zer f2 (d6.at 2 rfl rfl)) jj (zag (zcc (v := f3) zan rfl lO (zag (zae (v := (zI 0)) rfl (zar ?_))))))
      obtain ⟨n8, jk, lP⟩ := zee h
      refine zbt (fun e w' => ∃ (bw : (List Int)) (dh : List Value) (u : Env), bw = n8 ∧ e = upds [(4, (zal (some ⟨ad, 0, none⟩))), (5, (osv aa 0 r6.2.1.length al)), (8, (osv bj 0 fo.length cP)), (9, (osv (some ao) 0 bm.length bP)), (10, (osv (some ak) 0 bp.length bY)), (12, zT), (83, (zI (aJ.length : Int))), (84, (zI be))] u ∧ vL w w' [some ad, ac, aa, bj, some ao, some ak] [zab [(osv ac 0 r6.1.length ab)], zab ([] ++ (an ++ ah)), zab ([] ++ (ai ++ ag)), zab ([] ++ (d5 ++ d4)), zab ([] ++ (dh ++ [])), zab ([] ++ (dd ++ []))] ∧ Keep w.heap.size [some i2, some ad, ac, aa, bj, some ao, some ak] i9 [some ad, ac, aa, bj, some ao, some ak] w' ∧ Els rI (vH w None [some ad, ac, aa, bj, some ao, some ak] w') dh bw ∧ bm.length = List.length bw ∧ (dh ++ []).length = bP * rI.sz ∧ True) ?_ ?_
      ·
       refine zbc ?_
       have f4 := d6.pick [1, 2, 3, 4, 5, 6] rfl rfl rfl
       have jl : vL w i9 [some ad, ac, aa, bj, some ao, some ak] [zab [(osv ac 0 r6.1.length ab)], zab ([] ++ (an ++ ah)), zab ([] ++ (ai ++ ag)), zab ([] ++ (d5 ++ d4)), zab ([] ++ (b3 ++ [])), zab ([] ++ (dd ++ []))] := f4.1
       have K40 := ks w f4.2
       have n9 := (((((d1.mono (K36 None)).mono (K37 None)).mono (K38 None)).mono (K39 None)).mono (K40 None))
       refine zbx jk (fun (ss : ((List Int) × Int)) (e : Env) (w' : World) => match ss with | (bk, eO) => ∃ (di : List Value) (u : Env), e = upds [(4, (zal (some ⟨ad, 0, none⟩))), (5, (osv aa 0 r6.2.1.length al)), (8, (osv bj 0 fo.length cP)), (9, (osv (some ao) 0 bm.length bP)), (10, (osv (some ak) 0 bp.length bY)), (12, zT), (83, (zI (aJ.length : Int))), (84, (zI be)), (116, f3), (117, (zI (jd.apart.length : Int))), (118, (zI eO))] u ∧ vL w w' [some ad, ac, aa, bj, some ao, some ak] [zab [(osv ac 0 r6.1.length ab)], zab ([] ++ (an ++ ah)), zab ([] ++ (ai ++ ag)), zab ([] ++ (d5 ++ d4)), zab ([] ++ (di ++ [])), zab ([] ++ (dd ++ []))] ∧ Keep w.heap.size [some i2, some ad, ac, aa, bj, some ao, some ak] i9 [some ad, ac, aa, bj, some ao, some ak] w' ∧ Els rI (vH w None [some ad, ac, aa, bj, some ao, some ak] w') di bk ∧ bm.length = List.length bk ∧ (di ++ []).length = bP * rI.sz ∧ True) ⟨b3, _, (zef ⟨rfl, rfl, rfl, rfl, rfl, rfl, rfl, rfl, rfl, rfl, rfl, trivial⟩), jl, K40, n9, d2, eJ, trivial⟩ ?_
       rintro ⟨bk, eO⟩ oo _ w80 ⟨di, u, rfl, eP, K41, eQ, d7, f5, -⟩ h jm
       rw [tSolve_b5] at h
       refine zam (zah rfl (zag (zcf ((eO : Int) < (jd.apart.length : Int)) rfl rfl zbg (zar (zam (zbi ((eO : Int) < (jd.apart.length : Int)) rfl (fun eR => ?_) (fun eR => ?_)))))))
       ·
        replace h := ite_t eR h
        refine zbm (zam (zbc (zam (zah rfl ?_))))
        obtain ⟨jn, lQ, jo, f6, -, h⟩ := zix h
        have oa := (lO.mono (K41 None))
        obtain ⟨b18, oc, c10, od, jp, oe, og, jq⟩ := zcy oa f6
        obtain rfl := jq
        refine zag (zbs (r := rI) (v := f3) (n := lQ) (m := (oc + lQ * rI.sz)) zan ti3 rfl jp rfl jo f6 rfl (zag (zbu (v := (zI jn)) zay rfl rfl zek og (zag (zai (v := (zI jn)) rfl (zar (zah rfl (zag (zae (v := (osv (some ao) 0 bm.length bP)) rfl (zag (zae (v := (zI jn)) rfl ?_)))))))))))
        obtain ⟨g5, lR, jr, js, jt, h⟩ := zix h
        refine zag (zbl (r := rI) (b := ao) (o := 0) (n := lR) (m := bm.length) (xs := bk) (q := (0 + lR * rI.sz)) zan ti3 rfl d7 rfl jr jt rfl ?_)
        obtain ⟨oh, oi, ju, jv⟩ := zeo (pre := []) (sp := []) eQ js
        obtain rfl := ju
        refine zag (zby (v := (zI g5)) zay rfl rfl (eP.at 4 rfl rfl) jv (zag (OpY.sub (z := (iw (g5 - 1))) rfl rfl rfl ?_)))
        obtain ⟨x34, lS, f7, oj, f8, h⟩ := zix h
        refine zag (zbl (r := rI) (b := ao) (o := 0) (n := lS) (m := bm.length) (xs := bk) (q := (0 + lS * rI.sz)) zan ti3 rfl d7 rfl f7 f8 rfl ?_)
        obtain ⟨lT, n27, jw, ol, f9, h⟩ := zux h
        obtain rfl := zin f7 jw
        refine zdj (zdg (pre := []) (r := rI) (vs := [(zI (iw (g5 - 1)))]) (a := (iw (g5 - 1))) ti3 rfl rfl rfl rfl eP 4 rfl rfl eQ f8 rfl f9 ?_)
        have jx : bm.length = List.length lT := by rw [f9, List.length_set]; exact d7
        intro w81 ga jy jz jA jB
        have jC : (ga ++ []).length = bP * rI.sz := zhc f5 jB
        have K42 := ks w jz
        refine zar (zbe (zah rfl (zag (zca (z := (iw (eO + 1))) rfl rfl rfl ?_))))
        refine zag (zae (v := (zI (iw (eO + 1)))) rfl (zar ?_))
        have om := (jA.mono (K42 None))
        obtain rfl := zad h
        refine zap ⟨(lT, (iw (eO + 1))), rfl, ?_⟩
        exact ⟨ga, _, (zef ⟨rfl, rfl, rfl, rfl, rfl, rfl, rfl, rfl, rfl, rfl, rfl, trivial⟩), jy, (zak K41 K42), om, jx, jC, trivial⟩
       replace h := ite_f eR h
       refine zcd rfl ?_
       obtain rfl := zad h
       obtain rfl := jm _ rfl
       replace h := lP
       try dsimp only at h
       refine zap ?_
       exact ⟨bk, di, _, rfl, (zef ⟨rfl, rfl, rfl, rfl, rfl, rfl, rfl, rfl, trivial⟩), eP, K41, eQ, d7, f5, trivial⟩
      rintro _ w82 ⟨bw, dh, u, rfl, rfl, jD, K43, jE, jF, jG, -⟩
      replace h := lP
      try dsimp only at h
      refine zbe (zah rfl (zag (zca (z := (iw (be + 1))) rfl rfl rfl ?_)))
      refine zag (zae (v := (zI (iw (be + 1)))) rfl (zar ?_))
      have oq := ((ja.mono (K39 None)).mono (K43 None))
      have ot := ((((iZ.mono (K37 None)).mono (K38 None)).mono (K39 None)).mono (K43 None))
      obtain rfl := zad h
      refine zap ⟨(fo, bw, lL, true, (iw (be + 1))), rfl, ?_⟩
      exact ⟨bj, cP, d4, d5, fo.length, dh, dd, _, (zef ⟨rfl, rfl, rfl, rfl, rfl, rfl, rfl, rfl, trivial⟩), jD, (zak (zak (zak (zak (zak K30 K36) K37) K38) K39) K43), oq, rfl, jb, jE, jF, jG, ot, iW, i1, trivial⟩
     replace h := ite_f eN h
     refine zbm (zbe (zah rfl (zag (zca (z := (iw (be + 1))) rfl rfl rfl ?_))))
     refine zag (zae (v := (zI (iw (be + 1)))) rfl (zar ?_))
     have ou := (eH.mono (K36 None))
     have ov := (d1.mono (K36 None))
     have ow := (d3.mono (K36 None))
     obtain rfl := zad h
     refine zap ⟨(aF, bi, ap, aO, (iw (be + 1))), rfl, ?_⟩
     exact ⟨a9, bl, cD, cd, aF.length, b3, cE, _, (zef ⟨rfl, rfl, rfl, rfl, rfl, rfl, rfl, rfl, trivial⟩), fX, (zak K30 K36), ou, rfl, eI, ov, d2, eJ, ow, cV, eK, trivial⟩
    replace h := ite_f eL h
    refine zcd rfl ?_
    obtain rfl := zad h
    obtain rfl := iF _ rfl
    replace h := lC
    try dsimp only at h
    refine zap ?_
    exact ⟨aF, bi, ap, aO, a9, bl, cD, cd, aF.length, b3, cE, _, rfl, (zef ⟨rfl, rfl, rfl, rfl, rfl, rfl, trivial⟩), d0, K30, eH, rfl, eI, d1, d2, eJ, d3, cV, eK, trivial⟩
   rintro _ w83 ⟨bh, bu, aN, a8, cc, cO, dZ, da, eF, db, dc, u, rfl, rfl, jH, K44, jI, rfl, jJ, jK, jL, jM, jN, jO, jP, -⟩
   replace h := lC
   try dsimp only at h
   refine zbe ?_
   obtain rfl := zad h
   refine zap ⟨(bh, bu, aN, a8), rfl, ?_⟩
   exact ⟨cc, cO, dZ, da, bh.length, db, dc, _, (zef ⟨rfl, rfl, rfl, rfl, rfl, rfl, trivial⟩), jH, (zak K29 K44), jI, rfl, jJ, jK, jL, jM, jN, jO, jP, trivial⟩
  replace h := ite_f eE h
  refine zcd rfl ?_
  have gb := dY.pick [0, 1, 2, 3, 5] rfl rfl rfl
  have jQ : vL w iy [some ad, ac, aa, bo, some ak] [zab [(osv ac 0 r6.1.length ab)], zab ([] ++ (an ++ ah)), zab ([] ++ (ai ++ ag)), zab ([] ++ (cB ++ cU)), zab ([] ++ (cC ++ []))] := gb.1
  have K45 := ks w gb.2
  have ox := (fQ.mono (K45 None))
  have oy := (fS.mono (K45 None))
  obtain rfl := zad h
  obtain rfl := iC _ rfl
  replace h := lB
  try dsimp only at h
  refine zap ?_
  exact ⟨bg, a6, bo, cb, cU, cB, bg.length, cC, _, rfl, (zef ⟨rfl, rfl, rfl, rfl, trivial⟩), jQ, (zak K29 K45), ox, rfl, fR, oy, fT, fU, trivial⟩
 rintro _ g6 ⟨aq, aL, ae, aM, br, bn, eC, ca, u, rfl, rfl, eS, K46, jR, rfl, jS, jT, jU, oz, -⟩
 replace h := lB
 try dsimp only at h
 refine zam (zah rfl (zag (zai (v := zN) rfl (zar (zam (zam (zah rfl (zag (zav (v := (osv ac 0 r6.1.length ab)) zas rfl rfl (eS.at 0 rfl rfl) rfl ?_)))))))))
 have lU := ((gZ.mono (K26 None)).mono (K46 None))
 refine zag (zcl (pre := []) (r := rTClass) (xs := aJ) zas rfl (eS.at 1 rfl rfl) lU rfl az (zag (zae (v := (zI 0)) rfl (zar ?_))))
 obtain ⟨oA, jV, lV⟩ := zee h
 refine zbt (fun e w' => ∃ (aA : (List Int)) (aC : Option Nat) (aT : Nat) (d8 : List Value) (dj : List Value) (eT : Nat) (u : Env), aA = oA ∧ e = upds [(4, (zal (some ⟨ad, 0, none⟩))), (5, (osv aa 0 r6.2.1.length al)), (8, (osv ae 0 aq.length aM)), (16, (osv aC 0 eT aT))] u ∧ vL w w' [some ad, ac, aa, ae, aC] [zab [(osv ac 0 r6.1.length ab)], zab ([] ++ (an ++ ah)), zab ([] ++ (ai ++ ag)), zab ([] ++ (bn ++ br)), zab ([] ++ (dj ++ d8))] ∧ Keep w.heap.size [some ad, ac, aa, ae, some ak] g6 [some ad, ac, aa, ae, aC] w' ∧ Els rI (vH w None [some ad, ac, aa, ae, aC] w') dj aA ∧ eT = List.length aA ∧ (dj ++ d8).length = aT * rI.sz ∧ True) ?_ ?_
 ·
  refine zbc ?_
  have gc := eS.addNil
  have jW : vL w g6 [none, some ad, ac, aa, ae, some ak] [zab ([] ++ ([] ++ [])), zab [(osv ac 0 r6.1.length ab)], zab ([] ++ (an ++ ah)), zab ([] ++ (ai ++ ag)), zab ([] ++ (bn ++ br)), zab ([] ++ (ca ++ []))] := gc.1
  have K47 := ks w gc.2
  have gd := jW.pick [1, 2, 3, 4, 5, 0] rfl rfl rfl
  have jX : vL w g6 [some ad, ac, aa, ae, some ak, none] [zab [(osv ac 0 r6.1.length ab)], zab ([] ++ (an ++ ah)), zab ([] ++ (ai ++ ag)), zab ([] ++ (bn ++ br)), zab ([] ++ (ca ++ [])), zab ([] ++ ([] ++ []))] := gd.1
  have K48 := ks w gd.2
  have oB := ((zcn (r := rI)).mono (K48 None))
  refine zbx jV (fun (ss : ((List Int) × Int)) (e : Env) (w' : World) => match ss with | (aK, bQ) => ∃ (bx : Option Nat) (bz : Nat) (cF : List Value) (ce : List Value) (eU : Nat) (u : Env), e = upds [(4, (zal (some ⟨ad, 0, none⟩))), (5, (osv aa 0 r6.2.1.length al)), (8, (osv ae 0 aq.length aM)), (10, (osv (some ak) 0 bp.length bY)), (16, (osv bx 0 eU bz)), (131, (zI (aJ.length : Int))), (132, (zI bQ))] u ∧ vL w w' [some ad, ac, aa, ae, some ak, bx] [zab [(osv ac 0 r6.1.length ab)], zab ([] ++ (an ++ ah)), zab ([] ++ (ai ++ ag)), zab ([] ++ (bn ++ br)), zab ([] ++ (ca ++ [])), zab ([] ++ (ce ++ cF))] ∧ Keep w.heap.size [some ad, ac, aa, ae, some ak] g6 [some ad, ac, aa, ae, some ak, bx] w' ∧ Els rI (vH w None [some ad, ac, aa, ae, some ak, bx] w') ce aK ∧ eU = List.length aK ∧ (ce ++ cF).length = bz * rI.sz ∧ True) ⟨none, 0, [], [], (List.length ([] : (List Int))), _, (zef ⟨rfl, rfl, rfl, rfl, rfl, rfl, rfl, trivial⟩), jX, (zak K47 K48), oB, rfl, (show ([] ++ [] : List Value).length = 0 * rI.sz by simp), trivial⟩ ?_
  rintro ⟨aK, bQ⟩ oo _ lW ⟨bx, bz, cF, ce, eU, u, rfl, d9, K49, eV, rfl, eW, -⟩ h jY
  rw [tSolve_b6] at h
  refine zam (zah rfl (zag (zcf ((bQ : Int) < (aJ.length : Int)) rfl rfl zbg (zar (zam (zbi ((bQ : Int) < (aJ.length : Int)) rfl (fun eX => ?_) (fun eX => ?_)))))))
  ·
   replace h := ite_t eX h
   refine zbm (zam (zbc (zam (zah rfl (zag (zae (v := (zI bQ)) rfl ?_))))))
   refine zag (zai (v := (zI bQ)) rfl (zar (zam (zah rfl (zag (zae (v := (osv (some ak) 0 bp.length bY)) rfl (zag (zae (v := (zI bQ)) rfl ?_))))))))
   obtain ⟨jZ, lX, j0, j1, j2, h⟩ := zix h
   refine zag (zbl (r := rBool) (b := ak) (o := 0) (n := lX) (m := bp.length) (xs := aL) (q := (0 + lX * rBool.sz)) zcs ti4 rfl jU rfl j0 j2 rfl ?_)
   have oC := (jT.mono (K49 None))
   obtain ⟨oD, oE, j3, j4⟩ := zeo (pre := []) (sp := []) oC j1
   obtain rfl := j3
   refine zag (zby (v := (zac jZ)) zdp rfl rfl (d9.at 4 rfl rfl) j4 (zag (OpY.not (x := jZ) rfl (zar (zci (!jZ) rfl (fun eY => ?_) (fun eY => ?_))))))
   ·
    replace h := ite_t eY h
    refine zah rfl (zag (zae (v := (osv bx 0 aK.length bz)) rfl (zag (zae (v := (zI bQ)) rfl ?_))))
    have gf : Els rI (vH w None [some ad, ac, aa, ae, some ak, bx] lW) [(zI bQ)] [bQ] := (zcq (a := [(zI bQ)]) rfl zcn)
    refine zag (zco (r := rI) (vs := [(zI bQ)]) (css := [[(zI bQ)]]) (xs := [bQ]) zan ti3 (zaj rfl) rfl rfl ⟨rfl, rfl, trivial⟩ (zaj rfl) gf rfl d9 ?_)
    intro oF oG oH gg j5
    have K50 := ks w j5
    obtain ⟨g7, j6, h⟩ := zee h
    obtain ⟨j7, j8, j9⟩ := zep j6
    have lY := (gf.mono (K50 None))
    have oI := (eV.mono (K50 None))
    refine zag (zcz (r := rI) (H := (vH w None [some oF, some ad, ac, aa, ae, some ak, bx] oG)) (cs := ce) (sp := cF) (xs := aK) (ys := [bQ]) (Y := g7) (n := aK.length) (cap := bz) (i := 6) zan ti3 rfl rfl rfl rfl gg rfl rfl oI rfl eW (zdu (pre := []) (o := 0) (n := 1) (cap := 1) (gg.at 0 rfl rfl) lY rfl rfl rfl) (zcj (fun _ _ _ _ h => h) lY) j7 j8 j9 ?_)
    intro eZ ee gh gi oJ ka kc kd kf
    have K51 := ks w kf
    refine zag (zai (v := (osv eZ 0 g7.length ee)) rfl (zar (zbe (zah rfl (zag (zca (z := (iw (bQ + 1))) rfl rfl rfl (zag (zae (v := (zI (iw (bQ + 1)))) rfl (zar ?_)))))))))
    have gj := kd.pick [1, 2, 3, 4, 5, 6] rfl rfl rfl
    have kg : vL w oJ [some ad, ac, aa, ae, some ak, eZ] [zab [(osv ac 0 r6.1.length ab)], zab ([] ++ (an ++ ah)), zab ([] ++ (ai ++ ag)), zab ([] ++ (bn ++ br)), zab ([] ++ (ca ++ [])), zab ([] ++ (gi ++ gh))] := gj.1
    have K52 := ks w gj.2
    have oK := ((ka.mono (K51 None)).mono (K52 None))
    obtain rfl := zad h
    refine zap ⟨(g7, (iw (bQ + 1))), rfl, ?_⟩
    exact ⟨eZ, ee, gh, gi, g7.length, _, (zef ⟨rfl, rfl, rfl, rfl, rfl, rfl, rfl, trivial⟩), kg, (zak (zak (zak K49 K50) K51) K52), oK, rfl, kc, trivial⟩
   replace h := ite_f eY h
   refine zbm (zbe (zah rfl (zag (zca (z := (iw (bQ + 1))) rfl rfl rfl ?_))))
   refine zag (zae (v := (zI (iw (bQ + 1)))) rfl (zar ?_))
   obtain rfl := zad h
   refine zap ⟨(aK, (iw (bQ + 1))), rfl, ?_⟩
   exact ⟨bx, bz, cF, ce, aK.length, _, (zef ⟨rfl, rfl, rfl, rfl, rfl, rfl, rfl, trivial⟩), d9, K49, eV, rfl, eW, trivial⟩
  replace h := ite_f eX h
  refine zcd rfl ?_
  have gk := d9.pick [0, 1, 2, 3, 5] rfl rfl rfl
  have kh : vL w lW [some ad, ac, aa, ae, bx] [zab [(osv ac 0 r6.1.length ab)], zab ([] ++ (an ++ ah)), zab ([] ++ (ai ++ ag)), zab ([] ++ (bn ++ br)), zab ([] ++ (ce ++ cF))] := gk.1
  have K53 := ks w gk.2
  have oL := (eV.mono (K53 None))
  obtain rfl := zad h
  obtain rfl := jY _ rfl
  replace h := lV
  try dsimp only at h
  refine zap ?_
  exact ⟨aK, bx, bz, cF, ce, aK.length, _, rfl, (zef ⟨rfl, rfl, rfl, rfl, trivial⟩), kh, (zak K49 K53), oL, rfl, eW, trivial⟩
 rintro _ w88 ⟨aA, aC, aT, d8, dj, eT, u, rfl, rfl, ea, K54, ki, rfl, kj, -⟩
 replace h := lV
 try dsimp only at h
 refine zam (zah rfl (zag (zae (v := (osv aC 0 aA.length aT)) rfl (zag (OpY.makeFunc (vs := [(zal (some ⟨ad, 0, none⟩))]) rfl ?_)))))
 obtain ⟨e2, kk, h⟩ := zee h
 have kl := ea.lendW [4] rfl rfl rfl
 have cg := (lU.mono (K54 None))
 refine zag (zdt en33 rfl rfl (sortStable_w N aA (fun oM oN => tSolve1 N oM oN aJ) aC aT dj d8 (Value.func (.func 34) #[] #[(zal (some ⟨ad, 0, none⟩))]) [aC] _ Any kl (ki.mono (zcv [4] rfl)) kj (fun w9 lZ oO oP z9 oQ => ⟨34, [(zal (some ⟨ad, 0, none⟩))], rfl, en34, (tSolve1_w N oO oP aJ ad (osv ac 0 r6.1.length ab) _ Any (own_any (own_xte ea 0 [4] rfl rfl rfl rfl lZ)) ((zet (pre := []) (o := 0) (n := r6.1.length) (cap := ab) ea 1 [4] rfl rfl rfl rfl cg (zcv [4] rfl) rfl rfl az cy).mono (any_xte lZ)) z9 oQ)⟩) e2 kk) ?_)
 rintro _ l0 ⟨ch, cG, rfl, km, K55, cX, kn, dk, -⟩
 refine ⟨_, rfl, ?_⟩
 have gl := ea.backW [4] [0, 1, 2, 3] rfl rfl rfl rfl km
 have gm : vL w l0 [aC, some ad, ac, aa, ae] [zab ([] ++ (ch ++ cG)), zab [(osv ac 0 r6.1.length ab)], zab ([] ++ (an ++ ah)), zab ([] ++ (ai ++ ag)), zab ([] ++ (bn ++ br))] := (by have h9 := gl.1; (try rw [← cX] at h9); exact h9)
 have K56 := ks w gl.2
 have dl : Els rI (vH w None [aC, some ad, ac, aa, ae] l0) ch e2 := zcj (fun _ _ _ _ h => h) kn
 refine zar (zam (zah rfl (zag (zae (v := (osv ae 0 aq.length aM)) rfl ?_))))
 obtain ⟨e3, ko, h⟩ := zee h
 have kp := gm.lendW [4] rfl rfl rfl
 have oR := ((jR.mono (K54 None)).mono (K56 None))
 refine zag (zdt en35 rfl rfl (revInt_w N aq ae aM bn br [ae] _ Any kp (oR.mono (zcv [4] rfl)) jS e3 ko) ?_)
 rintro _ kq ⟨ci, cH, rfl, kr, K57, cY, gn, oS, -⟩
 refine ⟨_, rfl, ?_⟩
 have go := gm.backW [4] [0, 1, 2, 3] rfl rfl rfl rfl kr
 have e4 : vL w kq [ae, aC, some ad, ac, aa] [zab ([] ++ (ci ++ cH)), zab ([] ++ (ch ++ cG)), zab [(osv ac 0 r6.1.length ab)], zab ([] ++ (an ++ ah)), zab ([] ++ (ai ++ ag))] := (by have h9 := go.1; (try rw [← cY] at h9); exact h9)
 have K58 := ks w go.2
 have cj : Els rI (vH w None [ae, aC, some ad, ac, aa] kq) ci e3 := zcj (fun _ _ _ _ h => h) gn
 refine zar (zam ?_)
 obtain ⟨oT, h, oU⟩ := zee h
 refine zbt (fun e w' => ∃ (ay : (List (List UInt8))) (e5 : Bool) (cZ : Bool) (ba : Option Nat) (ck : Nat) (cI : List Value) (cJ : List Value) (e6 : Nat) (u : Env), (ay, e5, cZ) = oT ∧ e = upds [(5, (osv aa 0 r6.2.1.length al)), (18, (bif e5 then (osv ba 0 e6 ck) else zau none 0 0)), (19, (zac cZ))] u ∧ vL w w' [aa, ba] [zab ([] ++ (ai ++ ag)), zab ([] ++ (cJ ++ cI))] ∧ Keep w.heap.size [ae, aC, some ad, ac, aa] kq [aa, ba] w' ∧ Els rStr (vH w None [aa, ba] w') cJ ay ∧ e6 = List.length ay ∧ (cJ ++ cI).length = ck * rStr.sz ∧ True) ?_ ?_
 ·
  obtain ⟨bA, kt, h⟩ := zee h
  obtain ⟨dm, dn, dp⟩ := zep kt
  obtain ⟨aD, ku, h⟩ := zee h
  obtain ⟨aE, dq, dr, ds, dt⟩ := mk1_some ku
  obtain ⟨fp, kv, h⟩ := zee h
  obtain ⟨fq, du, dv, dw, dx⟩ := mk1_some kv
  refine Swp.drawF (O := [ae, aC, some ad, ac, aa]) [3, 6, 9, 10] [0, 1, 2, 4, 5, 7, 8, 11, 12, 13, 14, 15] [0, 1, 2, 4, 5, 7, 8] [] [(151, (osv ac 0 r6.1.length ab)), (152, (osv aC 0 aA.length aT)), (153, (osv ae 0 aq.length aM)), (155, (osv ac 0 r6.1.length ab)), (156, (zI (aJ.length : Int))), (158, (osv ac 0 r6.1.length ab)), (159, (zI (aJ.length : Int)))] (fun f v O w' => Rs rI (vH w None O w') v []) w.heap.size mixed rfl rfl rfl rfl (fun b hb => e4.own.lt b hb) e4.size (fun _ _ _ _ _ _ h hs => h.mono (hs _)) FloatP.nil ?_
  intro w91 gp
  obtain ⟨eb, K59⟩ := zl e4 gp
  refine ⟨?_, ?_⟩
  ·
   intro w92 gq
   obtain ⟨dy, K60⟩ := zl eb gq
   refine zao (i := 0) rfl rfl (zaq (zav (v := (osv ac 0 r6.1.length ab)) zas rfl rfl (dy.at 2 rfl rfl) rfl zrr)) (zao (i := 1) rfl rfl (zaq (zae rfl zrr)) (zao (i := 2) rfl rfl (zaq (zae rfl zrr)) (zao (i := 4) rfl rfl (zaq (zav (v := (osv ac 0 r6.1.length ab)) zas rfl rfl (dy.at 2 rfl rfl) rfl zrr)) (zao (i := 5) rfl rfl (zaq (zcl (pre := []) (r := rTClass) (xs := aJ) zas rfl (dy.at 3 rfl rfl) ((((cg.mono (K56 None)).mono (K58 None)).mono (K59 None)).mono (K60 None)) rfl az zrr)) (zao (i := 7) rfl rfl (zaq (zav (v := (osv ac 0 r6.1.length ab)) zas rfl rfl (dy.at 2 rfl rfl) rfl zrr)) (zao (i := 8) rfl rfl (zaq (zcl (pre := []) (r := rTClass) (xs := aJ) zas rfl (dy.at 3 rfl rfl) ((((cg.mono (K56 None)).mono (K58 None)).mono (K59 None)).mono (K60 None)) rfl az zrr)) ?_))))))
   exact zch
  refine zdn (m := 3) [3, 6, 9] rfl rfl (fun q hq => ?_)
  rcases List.mem_cons.1 hq with rfl | hq
  ·
   refine zdv rfl ?_
   intro gr V10 cp gs
   obtain ⟨c0, K61⟩ := zl eb cp
   have l1 := ((cj.mono (K59 None)).mono (K61 None))
   have oV := (((dl.mono (K58 None)).mono (K59 None)).mono (K61 None))
   refine zcz (r := rI) (H := (vH w None [ae, aC, some ad, ac, aa] gr)) (cs := ch) (sp := cG) (xs := e2) (ys := e3) (Y := bA) (n := aA.length) (cap := aT) (i := 1) zan ti3 rfl rfl rfl rfl c0 rfl rfl oV cX dk (zdu (pre := []) (o := 0) (n := aq.length) (cap := aM) (c0.at 0 rfl rfl) l1 rfl rfl cY) (zcj (fun _ _ _ _ h => h) l1) dm dn dp ?_
   intro am aB bR bS w94 bb bT dz kw
   have K62 := ks w kw
   refine ⟨_, [], [], K62, (fun b hb => dz.own.lt b hb), dz.size, rfl, rfl, ?_⟩
   refine ⟨?_, ?_⟩
   ·
    intro w95 gu
    obtain ⟨dA, K63⟩ := zl dz gu
    refine zao (i := 0) rfl rfl (zaq (zav (v := (osv ac 0 r6.1.length ab)) zas rfl rfl (dA.at 2 rfl rfl) rfl zrr)) (zao (i := 4) rfl rfl (zaq (zav (v := (osv ac 0 r6.1.length ab)) zas rfl rfl (dA.at 2 rfl rfl) rfl zrr)) (zao (i := 5) rfl rfl (zaq (zcl (pre := []) (r := rTClass) (xs := aJ) zas rfl (dA.at 3 rfl rfl) ((((((cg.mono (K56 None)).mono (K58 None)).mono (K59 None)).mono (K61 None)).mono (K62 None)).mono (K63 None)) rfl az zrr)) (zao (i := 7) rfl rfl (zaq (zav (v := (osv ac 0 r6.1.length ab)) zas rfl rfl (dA.at 2 rfl rfl) rfl zrr)) (zao (i := 8) rfl rfl (zaq (zcl (pre := []) (r := rTClass) (xs := aJ) zas rfl (dA.at 3 rfl rfl) ((((((cg.mono (K56 None)).mono (K58 None)).mono (K59 None)).mono (K61 None)).mono (K62 None)).mono (K63 None)) rfl az zrr)) ?_))))
    exact zch
   refine zdn (m := 2) [6, 9] rfl rfl (fun q hq => ?_)
   rcases List.mem_cons.1 hq with rfl | hq
   ·
    refine zdv rfl ?_
    intro kx V11 dB ky
    obtain ⟨e7, K64⟩ := zl dz dB
    refine zdl (r := rStr) (H := (vH w None [ae, am, some ad, ac, aa] kx)) (zc := [(zaf ⟨#[]⟩)]) (x := []) zaz ti9 rfl rfl rfl rfl dq dr ds dt e7 ?_
    intro aj kz bU bc bV aQ cK
    have K65 := ks w cK
    refine ⟨_, [], [], K65, (fun b hb => aQ.own.lt b hb), aQ.size, rfl, rfl, ?_⟩
    refine ⟨?_, ?_⟩
    ·
     intro kA bB
     obtain ⟨aR, K66⟩ := zl aQ bB
     refine zao (i := 0) rfl rfl (zaq (zav (v := (osv ac 0 r6.1.length ab)) zas rfl rfl (aR.at 3 rfl rfl) rfl zrr)) (zao (i := 4) rfl rfl (zaq (zav (v := (osv ac 0 r6.1.length ab)) zas rfl rfl (aR.at 3 rfl rfl) rfl zrr)) (zao (i := 7) rfl rfl (zaq (zav (v := (osv ac 0 r6.1.length ab)) zas rfl rfl (aR.at 3 rfl rfl) rfl zrr)) (zao (i := 8) rfl rfl (zaq (zcl (pre := []) (r := rTClass) (xs := aJ) zas rfl (aR.at 4 rfl rfl) ((((((((cg.mono (K56 None)).mono (K58 None)).mono (K59 None)).mono (K61 None)).mono (K62 None)).mono (K64 None)).mono (K65 None)).mono (K66 None)) rfl az zrr)) ?_)))
     exact zch
    refine zdn (m := 1) [9] rfl rfl (fun q hq => ?_)
    obtain rfl := List.mem_singleton.1 hq
    refine zdv rfl ?_
    intro e8 V12 bC e9
    obtain ⟨cL, K67⟩ := zl aQ bC
    refine zdl (r := rBool) (H := (vH w None [some aj, ae, am, some ad, ac, aa] e8)) (zc := [zF]) (x := false) zcs ti4 rfl rfl rfl rfl du dv dw dx cL ?_
    intro aP dC bW bd bX ar bD
    have K68 := ks w bD
    refine ⟨_, [], [], K68, (fun b hb => ar.own.lt b hb), ar.size, rfl, rfl, ?_⟩
    refine ⟨?_, ?_⟩
    ·
     intro dD aU
     obtain ⟨aG, K69⟩ := zl ar aU
     refine zao (i := 0) rfl rfl (zaq (zav (v := (osv ac 0 r6.1.length ab)) zas rfl rfl (aG.at 4 rfl rfl) rfl zrr)) (zao (i := 4) rfl rfl (zaq (zav (v := (osv ac 0 r6.1.length ab)) zas rfl rfl (aG.at 4 rfl rfl) rfl zrr)) (zao (i := 7) rfl rfl (zaq (zav (v := (osv ac 0 r6.1.length ab)) zas rfl rfl (aG.at 4 rfl rfl) rfl zrr)) ?_))
     exact zch
    refine zdn (m := 0) [10] rfl rfl (fun q hq => ?_)
    obtain rfl := List.mem_singleton.1 hq
    refine zdv rfl ?_
    intro dE V13 aV dF
    obtain ⟨au, K70⟩ := zl ar aV
    obtain ⟨af, bE, h⟩ := zee h
    have bF := au.lendW [1, 0] rfl rfl rfl
    have dG := ((((((((((cg.mono (K56 None)).mono (K58 None)).mono (K59 None)).mono (K61 None)).mono (K62 None)).mono (K64 None)).mono (K65 None)).mono (K67 None)).mono (K68 None)).mono (K70 None))
    have dH := ((((((bb.mono (K62 None)).mono (K64 None)).mono (K65 None)).mono (K67 None)).mono (K68 None)).mono (K70 None))
    have dI := ((((bc.mono (K65 None)).mono (K67 None)).mono (K68 None)).mono (K70 None))
    have dJ := ((bd.mono (K68 None)).mono (K70 None))
    refine zdt en36 rfl rfl (tchoose_w N aJ bA aD fp (osv ac 0 r6.1.length ab) (osv am 0 bA.length aB) (some aj) aE bU [] (some aP) fq bW [] [some aj, some aP] _ Any bF (zet (pre := []) (o := 0) (n := r6.1.length) (cap := ab) au 5 [1, 0] rfl rfl rfl rfl dG (zcv [1, 0] rfl) rfl rfl az cy) (zet (pre := []) (o := 0) (n := bA.length) (cap := aB) au 3 [1, 0] rfl rfl rfl rfl dH (zcv [1, 0] rfl) rfl rfl rfl bT) (dI.mono (zcv [1, 0] rfl)) bV (dJ.mono (zcv [1, 0] rfl)) bX af bE) ?_
    rintro _ aH ⟨av, aI, aW, bG, rfl, bH, K71, aX, aY, bI, bJ, aZ, dK, -⟩
    refine ⟨_, rfl, ?_⟩
    have a0 := au.backW [1, 0] [2, 3, 4, 5, 6] rfl rfl rfl rfl bH
    have aw : vL w aH [some aj, some aP, ae, am, some ad, ac, aa] [zab ([] ++ (av ++ aI)), zab ([] ++ (aW ++ bG)), zab ([] ++ (ci ++ cH)), zab ([] ++ (bS ++ bR)), zab [(osv ac 0 r6.1.length ab)], zab ([] ++ (an ++ ah)), zab ([] ++ (ai ++ ag))] := (by have h9 := a0.1; (try rw [← aX] at h9); (try rw [← bJ] at h9); exact h9)
    have K72 := ks w a0.2
    have a1 : Els rStr (vH w None [some aj, some aP, ae, am, some ad, ac, aa] aH) av af.2.2.1 := zcj (fun _ _ _ _ h => h) aY
    have cq : Els rBool (vH w None [some aj, some aP, ae, am, some ad, ac, aa] aH) aW af.2.2.2 := zcj (fun _ _ _ _ h => h) aZ
    refine ⟨_, [11, 12, 13, 14, 15], [(150, (Value.tuple #[(bif af.1 then (osv (some aj) 0 aD.length aE) else zau none 0 0), (zac af.2.1)])), (162, (bif af.1 then (osv (some aj) 0 aD.length aE) else zau none 0 0)), (163, (zac af.2.1)), (18, (bif af.1 then (osv (some aj) 0 aD.length aE) else zau none 0 0)), (19, (zac af.2.1))], K72, (fun b hb => aw.own.lt b hb), aw.size, rfl, rfl, ?_⟩
    refine ⟨?_, ?_⟩
    ·
     intro dL a2
     obtain ⟨a3, K73⟩ := zl aw a2
     refine zao (i := 4) rfl rfl (zaq (zav (v := (osv ac 0 r6.1.length ab)) zas rfl rfl (a3.at 4 rfl rfl) rfl zrr)) (zao (i := 7) rfl rfl (zaq (zav (v := (osv ac 0 r6.1.length ab)) zas rfl rfl (a3.at 4 rfl rfl) rfl zrr)) (zao (i := 11) rfl rfl (zaq (zae rfl zrr)) (zao (i := 12) rfl rfl (zaq (zcm (vs := [(bif af.1 then (osv (some aj) 0 aD.length aE) else zau none 0 0), (zac af.2.1)]) (v := (bif af.1 then (osv (some aj) 0 aD.length aE) else zau none 0 0)) rfl rfl zrr)) (zao (i := 13) rfl rfl (zaq (zcm (vs := [(bif af.1 then (osv (some aj) 0 aD.length aE) else zau none 0 0), (zac af.2.1)]) (v := (zac af.2.1)) rfl rfl zrr)) (zao (i := 14) rfl rfl (zaq (zai rfl zrr)) (zao (i := 15) rfl rfl (zaq (zai rfl zrr)) ?_))))))
     exact zch
    refine RlF.fin ?_
    intro bK V14 a4
    obtain ⟨bL, K74⟩ := zl aw a4
    have a5 := bL.pick [6, 0] rfl rfl rfl
    have bM : vL w bK [aa, some aj] [zab ([] ++ (ai ++ ag)), zab ([] ++ (av ++ aI))] := a5.1
    have K75 := ks w a5.2
    have dM := ((a1.mono (K74 None)).mono (K75 None))
    obtain rfl := zad h
    refine zap ?_
    exact ⟨af.2.2.1, af.1, af.2.1, some aj, aE, aI, av, aD.length, _, rfl, (zef ⟨rfl, rfl, rfl, trivial⟩), bM, (zak (zak (zak (zak (zak (zak (zak (zak (zak (zak K59 K61) K62) K64) K65) K67) K68) K70) K72) K74) K75), dM, aX, bI, trivial⟩
   obtain rfl := List.mem_singleton.1 hq
   refine zdv rfl ?_
   intro kx V11 dB ky
   obtain ⟨e7, K64⟩ := zl dz dB
   refine zdl (r := rBool) (H := (vH w None [ae, am, some ad, ac, aa] kx)) (zc := [zF]) (x := false) zcs ti4 rfl rfl rfl rfl du dv dw dx e7 ?_
   intro aP kz bW bd bX aQ cK
   have K65 := ks w cK
   refine ⟨_, [], [], K65, (fun b hb => aQ.own.lt b hb), aQ.size, rfl, rfl, ?_⟩
   refine ⟨?_, ?_⟩
   ·
    intro kA bB
    obtain ⟨aR, K66⟩ := zl aQ bB
    refine zao (i := 0) rfl rfl (zaq (zav (v := (osv ac 0 r6.1.length ab)) zas rfl rfl (aR.at 3 rfl rfl) rfl zrr)) (zao (i := 4) rfl rfl (zaq (zav (v := (osv ac 0 r6.1.length ab)) zas rfl rfl (aR.at 3 rfl rfl) rfl zrr)) (zao (i := 5) rfl rfl (zaq (zcl (pre := []) (r := rTClass) (xs := aJ) zas rfl (aR.at 4 rfl rfl) ((((((((cg.mono (K56 None)).mono (K58 None)).mono (K59 None)).mono (K61 None)).mono (K62 None)).mono (K64 None)).mono (K65 None)).mono (K66 None)) rfl az zrr)) (zao (i := 7) rfl rfl (zaq (zav (v := (osv ac 0 r6.1.length ab)) zas rfl rfl (aR.at 3 rfl rfl) rfl zrr)) ?_)))
    exact zch
   refine zdn (m := 1) [6] rfl rfl (fun q hq => ?_)
   obtain rfl := List.mem_singleton.1 hq
   refine zdv rfl ?_
   intro e8 V12 bC e9
   obtain ⟨cL, K67⟩ := zl aQ bC
   refine zdl (r := rStr) (H := (vH w None [some aP, ae, am, some ad, ac, aa] e8)) (zc := [(zaf ⟨#[]⟩)]) (x := []) zaz ti9 rfl rfl rfl rfl dq dr ds dt cL ?_
   intro aj dC bU bc bV ar bD
   have K68 := ks w bD
   refine ⟨_, [], [], K68, (fun b hb => ar.own.lt b hb), ar.size, rfl, rfl, ?_⟩
   refine ⟨?_, ?_⟩
   ·
    intro dD aU
    obtain ⟨aG, K69⟩ := zl ar aU
    refine zao (i := 0) rfl rfl (zaq (zav (v := (osv ac 0 r6.1.length ab)) zas rfl rfl (aG.at 4 rfl rfl) rfl zrr)) (zao (i := 4) rfl rfl (zaq (zav (v := (osv ac 0 r6.1.length ab)) zas rfl rfl (aG.at 4 rfl rfl) rfl zrr)) (zao (i := 7) rfl rfl (zaq (zav (v := (osv ac 0 r6.1.length ab)) zas rfl rfl (aG.at 4 rfl rfl) rfl zrr)) ?_))
    exact zch
   refine zdn (m := 0) [10] rfl rfl (fun q hq => ?_)
   obtain rfl := List.mem_singleton.1 hq
   refine zdv rfl ?_
   intro dE V13 aV dF
   obtain ⟨au, K70⟩ := zl ar aV
   obtain ⟨af, bE, h⟩ := zee h
   have bF := au.lendW [0, 1] rfl rfl rfl
   have dG := ((((((((((cg.mono (K56 None)).mono (K58 None)).mono (K59 None)).mono (K61 None)).mono (K62 None)).mono (K64 None)).mono (K65 None)).mono (K67 None)).mono (K68 None)).mono (K70 None))
   have dH := ((((((bb.mono (K62 None)).mono (K64 None)).mono (K65 None)).mono (K67 None)).mono (K68 None)).mono (K70 None))
   have dI := ((bc.mono (K68 None)).mono (K70 None))
   have dJ := ((((bd.mono (K65 None)).mono (K67 None)).mono (K68 None)).mono (K70 None))
   refine zdt en36 rfl rfl (tchoose_w N aJ bA aD fp (osv ac 0 r6.1.length ab) (osv am 0 bA.length aB) (some aj) aE bU [] (some aP) fq bW [] [some aj, some aP] _ Any bF (zet (pre := []) (o := 0) (n := r6.1.length) (cap := ab) au 5 [0, 1] rfl rfl rfl rfl dG (zcv [0, 1] rfl) rfl rfl az cy) (zet (pre := []) (o := 0) (n := bA.length) (cap := aB) au 3 [0, 1] rfl rfl rfl rfl dH (zcv [0, 1] rfl) rfl rfl rfl bT) (dI.mono (zcv [0, 1] rfl)) bV (dJ.mono (zcv [0, 1] rfl)) bX af bE) ?_
   rintro _ aH ⟨av, aI, aW, bG, rfl, bH, K71, aX, aY, bI, bJ, aZ, dK, -⟩
   refine ⟨_, rfl, ?_⟩
   have a0 := au.backW [0, 1] [2, 3, 4, 5, 6] rfl rfl rfl rfl bH
   have aw : vL w aH [some aj, some aP, ae, am, some ad, ac, aa] [zab ([] ++ (av ++ aI)), zab ([] ++ (aW ++ bG)), zab ([] ++ (ci ++ cH)), zab ([] ++ (bS ++ bR)), zab [(osv ac 0 r6.1.length ab)], zab ([] ++ (an ++ ah)), zab ([] ++ (ai ++ ag))] := (by have h9 := a0.1; (try rw [← aX] at h9); (try rw [← bJ] at h9); exact h9)
   have K72 := ks w a0.2
   have a1 : Els rStr (vH w None [some aj, some aP, ae, am, some ad, ac, aa] aH) av af.2.2.1 := zcj (fun _ _ _ _ h => h) aY
   have cq : Els rBool (vH w None [some aj, some aP, ae, am, some ad, ac, aa] aH) aW af.2.2.2 := zcj (fun _ _ _ _ h => h) aZ
   refine ⟨_, [11, 12, 13, 14, 15], [(150, (Value.tuple #[(bif af.1 then (osv (some aj) 0 aD.length aE) else zau none 0 0), (zac af.2.1)])), (162, (bif af.1 then (osv (some aj) 0 aD.length aE) else zau none 0 0)), (163, (zac af.2.1)), (18, (bif af.1 then (osv (some aj) 0 aD.length aE) else zau none 0 0)), (19, (zac af.2.1))], K72, (fun b hb => aw.own.lt b hb), aw.size, rfl, rfl, ?_⟩
   refine ⟨?_, ?_⟩
   ·
    intro dL a2
    obtain ⟨a3, K73⟩ := zl aw a2
    refine zao (i := 4) rfl rfl (zaq (zav (v := (osv ac 0 r6.1.length ab)) zas rfl rfl (a3.at 4 rfl rfl) rfl zrr)) (zao (i := 7) rfl rfl (zaq (zav (v := (osv ac 0 r6.1.length ab)) zas rfl rfl (a3.at 4 rfl rfl) rfl zrr)) (zao (i := 11) rfl rfl (zaq (zae rfl zrr)) (zao (i := 12) rfl rfl (zaq (zcm (vs := [(bif af.1 then (osv (some aj) 0 aD.length aE) else zau none 0 0), (zac af.2.1)]) (v := (bif af.1 then (osv (some aj) 0 aD.length aE) else zau none 0 0)) rfl rfl zrr)) (zao (i := 13) rfl rfl (zaq (zcm (vs := [(bif af.1 then (osv (some aj) 0 aD.length aE) else zau none 0 0), (zac af.2.1)]) (v := (zac af.2.1)) rfl rfl zrr)) (zao (i := 14) rfl rfl (zaq (zai rfl zrr)) (zao (i := 15) rfl rfl (zaq (zai rfl zrr)) ?_))))))
    exact zch
   refine RlF.fin ?_
   intro bK V14 a4
   obtain ⟨bL, K74⟩ := zl aw a4
   have a5 := bL.pick [6, 0] rfl rfl rfl
   have bM : vL w bK [aa, some aj] [zab ([] ++ (ai ++ ag)), zab ([] ++ (av ++ aI))] := a5.1
   have K75 := ks w a5.2
   have dM := ((a1.mono (K74 None)).mono (K75 None))
   obtain rfl := zad h
   refine zap ?_
   exact ⟨af.2.2.1, af.1, af.2.1, some aj, aE, aI, av, aD.length, _, rfl, (zef ⟨rfl, rfl, rfl, trivial⟩), bM, (zak (zak (zak (zak (zak (zak (zak (zak (zak (zak K59 K61) K62) K64) K65) K67) K68) K70) K72) K74) K75), dM, aX, bI, trivial⟩
  rcases List.mem_cons.1 hq with rfl | hq
  ·
   refine zdv rfl ?_
   intro gr V10 cp gs
   obtain ⟨c0, K61⟩ := zl eb cp
   refine zdl (r := rStr) (H := (vH w None [ae, aC, some ad, ac, aa] gr)) (zc := [(zaf ⟨#[]⟩)]) (x := []) zaz ti9 rfl rfl rfl rfl dq dr ds dt c0 ?_
   intro aj kB bU bc bV bN fa
   have K76 := ks w fa
   refine ⟨_, [], [], K76, (fun b hb => bN.own.lt b hb), bN.size, rfl, rfl, ?_⟩
   refine ⟨?_, ?_⟩
   ·
    intro kC dN
    obtain ⟨b4, K77⟩ := zl bN dN
    refine zao (i := 0) rfl rfl (zaq (zav (v := (osv ac 0 r6.1.length ab)) zas rfl rfl (b4.at 3 rfl rfl) rfl zrr)) (zao (i := 1) rfl rfl (zaq (zae rfl zrr)) (zao (i := 2) rfl rfl (zaq (zae rfl zrr)) (zao (i := 4) rfl rfl (zaq (zav (v := (osv ac 0 r6.1.length ab)) zas rfl rfl (b4.at 3 rfl rfl) rfl zrr)) (zao (i := 7) rfl rfl (zaq (zav (v := (osv ac 0 r6.1.length ab)) zas rfl rfl (b4.at 3 rfl rfl) rfl zrr)) (zao (i := 8) rfl rfl (zaq (zcl (pre := []) (r := rTClass) (xs := aJ) zas rfl (b4.at 4 rfl rfl) ((((((cg.mono (K56 None)).mono (K58 None)).mono (K59 None)).mono (K61 None)).mono (K76 None)).mono (K77 None)) rfl az zrr)) ?_)))))
    exact zch
   refine zdn (m := 2) [3, 9] rfl rfl (fun q hq => ?_)
   rcases List.mem_cons.1 hq with rfl | hq
   ·
    refine zdv rfl ?_
    intro cM V15 bO fb
    obtain ⟨b5, K78⟩ := zl bN bO
    have gv := ((((cj.mono (K59 None)).mono (K61 None)).mono (K76 None)).mono (K78 None))
    have kD := (((((dl.mono (K58 None)).mono (K59 None)).mono (K61 None)).mono (K76 None)).mono (K78 None))
    refine zcz (r := rI) (H := (vH w None [some aj, ae, aC, some ad, ac, aa] cM)) (cs := ch) (sp := cG) (xs := e2) (ys := e3) (Y := bA) (n := aA.length) (cap := aT) (i := 2) zan ti3 rfl rfl rfl rfl b5 rfl rfl kD cX dk (zdu (pre := []) (o := 0) (n := aq.length) (cap := aM) (b5.at 1 rfl rfl) gv rfl rfl cY) (zcj (fun _ _ _ _ h => h) gv) dm dn dp ?_
    intro am aB bR bS kz bb bT aQ cK
    have K65 := ks w cK
    refine ⟨_, [], [], K65, (fun b hb => aQ.own.lt b hb), aQ.size, rfl, rfl, ?_⟩
    refine ⟨?_, ?_⟩
    ·
     intro kA bB
     obtain ⟨aR, K66⟩ := zl aQ bB
     refine zao (i := 0) rfl rfl (zaq (zav (v := (osv ac 0 r6.1.length ab)) zas rfl rfl (aR.at 3 rfl rfl) rfl zrr)) (zao (i := 4) rfl rfl (zaq (zav (v := (osv ac 0 r6.1.length ab)) zas rfl rfl (aR.at 3 rfl rfl) rfl zrr)) (zao (i := 7) rfl rfl (zaq (zav (v := (osv ac 0 r6.1.length ab)) zas rfl rfl (aR.at 3 rfl rfl) rfl zrr)) (zao (i := 8) rfl rfl (zaq (zcl (pre := []) (r := rTClass) (xs := aJ) zas rfl (aR.at 4 rfl rfl) ((((((((cg.mono (K56 None)).mono (K58 None)).mono (K59 None)).mono (K61 None)).mono (K76 None)).mono (K78 None)).mono (K65 None)).mono (K66 None)) rfl az zrr)) ?_)))
     exact zch
    refine zdn (m := 1) [9] rfl rfl (fun q hq => ?_)
    obtain rfl := List.mem_singleton.1 hq
    refine zdv rfl ?_
    intro e8 V12 bC e9
    obtain ⟨cL, K67⟩ := zl aQ bC
    refine zdl (r := rBool) (H := (vH w None [some aj, ae, am, some ad, ac, aa] e8)) (zc := [zF]) (x := false) zcs ti4 rfl rfl rfl rfl du dv dw dx cL ?_
    intro aP dC bW bd bX ar bD
    have K68 := ks w bD
    refine ⟨_, [], [], K68, (fun b hb => ar.own.lt b hb), ar.size, rfl, rfl, ?_⟩
    refine ⟨?_, ?_⟩
    ·
     intro dD aU
     obtain ⟨aG, K69⟩ := zl ar aU
     refine zao (i := 0) rfl rfl (zaq (zav (v := (osv ac 0 r6.1.length ab)) zas rfl rfl (aG.at 4 rfl rfl) rfl zrr)) (zao (i := 4) rfl rfl (zaq (zav (v := (osv ac 0 r6.1.length ab)) zas rfl rfl (aG.at 4 rfl rfl) rfl zrr)) (zao (i := 7) rfl rfl (zaq (zav (v := (osv ac 0 r6.1.length ab)) zas rfl rfl (aG.at 4 rfl rfl) rfl zrr)) ?_))
     exact zch
    refine zdn (m := 0) [10] rfl rfl (fun q hq => ?_)
    obtain rfl := List.mem_singleton.1 hq
    refine zdv rfl ?_
    intro dE V13 aV dF
    obtain ⟨au, K70⟩ := zl ar aV
    obtain ⟨af, bE, h⟩ := zee h
    have bF := au.lendW [1, 0] rfl rfl rfl
    have dG := ((((((((((cg.mono (K56 None)).mono (K58 None)).mono (K59 None)).mono (K61 None)).mono (K76 None)).mono (K78 None)).mono (K65 None)).mono (K67 None)).mono (K68 None)).mono (K70 None))
    have dH := ((((bb.mono (K65 None)).mono (K67 None)).mono (K68 None)).mono (K70 None))
    have dI := ((((((bc.mono (K76 None)).mono (K78 None)).mono (K65 None)).mono (K67 None)).mono (K68 None)).mono (K70 None))
    have dJ := ((bd.mono (K68 None)).mono (K70 None))
    refine zdt en36 rfl rfl (tchoose_w N aJ bA aD fp (osv ac 0 r6.1.length ab) (osv am 0 bA.length aB) (some aj) aE bU [] (some aP) fq bW [] [some aj, some aP] _ Any bF (zet (pre := []) (o := 0) (n := r6.1.length) (cap := ab) au 5 [1, 0] rfl rfl rfl rfl dG (zcv [1, 0] rfl) rfl rfl az cy) (zet (pre := []) (o := 0) (n := bA.length) (cap := aB) au 3 [1, 0] rfl rfl rfl rfl dH (zcv [1, 0] rfl) rfl rfl rfl bT) (dI.mono (zcv [1, 0] rfl)) bV (dJ.mono (zcv [1, 0] rfl)) bX af bE) ?_
    rintro _ aH ⟨av, aI, aW, bG, rfl, bH, K71, aX, aY, bI, bJ, aZ, dK, -⟩
    refine ⟨_, rfl, ?_⟩
    have a0 := au.backW [1, 0] [2, 3, 4, 5, 6] rfl rfl rfl rfl bH
    have aw : vL w aH [some aj, some aP, ae, am, some ad, ac, aa] [zab ([] ++ (av ++ aI)), zab ([] ++ (aW ++ bG)), zab ([] ++ (ci ++ cH)), zab ([] ++ (bS ++ bR)), zab [(osv ac 0 r6.1.length ab)], zab ([] ++ (an ++ ah)), zab ([] ++ (ai ++ ag))] := (by have h9 := a0.1; (try rw [← aX] at h9); (try rw [← bJ] at h9); exact h9)
    have K72 := ks w a0.2
    have a1 : Els rStr (vH w None [some aj, some aP, ae, am, some ad, ac, aa] aH) av af.2.2.1 := zcj (fun _ _ _ _ h => h) aY
    have cq : Els rBool (vH w None [some aj, some aP, ae, am, some ad, ac, aa] aH) aW af.2.2.2 := zcj (fun _ _ _ _ h => h) aZ
    refine ⟨_, [11, 12, 13, 14, 15], [(150, (Value.tuple #[(bif af.1 then (osv (some aj) 0 aD.length aE) else zau none 0 0), (zac af.2.1)])), (162, (bif af.1 then (osv (some aj) 0 aD.length aE) else zau none 0 0)), (163, (zac af.2.1)), (18, (bif af.1 then (osv (some aj) 0 aD.length aE) else zau none 0 0)), (19, (zac af.2.1))], K72, (fun b hb => aw.own.lt b hb), aw.size, rfl, rfl, ?_⟩
    refine ⟨?_, ?_⟩
    ·
     intro dL a2
     obtain ⟨a3, K73⟩ := zl aw a2
     refine zao (i := 4) rfl rfl (zaq (zav (v := (osv ac 0 r6.1.length ab)) zas rfl rfl (a3.at 4 rfl rfl) rfl zrr)) (zao (i := 7) rfl rfl (zaq (zav (v := (osv ac 0 r6.1.length ab)) zas rfl rfl (a3.at 4 rfl rfl) rfl zrr)) (zao (i := 11) rfl rfl (zaq (zae rfl zrr)) (zao (i := 12) rfl rfl (zaq (zcm (vs := [(bif af.1 then (osv (some aj) 0 aD.length aE) else zau none 0 0), (zac af.2.1)]) (v := (bif af.1 then (osv (some aj) 0 aD.length aE) else zau none 0 0)) rfl rfl zrr)) (zao (i := 13) rfl rfl (zaq (zcm (vs := [(bif af.1 then (osv (some aj) 0 aD.length aE) else zau none 0 0), (zac af.2.1)]) (v := (zac af.2.1)) rfl rfl zrr)) (zao (i := 14) rfl rfl (zaq (zai rfl zrr)) (zao (i := 15) rfl rfl (zaq (zai rfl zrr)) ?_))))))
     exact zch
    refine RlF.fin ?_
    intro bK V14 a4
    obtain ⟨bL, K74⟩ := zl aw a4
    have a5 := bL.pick [6, 0] rfl rfl rfl
    have bM : vL w bK [aa, some aj] [zab ([] ++ (ai ++ ag)), zab ([] ++ (av ++ aI))] := a5.1
    have K75 := ks w a5.2
    have dM := ((a1.mono (K74 None)).mono (K75 None))
    obtain rfl := zad h
    refine zap ?_
    exact ⟨af.2.2.1, af.1, af.2.1, some aj, aE, aI, av, aD.length, _, rfl, (zef ⟨rfl, rfl, rfl, trivial⟩), bM, (zak (zak (zak (zak (zak (zak (zak (zak (zak (zak K59 K61) K76) K78) K65) K67) K68) K70) K72) K74) K75), dM, aX, bI, trivial⟩
   obtain rfl := List.mem_singleton.1 hq
   refine zdv rfl ?_
   intro cM V15 bO fb
   obtain ⟨b5, K78⟩ := zl bN bO
   refine zdl (r := rBool) (H := (vH w None [some aj, ae, aC, some ad, ac, aa] cM)) (zc := [zF]) (x := false) zcs ti4 rfl rfl rfl rfl du dv dw dx b5 ?_
   intro aP kE bW bd bX b6 fc
   have K79 := ks w fc
   refine ⟨_, [], [], K79, (fun b hb => b6.own.lt b hb), b6.size, rfl, rfl, ?_⟩
   refine ⟨?_, ?_⟩
   ·
    intro kF dO
    obtain ⟨cN, K80⟩ := zl b6 dO
    refine zao (i := 0) rfl rfl (zaq (zav (v := (osv ac 0 r6.1.length ab)) zas rfl rfl (cN.at 4 rfl rfl) rfl zrr)) (zao (i := 1) rfl rfl (zaq (zae rfl zrr)) (zao (i := 2) rfl rfl (zaq (zae rfl zrr)) (zao (i := 4) rfl rfl (zaq (zav (v := (osv ac 0 r6.1.length ab)) zas rfl rfl (cN.at 4 rfl rfl) rfl zrr)) (zao (i := 7) rfl rfl (zaq (zav (v := (osv ac 0 r6.1.length ab)) zas rfl rfl (cN.at 4 rfl rfl) rfl zrr)) ?_))))
    exact zch
   refine zdn (m := 1) [3] rfl rfl (fun q hq => ?_)
   obtain rfl := List.mem_singleton.1 hq
   refine zdv rfl ?_
   intro fd V16 dP kG
   obtain ⟨dQ, K81⟩ := zl b6 dP
   have gw := ((((((cj.mono (K59 None)).mono (K61 None)).mono (K76 None)).mono (K78 None)).mono (K79 None)).mono (K81 None))
   have kH := (((((((dl.mono (K58 None)).mono (K59 None)).mono (K61 None)).mono (K76 None)).mono (K78 None)).mono (K79 None)).mono (K81 None))
   refine zcz (r := rI) (H := (vH w None [some aP, some aj, ae, aC, some ad, ac, aa] fd)) (cs := ch) (sp := cG) (xs := e2) (ys := e3) (Y := bA) (n := aA.length) (cap := aT) (i := 3) zan ti3 rfl rfl rfl rfl dQ rfl rfl kH cX dk (zdu (pre := []) (o := 0) (n := aq.length) (cap := aM) (dQ.at 2 rfl rfl) gw rfl rfl cY) (zcj (fun _ _ _ _ h => h) gw) dm dn dp ?_
   intro am aB bR bS dC bb bT ar bD
   have K68 := ks w bD
   refine ⟨_, [], [], K68, (fun b hb => ar.own.lt b hb), ar.size, rfl, rfl, ?_⟩
   refine ⟨?_, ?_⟩
   ·
    intro dD aU
    obtain ⟨aG, K69⟩ := zl ar aU
    refine zao (i := 0) rfl rfl (zaq (zav (v := (osv ac 0 r6.1.length ab)) zas rfl rfl (aG.at 4 rfl rfl) rfl zrr)) (zao (i := 4) rfl rfl (zaq (zav (v := (osv ac 0 r6.1.length ab)) zas rfl rfl (aG.at 4 rfl rfl) rfl zrr)) (zao (i := 7) rfl rfl (zaq (zav (v := (osv ac 0 r6.1.length ab)) zas rfl rfl (aG.at 4 rfl rfl) rfl zrr)) ?_))
    exact zch
   refine zdn (m := 0) [10] rfl rfl (fun q hq => ?_)
   obtain rfl := List.mem_singleton.1 hq
   refine zdv rfl ?_
   intro dE V13 aV dF
   obtain ⟨au, K70⟩ := zl ar aV
   obtain ⟨af, bE, h⟩ := zee h
   have bF := au.lendW [1, 0] rfl rfl rfl
   have dG := ((((((((((cg.mono (K56 None)).mono (K58 None)).mono (K59 None)).mono (K61 None)).mono (K76 None)).mono (K78 None)).mono (K79 None)).mono (K81 None)).mono (K68 None)).mono (K70 None))
   have dH := ((bb.mono (K68 None)).mono (K70 None))
   have dI := ((((((bc.mono (K76 None)).mono (K78 None)).mono (K79 None)).mono (K81 None)).mono (K68 None)).mono (K70 None))
   have dJ := ((((bd.mono (K79 None)).mono (K81 None)).mono (K68 None)).mono (K70 None))
   refine zdt en36 rfl rfl (tchoose_w N aJ bA aD fp (osv ac 0 r6.1.length ab) (osv am 0 bA.length aB) (some aj) aE bU [] (some aP) fq bW [] [some aj, some aP] _ Any bF (zet (pre := []) (o := 0) (n := r6.1.length) (cap := ab) au 5 [1, 0] rfl rfl rfl rfl dG (zcv [1, 0] rfl) rfl rfl az cy) (zet (pre := []) (o := 0) (n := bA.length) (cap := aB) au 3 [1, 0] rfl rfl rfl rfl dH (zcv [1, 0] rfl) rfl rfl rfl bT) (dI.mono (zcv [1, 0] rfl)) bV (dJ.mono (zcv [1, 0] rfl)) bX af bE) ?_
   rintro _ aH ⟨av, aI, aW, bG, rfl, bH, K71, aX, aY, bI, bJ, aZ, dK, -⟩
   refine ⟨_, rfl, ?_⟩
   have a0 := au.backW [1, 0] [2, 3, 4, 5, 6] rfl rfl rfl rfl bH
   have aw : vL w aH [some aj, some aP, ae, am, some ad, ac, aa] [zab ([] ++ (av ++ aI)), zab ([] ++ (aW ++ bG)), zab ([] ++ (ci ++ cH)), zab ([] ++ (bS ++ bR)), zab [(osv ac 0 r6.1.length ab)], zab ([] ++ (an ++ ah)), zab ([] ++ (ai ++ ag))] := (by have h9 := a0.1; (try rw [← aX] at h9); (try rw [← bJ] at h9); exact h9)
   have K72 := ks w a0.2
   have a1 : Els rStr (vH w None [some aj, some aP, ae, am, some ad, ac, aa] aH) av af.2.2.1 := zcj (fun _ _ _ _ h => h) aY
   have cq : Els rBool (vH w None [some aj, some aP, ae, am, some ad, ac, aa] aH) aW af.2.2.2 := zcj (fun _ _ _ _ h => h) aZ
   refine ⟨_, [11, 12, 13, 14, 15], [(150, (Value.tuple #[(bif af.1 then (osv (some aj) 0 aD.length aE) else zau none 0 0), (zac af.2.1)])), (162, (bif af.1 then (osv (some aj) 0 aD.length aE) else zau none 0 0)), (163, (zac af.2.1)), (18, (bif af.1 then (osv (some aj) 0 aD.length aE) else zau none 0 0)), (19, (zac af.2.1))], K72, (fun b hb => aw.own.lt b hb), aw.size, rfl, rfl, ?_⟩
   refine ⟨?_, ?_⟩
   ·
    intro dL a2
    obtain ⟨a3, K73⟩ := zl aw a2
    refine zao (i := 4) rfl rfl (zaq (zav (v := (osv ac 0 r6.1.length ab)) zas rfl rfl (a3.at 4 rfl rfl) rfl zrr)) (zao (i := 7) rfl rfl (zaq (zav (v := (osv ac 0 r6.1.length ab)) zas rfl rfl (a3.at 4 rfl rfl) rfl zrr)) (zao (i := 11) rfl rfl (zaq (zae rfl zrr)) (zao (i := 12) rfl rfl (zaq (zcm (vs := [(bif af.1 then (osv (some aj) 0 aD.length aE) else zau none 0 0), (zac af.2.1)]) (v := (bif af.1 then (osv (some aj) 0 aD.length aE) else zau none 0 0)) rfl rfl zrr)) (zao (i := 13) rfl rfl (zaq (zcm (vs := [(bif af.1 then (osv (some aj) 0 aD.length aE) else zau none 0 0), (zac af.2.1)]) (v := (zac af.2.1)) rfl rfl zrr)) (zao (i := 14) rfl rfl (zaq (zai rfl zrr)) (zao (i := 15) rfl rfl (zaq (zai rfl zrr)) ?_))))))
    exact zch
   refine RlF.fin ?_
   intro bK V14 a4
   obtain ⟨bL, K74⟩ := zl aw a4
   have a5 := bL.pick [6, 0] rfl rfl rfl
   have bM : vL w bK [aa, some aj] [zab ([] ++ (ai ++ ag)), zab ([] ++ (av ++ aI))] := a5.1
   have K75 := ks w a5.2
   have dM := ((a1.mono (K74 None)).mono (K75 None))
   obtain rfl := zad h
   refine zap ?_
   exact ⟨af.2.2.1, af.1, af.2.1, some aj, aE, aI, av, aD.length, _, rfl, (zef ⟨rfl, rfl, rfl, trivial⟩), bM, (zak (zak (zak (zak (zak (zak (zak (zak (zak (zak K59 K61) K76) K78) K79) K81) K68) K70) K72) K74) K75), dM, aX, bI, trivial⟩
  obtain rfl := List.mem_singleton.1 hq
  refine zdv rfl ?_
  intro gr V10 cp gs
  obtain ⟨c0, K61⟩ := zl eb cp
  refine zdl (r := rBool) (H := (vH w None [ae, aC, some ad, ac, aa] gr)) (zc := [zF]) (x := false) zcs ti4 rfl rfl rfl rfl du dv dw dx c0 ?_
  intro aP kB bW bd bX bN fa
  have K76 := ks w fa
  refine ⟨_, [], [], K76, (fun b hb => bN.own.lt b hb), bN.size, rfl, rfl, ?_⟩
  refine ⟨?_, ?_⟩
  ·
   intro kC dN
   obtain ⟨b4, K77⟩ := zl bN dN
   refine zao (i := 0) rfl rfl (zaq (zav (v := (osv ac 0 r6.1.length ab)) zas rfl rfl (b4.at 3 rfl rfl) rfl zrr)) (zao (i := 1) rfl rfl (zaq (zae rfl zrr)) (zao (i := 2) rfl rfl (zaq (zae rfl zrr)) (zao (i := 4) rfl rfl (zaq (zav (v := (osv ac 0 r6.1.length ab)) zas rfl rfl (b4.at 3 rfl rfl) rfl zrr)) (zao (i := 5) rfl rfl (zaq (zcl (pre := []) (r := rTClass) (xs := aJ) zas rfl (b4.at 4 rfl rfl) ((((((cg.mono (K56 None)).mono (K58 None)).mono (K59 None)).mono (K61 None)).mono (K76 None)).mono (K77 None)) rfl az zrr)) (zao (i := 7) rfl rfl (zaq (zav (v := (osv ac 0 r6.1.length ab)) zas rfl rfl (b4.at 3 rfl rfl) rfl zrr)) ?_)))))
   exact zch
  refine zdn (m := 2) [3, 6] rfl rfl (fun q hq => ?_)
  rcases List.mem_cons.1 hq with rfl | hq
  ·
   refine zdv rfl ?_
   intro cM V15 bO fb
   obtain ⟨b5, K78⟩ := zl bN bO
   have gv := ((((cj.mono (K59 None)).mono (K61 None)).mono (K76 None)).mono (K78 None))
   have kD := (((((dl.mono (K58 None)).mono (K59 None)).mono (K61 None)).mono (K76 None)).mono (K78 None))
   refine zcz (r := rI) (H := (vH w None [some aP, ae, aC, some ad, ac, aa] cM)) (cs := ch) (sp := cG) (xs := e2) (ys := e3) (Y := bA) (n := aA.length) (cap := aT) (i := 2) zan ti3 rfl rfl rfl rfl b5 rfl rfl kD cX dk (zdu (pre := []) (o := 0) (n := aq.length) (cap := aM) (b5.at 1 rfl rfl) gv rfl rfl cY) (zcj (fun _ _ _ _ h => h) gv) dm dn dp ?_
   intro am aB bR bS kz bb bT aQ cK
   have K65 := ks w cK
   refine ⟨_, [], [], K65, (fun b hb => aQ.own.lt b hb), aQ.size, rfl, rfl, ?_⟩
   refine ⟨?_, ?_⟩
   ·
    intro kA bB
    obtain ⟨aR, K66⟩ := zl aQ bB
    refine zao (i := 0) rfl rfl (zaq (zav (v := (osv ac 0 r6.1.length ab)) zas rfl rfl (aR.at 3 rfl rfl) rfl zrr)) (zao (i := 4) rfl rfl (zaq (zav (v := (osv ac 0 r6.1.length ab)) zas rfl rfl (aR.at 3 rfl rfl) rfl zrr)) (zao (i := 5) rfl rfl (zaq (zcl (pre := []) (r := rTClass) (xs := aJ) zas rfl (aR.at 4 rfl rfl) ((((((((cg.mono (K56 None)).mono (K58 None)).mono (K59 None)).mono (K61 None)).mono (K76 None)).mono (K78 None)).mono (K65 None)).mono (K66 None)) rfl az zrr)) (zao (i := 7) rfl rfl (zaq (zav (v := (osv ac 0 r6.1.length ab)) zas rfl rfl (aR.at 3 rfl rfl) rfl zrr)) ?_)))
    exact zch
   refine zdn (m := 1) [6] rfl rfl (fun q hq => ?_)
   obtain rfl := List.mem_singleton.1 hq
   refine zdv rfl ?_
   intro e8 V12 bC e9
   obtain ⟨cL, K67⟩ := zl aQ bC
   refine zdl (r := rStr) (H := (vH w None [some aP, ae, am, some ad, ac, aa] e8)) (zc := [(zaf ⟨#[]⟩)]) (x := []) zaz ti9 rfl rfl rfl rfl dq dr ds dt cL ?_
   intro aj dC bU bc bV ar bD
   have K68 := ks w bD
   refine ⟨_, [], [], K68, (fun b hb => ar.own.lt b hb), ar.size, rfl, rfl, ?_⟩
   refine ⟨?_, ?_⟩
   ·
    intro dD aU
    obtain ⟨aG, K69⟩ := zl ar aU
    refine zao (i := 0) rfl rfl (zaq (zav (v := (osv ac 0 r6.1.length ab)) zas rfl rfl (aG.at 4 rfl rfl) rfl zrr)) (zao (i := 4) rfl rfl (zaq (zav (v := (osv ac 0 r6.1.length ab)) zas rfl rfl (aG.at 4 rfl rfl) rfl zrr)) (zao (i := 7) rfl rfl (zaq (zav (v := (osv ac 0 r6.1.length ab)) zas rfl rfl (aG.at 4 rfl rfl) rfl zrr)) ?_))
    exact zch
   refine zdn (m := 0) [10] rfl rfl (fun q hq => ?_)
   obtain rfl := List.mem_singleton.1 hq
   refine zdv rfl ?_
   intro dE V13 aV dF
   obtain ⟨au, K70⟩ := zl ar aV
   obtain ⟨af, bE, h⟩ := zee h
   have bF := au.lendW [0, 1] rfl rfl rfl
   have dG := ((((((((((cg.mono (K56 None)).mono (K58 None)).mono (K59 None)).mono (K61 None)).mono (K76 None)).mono (K78 None)).mono (K65 None)).mono (K67 None)).mono (K68 None)).mono (K70 None))
   have dH := ((((bb.mono (K65 None)).mono (K67 None)).mono (K68 None)).mono (K70 None))
   have dI := ((bc.mono (K68 None)).mono (K70 None))
   have dJ := ((((((bd.mono (K76 None)).mono (K78 None)).mono (K65 None)).mono (K67 None)).mono (K68 None)).mono (K70 None))
   refine zdt en36 rfl rfl (tchoose_w N aJ bA aD fp (osv ac 0 r6.1.length ab) (osv am 0 bA.length aB) (some aj) aE bU [] (some aP) fq bW [] [some aj, some aP] _ Any bF (zet (pre := []) (o := 0) (n := r6.1.length) (cap := ab) au 5 [0, 1] rfl rfl rfl rfl dG (zcv [0, 1] rfl) rfl rfl az cy) (zet (pre := []) (o := 0) (n := bA.length) (cap := aB) au 3 [0, 1] rfl rfl rfl rfl dH (zcv [0, 1] rfl) rfl rfl rfl bT) (dI.mono (zcv [0, 1] rfl)) bV (dJ.mono (zcv [0, 1] rfl)) bX af bE) ?_
   rintro _ aH ⟨av, aI, aW, bG, rfl, bH, K71, aX, aY, bI, bJ, aZ, dK, -⟩
   refine ⟨_, rfl, ?_⟩
   have a0 := au.backW [0, 1] [2, 3, 4, 5, 6] rfl rfl rfl rfl bH
   have aw : vL w aH [some aj, some aP, ae, am, some ad, ac, aa] [zab ([] ++ (av ++ aI)), zab ([] ++ (aW ++ bG)), zab ([] ++ (ci ++ cH)), zab ([] ++ (bS ++ bR)), zab [(osv ac 0 r6.1.length ab)], zab ([] ++ (an ++ ah)), zab ([] ++ (ai ++ ag))] := (by have h9 := a0.1; (try rw [← aX] at h9); (try rw [← bJ] at h9); exact h9)
   have K72 := ks w a0.2
   have a1 : Els rStr (vH w None [some aj, some aP, ae, am, some ad, ac, aa] aH) av af.2.2.1 := zcj (fun _ _ _ _ h => h) aY
   have cq : Els rBool (vH w None [some aj, some aP, ae, am, some ad, ac, aa] aH) aW af.2.2.2 := zcj (fun _ _ _ _ h => h) aZ
   refine ⟨_, [11, 12, 13, 14, 15], [(150, (Value.tuple #[(bif af.1 then (osv (some aj) 0 aD.length aE) else zau none 0 0), (zac af.2.1)])), (162, (bif af.1 then (osv (some aj) 0 aD.length aE) else zau none 0 0)), (163, (zac af.2.1)), (18, (bif af.1 then (osv (some aj) 0 aD.length aE) else zau none 0 0)), (19, (zac af.2.1))], K72, (fun b hb => aw.own.lt b hb), aw.size, rfl, rfl, ?_⟩
   refine ⟨?_, ?_⟩
   ·
    intro dL a2
    obtain ⟨a3, K73⟩ := zl aw a2
    refine zao (i := 4) rfl rfl (zaq (zav (v := (osv ac 0 r6.1.length ab)) zas rfl rfl (a3.at 4 rfl rfl) rfl zrr)) (zao (i := 7) rfl rfl (zaq (zav (v := (osv ac 0 r6.1.length ab)) zas rfl rfl (a3.at 4 rfl rfl) rfl zrr)) (zao (i := 11) rfl rfl (zaq (zae rfl zrr)) (zao (i := 12) rfl rfl (zaq (zcm (vs := [(bif af.1 then (osv (some aj) 0 aD.length aE) else zau none 0 0), (zac af.2.1)]) (v := (bif af.1 then (osv (some aj) 0 aD.length aE) else zau none 0 0)) rfl rfl zrr)) (zao (i := 13) rfl rfl (zaq (zcm (vs := [(bif af.1 then (osv (some aj) 0 aD.length aE) else zau none 0 0), (zac af.2.1)]) (v := (zac af.2.1)) rfl rfl zrr)) (zao (i := 14) rfl rfl (zaq (zai rfl zrr)) (zao (i := 15) rfl rfl (zaq (zai rfl zrr)) ?_))))))
    exact zch
   refine RlF.fin ?_
   intro bK V14 a4
   obtain ⟨bL, K74⟩ := zl aw a4
   have a5 := bL.pick [6, 0] rfl rfl rfl
   have bM : vL w bK [aa, some aj] [zab ([] ++ (ai ++ ag)), zab ([] ++ (av ++ aI))] := a5.1
   have K75 := ks w a5.2
   have dM := ((a1.mono (K74 None)).mono (K75 None))
   obtain rfl := zad h
   refine zap ?_
   exact ⟨af.2.2.1, af.1, af.2.1, some aj, aE, aI, av, aD.length, _, rfl, (zef ⟨rfl, rfl, rfl, trivial⟩), bM, (zak (zak (zak (zak (zak (zak (zak (zak (zak (zak K59 K61) K76) K78) K65) K67) K68) K70) K72) K74) K75), dM, aX, bI, trivial⟩
  obtain rfl := List.mem_singleton.1 hq
  refine zdv rfl ?_
  intro cM V15 bO fb
  obtain ⟨b5, K78⟩ := zl bN bO
  refine zdl (r := rStr) (H := (vH w None [some aP, ae, aC, some ad, ac, aa] cM)) (zc := [(zaf ⟨#[]⟩)]) (x := []) zaz ti9 rfl rfl rfl rfl dq dr ds dt b5 ?_
  intro aj kE bU bc bV b6 fc
  have K79 := ks w fc
  refine ⟨_, [], [], K79, (fun b hb => b6.own.lt b hb), b6.size, rfl, rfl, ?_⟩
  refine ⟨?_, ?_⟩
  ·
   intro kF dO
   obtain ⟨cN, K80⟩ := zl b6 dO
   refine zao (i := 0) rfl rfl (zaq (zav (v := (osv ac 0 r6.1.length ab)) zas rfl rfl (cN.at 4 rfl rfl) rfl zrr)) (zao (i := 1) rfl rfl (zaq (zae rfl zrr)) (zao (i := 2) rfl rfl (zaq (zae rfl zrr)) (zao (i := 4) rfl rfl (zaq (zav (v := (osv ac 0 r6.1.length ab)) zas rfl rfl (cN.at 4 rfl rfl) rfl zrr)) (zao (i := 7) rfl rfl (zaq (zav (v := (osv ac 0 r6.1.length ab)) zas rfl rfl (cN.at 4 rfl rfl) rfl zrr)) ?_))))
   exact zch
  refine zdn (m := 1) [3] rfl rfl (fun q hq => ?_)
  obtain rfl := List.mem_singleton.1 hq
  refine zdv rfl ?_
  intro fd V16 dP kG
  obtain ⟨dQ, K81⟩ := zl b6 dP
  have gw := ((((((cj.mono (K59 None)).mono (K61 None)).mono (K76 None)).mono (K78 None)).mono (K79 None)).mono (K81 None))
  have kH := (((((((dl.mono (K58 None)).mono (K59 None)).mono (K61 None)).mono (K76 None)).mono (K78 None)).mono (K79 None)).mono (K81 None))
  refine zcz (r := rI) (H := (vH w None [some aj, some aP, ae, aC, some ad, ac, aa] fd)) (cs := ch) (sp := cG) (xs := e2) (ys := e3) (Y := bA) (n := aA.length) (cap := aT) (i := 3) zan ti3 rfl rfl rfl rfl dQ rfl rfl kH cX dk (zdu (pre := []) (o := 0) (n := aq.length) (cap := aM) (dQ.at 2 rfl rfl) gw rfl rfl cY) (zcj (fun _ _ _ _ h => h) gw) dm dn dp ?_
  intro am aB bR bS dC bb bT ar bD
  have K68 := ks w bD
  refine ⟨_, [], [], K68, (fun b hb => ar.own.lt b hb), ar.size, rfl, rfl, ?_⟩
  refine ⟨?_, ?_⟩
  ·
   intro dD aU
   obtain ⟨aG, K69⟩ := zl ar aU
   refine zao (i := 0) rfl rfl (zaq (zav (v := (osv ac 0 r6.1.length ab)) zas rfl rfl (aG.at 4 rfl rfl) rfl zrr)) (zao (i := 4) rfl rfl (zaq (zav (v := (osv ac 0 r6.1.length ab)) zas rfl rfl (aG.at 4 rfl rfl) rfl zrr)) (zao (i := 7) rfl rfl (zaq (zav (v := (osv ac 0 r6.1.length ab)) zas rfl rfl (aG.at 4 rfl rfl) rfl zrr)) ?_))
   exact zch
  refine zdn (m := 0) [10] rfl rfl (fun q hq => ?_)
  obtain rfl := List.mem_singleton.1 hq
  refine zdv rfl ?_
  intro dE V13 aV dF
  obtain ⟨au, K70⟩ := zl ar aV
  obtain ⟨af, bE, h⟩ := zee h
  have bF := au.lendW [0, 1] rfl rfl rfl
  have dG := ((((((((((cg.mono (K56 None)).mono (K58 None)).mono (K59 None)).mono (K61 None)).mono (K76 None)).mono (K78 None)).mono (K79 None)).mono (K81 None)).mono (K68 None)).mono (K70 None))
  have dH := ((bb.mono (K68 None)).mono (K70 None))
  have dI := ((((bc.mono (K79 None)).mono (K81 None)).mono (K68 None)).mono (K70 None))
  have dJ := ((((((bd.mono (K76 None)).mono (K78 None)).mono (K79 None)).mono (K81 None)).mono (K68 None)).mono (K70 None))
  refine zdt en36 rfl rfl (tchoose_w N aJ bA aD fp (osv ac 0 r6.1.length ab) (osv am 0 bA.length aB) (some aj) aE bU [] (some aP) fq bW [] [some aj, some aP] _ Any bF (zet (pre := []) (o := 0) (n := r6.1.length) (cap := ab) au 5 [0, 1] rfl rfl rfl rfl dG (zcv [0, 1] rfl) rfl rfl az cy) (zet (pre := []) (o := 0) (n := bA.length) (cap := aB) au 3 [0, 1] rfl rfl rfl rfl dH (zcv [0, 1] rfl) rfl rfl rfl bT) (dI.mono (zcv [0, 1] rfl)) bV (dJ.mono (zcv [0, 1] rfl)) bX af bE) ?_
  rintro _ aH ⟨av, aI, aW, bG, rfl, bH, K71, aX, aY, bI, bJ, aZ, dK, -⟩
  refine ⟨_, rfl, ?_⟩
  have a0 := au.backW [0, 1] [2, 3, 4, 5, 6] rfl rfl rfl rfl bH
  have aw : vL w aH [some aj, some aP, ae, am, some ad, ac, aa] [zab ([] ++ (av ++ aI)), zab ([] ++ (aW ++ bG)), zab ([] ++ (ci ++ cH)), zab ([] ++ (bS ++ bR)), zab [(osv ac 0 r6.1.length ab)], zab ([] ++ (an ++ ah)), zab ([] ++ (ai ++ ag))] := (by have h9 := a0.1; (try rw [← aX] at h9); (try rw [← bJ] at h9); exact h9)
  have K72 := ks w a0.2
  have a1 : Els rStr (vH w None [some aj, some aP, ae, am, some ad, ac, aa] aH) av af.2.2.1 := zcj (fun _ _ _ _ h => h) aY
  have cq : Els rBool (vH w None [some aj, some aP, ae, am, some ad, ac, aa] aH) aW af.2.2.2 := zcj (fun _ _ _ _ h => h) aZ
  refine ⟨_, [11, 12, 13, 14, 15], [(150, (Value.tuple #[(bif af.1 then (osv (some aj) 0 aD.length aE) else zau none 0 0), (zac af.2.1)])), (162, (bif af.1 then (osv (some aj) 0 aD.length aE) else zau none 0 0)), (163, (zac af.2.1)), (18, (bif af.1 then (osv (some aj) 0 aD.length aE) else zau none 0 0)), (19, (zac af.2.1))], K72, (fun b hb => aw.own.lt b hb), aw.size, rfl, rfl, ?_⟩
  refine ⟨?_, ?_⟩
  ·
   intro dL a2
   obtain ⟨a3, K73⟩ := zl aw a2
   refine zao (i := 4) rfl rfl (zaq (zav (v := (osv ac 0 r6.1.length ab)) zas rfl rfl (a3.at 4 rfl rfl) rfl zrr)) (zao (i := 7) rfl rfl (zaq (zav (v := (osv ac 0 r6.1.length ab)) zas rfl rfl (a3.at 4 rfl rfl) rfl zrr)) (zao (i := 11) rfl rfl (zaq (zae rfl zrr)) (zao (i := 12) rfl rfl (zaq (zcm (vs := [(bif af.1 then (osv (some aj) 0 aD.length aE) else zau none 0 0), (zac af.2.1)]) (v := (bif af.1 then (osv (some aj) 0 aD.length aE) else zau none 0 0)) rfl rfl zrr)) (zao (i := 13) rfl rfl (zaq (zcm (vs := [(bif af.1 then (osv (some aj) 0 aD.length aE) else zau none 0 0), (zac af.2.1)]) (v := (zac af.2.1)) rfl rfl zrr)) (zao (i := 14) rfl rfl (zaq (zai rfl zrr)) (zao (i := 15) rfl rfl (zaq (zai rfl zrr)) ?_))))))
   exact zch
  refine RlF.fin ?_
  intro bK V14 a4
  obtain ⟨bL, K74⟩ := zl aw a4
  have a5 := bL.pick [6, 0] rfl rfl rfl
  have bM : vL w bK [aa, some aj] [zab ([] ++ (ai ++ ag)), zab ([] ++ (av ++ aI))] := a5.1
  have K75 := ks w a5.2
  have dM := ((a1.mono (K74 None)).mono (K75 None))
  obtain rfl := zad h
  refine zap ?_
  exact ⟨af.2.2.1, af.1, af.2.1, some aj, aE, aI, av, aD.length, _, rfl, (zef ⟨rfl, rfl, rfl, trivial⟩), bM, (zak (zak (zak (zak (zak (zak (zak (zak (zak (zak K59 K61) K76) K78) K79) K81) K68) K70) K72) K74) K75), dM, aX, bI, trivial⟩
 rintro _ fe ⟨ay, e5, cZ, ba, ck, cI, cJ, e6, u, rfl, rfl, ff, K82, gx, rfl, oW, -⟩
 replace h := oU
 try dsimp only at h
 refine zam (zam (zah rfl (zag (zae (v := (zac cZ)) rfl (zag (OpY.not (x := cZ) rfl (zar (zci (!cZ) rfl (fun fg => ?_) (fun fg => ?_)))))))))
 ·
  replace h := ite_t fg h
  refine zam (zah rfl (zag (zai (v := zN) rfl (zag (zai (v := zF) rfl (zar ?_))))))
  have kI := ff.addNil
  have gz : vL w fe [none, aa, ba] [zab ([] ++ ([] ++ [])), zab ([] ++ (ai ++ ag)), zab ([] ++ (cJ ++ cI))] := kI.1
  have gA : Els rStr (vH w None [none, aa, ba] fe) [] [] := zcn
  refine zbv ?_
  obtain rfl := zad h
  refine ⟨[(osv none 0 (List.length ([] : (List (List UInt8)))) 0), zF], ⟨rfl, rfl, trivial⟩, ⟨_, rfl, gz.done, ?_⟩⟩
  exact ⟨none, 0, [], [], rfl, (gz.newOwn [0] rfl rfl rfl), (gA.mono (zdy [0] rfl)), (show ([] ++ [] : List Value).length = 0 * rStr.sz by simp), trivial⟩
 replace h := ite_f fg h
 refine zbm (zam (zah rfl (zag (zae (v := (osv aa 0 r6.2.1.length al)) rfl ?_))))
 have l2 := (((((((((((ek.mono (K10 None)).mono (K11 None)).mono (K20 None)).mono (K21 None)).mono (K22 None)).mono (K26 None)).mono (K46 None)).mono (K54 None)).mono (K56 None)).mono (K58 None)).mono (K82 None))
 refine zag (zcl (pre := []) (r := rI) (xs := r6.2.1) zan rfl (ff.at 0 rfl rfl) l2 rfl rfl ?_)
 obtain ⟨dR, kJ, h⟩ := zee h
 obtain ⟨dS, kK, kL, kM, kN⟩ := mk1_some kJ
 refine zag (zdl (r := rStr) (H := (vH w None [aa, ba] fe)) (zc := [(zaf ⟨#[]⟩)]) (x := []) zaz ti9 rfl rfl rfl rfl kK kL kM kN ff ?_)
 intro b7 fh gB gC kO gE kP
 have K83 := ks w kP
 refine zag (zai (v := (osv (some b7) 0 dR.length dS)) rfl (zar (zam (zam (zah rfl (zag (zae (v := (osv aa 0 r6.2.1.length al)) rfl ?_)))))))
 have l3 := (l2.mono (K83 None))
 refine zag (zcl (pre := []) (r := rI) (xs := r6.2.1) zan rfl (gE.at 1 rfl rfl) l3 rfl rfl (zag (zae (v := (zI 0)) rfl (zar ?_))))
 obtain ⟨oX, kQ, l4⟩ := zee h
 refine zbt (fun e w' => ∃ (cQ : (List (List UInt8))) (dT : List Value) (u : Env), cQ = oX ∧ e = upds [(20, (osv (some b7) 0 dR.length dS))] u ∧ vL w w' [some b7] [zab ([] ++ (dT ++ []))] ∧ Keep w.heap.size [some b7, aa, ba] fh [some b7] w' ∧ Els rStr (vH w None [some b7] w') dT cQ ∧ dR.length = List.length cQ ∧ (dT ++ []).length = dS * rStr.sz ∧ True) ?_ ?_
 ·
  refine zbc ?_
  have gF := gE.pick [2, 0, 1] rfl rfl rfl
  have kR : vL w fh [ba, some b7, aa] [zab ([] ++ (cJ ++ cI)), zab ([] ++ (gB ++ [])), zab ([] ++ (ai ++ ag))] := gF.1
  have K84 := ks w gF.2
  have oY := ((gC.mono (K83 None)).mono (K84 None))
  refine zbx kQ (fun (ss : (Bool × (List (List UInt8)) × Int)) (e : Env) (w' : World) => match ss with | (ec, cr, dU) => ∃ (c1 : List Value) (u : Env), e = upds [(18, (bif ec then (osv ba 0 ay.length ck) else zau none 0 0)), (20, (osv (some b7) 0 dR.length dS)), (169, (osv aa 0 r6.2.1.length al)), (170, (zI (r6.2.1.length : Int))), (171, (zI dU))] u ∧ vL w w' [ba, some b7, aa] [zab ([] ++ (cJ ++ cI)), zab ([] ++ (c1 ++ [])), zab ([] ++ (ai ++ ag))] ∧ Keep w.heap.size [some b7, aa, ba] fh [ba, some b7, aa] w' ∧ Els rStr (vH w None [ba, some b7, aa] w') c1 cr ∧ dR.length = List.length cr ∧ (c1 ++ []).length = dS * rStr.sz ∧ True) ⟨gB, _, (zef ⟨rfl, rfl, rfl, rfl, rfl, trivial⟩), kR, K84, oY, rfl, kO, trivial⟩ ?_
  rintro ⟨ec, cr, dU⟩ oo _ kS ⟨c1, u, rfl, c2, K85, ef, fi, gG, -⟩ h kT
  rw [tSolve_b7] at h
  refine zam (zah rfl (zag (zcf ((dU : Int) < (r6.2.1.length : Int)) rfl rfl zbg (zar (zam (zbi ((dU : Int) < (r6.2.1.length : Int)) rfl (fun fj => ?_) (fun fj => ?_)))))))
  ·
   replace h := ite_t fj h
   refine zbm (zam (zbc (zam (zah rfl (zag (zae (v := (zI dU)) rfl ?_))))))
   obtain ⟨kU, l5, kV, gH, kW, h⟩ := zix h
   have l6 := (l3.mono (K85 None))
   obtain ⟨oZ, gI⟩ := c2.row_some 2 rfl rfl (zev (pre := []) l6 gH (Nat.lt_of_sub_eq_succ rfl))
   refine zag (zbl (r := rI) (b := oZ) (o := 0) (n := l5) (m := r6.2.1.length) (xs := r6.2.1) (q := (0 + l5 * rI.sz)) zan ti3 (zen gI) rfl rfl kV kW rfl ?_)
   obtain ⟨o0, o1, kX, kY⟩ := zeo (pre := []) (sp := ag) l6 gH
   obtain rfl := kX
   refine zag (zby (v := (zI kU)) zay rfl rfl (zer gI (c2.at 2 rfl rfl)) kY (zag (zai (v := (zI dU)) rfl (zag (zai (v := (zI kU)) rfl (zar (zah rfl (zag (zae (v := (osv (some b7) 0 dR.length dS)) rfl (zag (zae (v := (zI dU)) rfl (zag (zae (v := (bif ec then (osv ba 0 ay.length ck) else zau none 0 0)) rfl (zag (zae (v := (zI kU)) rfl ?_)))))))))))))))
   obtain ⟨u10, fk, h⟩ := zee h
   replace fk := chk_some fk
   obtain ⟨kZ, l7, k0, gJ, k1, h⟩ := zix h
   have l8 := ((gx.mono (K83 None)).mono (K85 None))
   obtain ⟨o2, gK⟩ := c2.row_some 0 rfl rfl (zev (pre := []) l8 gJ (Nat.lt_of_sub_eq_succ rfl))
   refine zag (zbl (r := rStr) (b := o2) (o := 0) (n := l7) (m := ay.length) (xs := ay) (q := (0 + l7 * rStr.sz)) zaz ti9 ((bif_t fk).trans (zen gK)) rfl rfl k0 k1 rfl ?_)
   obtain ⟨o5, o6, k2, k3⟩ := zeo (pre := []) (sp := cI) l8 gJ
   obtain rfl := k2
   refine zag (zby (v := (zS kZ)) zax rfl rfl (zer gK (c2.at 0 rfl rfl)) k3 ?_)
   obtain ⟨x46, l9, gM, o7, gN, h⟩ := zix h
   refine zag (zbl (r := rStr) (b := b7) (o := 0) (n := l9) (m := dR.length) (xs := cr) (q := (0 + l9 * rStr.sz)) zaz ti9 rfl fi rfl gM gN rfl ?_)
   obtain ⟨ma, n32, k4, o8, gO, h⟩ := zux h
   obtain rfl := zin gM k4
   refine zdj (zdg (pre := []) (r := rStr) (vs := [(zS kZ)]) (a := kZ) ti9 rfl rfl rfl rfl c2 1 rfl rfl ef gN rfl gO ?_)
   have k5 : dR.length = List.length ma := by rw [gO, List.length_set]; exact fi
   intro pa gP gQ k6 gR k7
   have k8 : (gP ++ []).length = dS * rStr.sz := zhc gG k7
   have K86 := ks w k6
   refine zar (zbe (zah rfl (zag (zca (z := (iw (dU + 1))) rfl rfl rfl ?_))))
   refine zag (zae (v := (zI (iw (dU + 1)))) rfl (zar ?_))
   have pb := (gR.mono (K86 None))
   obtain rfl := zad h
   refine zap ⟨(ec, ma, (iw (dU + 1))), rfl, ?_⟩
   exact ⟨gP, _, (zef ⟨rfl, rfl, rfl, rfl, rfl, trivial⟩), gQ, (zak K85 K86), pb, k5, k8, trivial⟩
  replace h := ite_f fj h
  refine zcd rfl ?_
  have gU := c2.pick [1] rfl rfl rfl
  have gV : vL w kS [some b7] [zab ([] ++ (c1 ++ []))] := gU.1
  have K87 := ks w gU.2
  have pc := (ef.mono (K87 None))
  obtain rfl := zad h
  obtain rfl := kT _ rfl
  replace h := l4
  try dsimp only at h
  refine zap ?_
  exact ⟨cr, c1, _, rfl, (zef zrt), gV, (zak K85 K87), pc, fi, gG, trivial⟩
 rintro _ pd ⟨cQ, dT, u, rfl, rfl, eg, K88, gW, k9, la, -⟩
 replace h := l4
 try dsimp only at h
 refine zam (zah rfl (zag (zae (v := (osv (some b7) 0 dR.length dS)) rfl (zag (zai (v := (osv (some b7) 0 dR.length dS)) rfl (zag (zai (v := zT) rfl (zar (zbv ?_)))))))))
 obtain rfl := zad h
 refine ⟨[(osv (some b7) 0 dR.length dS), zT], ⟨rfl, rfl, trivial⟩, ⟨_, rfl, eg.done, ?_⟩⟩
 exact ⟨some b7, dS, dT, [], (by rw [← k9]; rfl), (eg.newOwn [0] rfl rfl rfl), (gW.mono (zdy [0] rfl)), la, trivial⟩
end Go.Proofs.Ytaakoedphmeenaa.WT

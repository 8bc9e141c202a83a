/- Walks, written by a program of mine (wip/tool); the kernel checks them. -/
import Derived.Test.YtaakoedphmeenaaProg
import Derived.Test.YtaakoedphmeenaaSqSolve
import Derived.Test.YtaakoedphmeenaaA22
import Derived.Test.YtaakoedphmeenaaPL
import Derived.Test.YtaakoedphmeenaaWASolve
import Derived.Test.YtaakoedphmeenaaWRSolve
import Derived.Test.YtaakoedphmeenaaWTSolve
set_option maxRecDepth 100000
set_option maxHeartbeats 40000000
set_option linter.unusedVariables false
set_option linter.unusedSimpArgs false
namespace Go.Proofs.Ytaakoedphmeenaa.WL
open Go Go.RowKit Go.X Go.D Go.Proofs.Ytaakoedphmeenaa.WA Go.Proofs.Ytaakoedphmeenaa.WR Go.Proofs.Ytaakoedphmeenaa.WT
theorem pl31 : placesT Try.prog 31 = some [(0, 1), (1, 1), (2, 1), (3, 1), (4, 1)] := by kernel_rfl
theorem pl26 : placesT Try.prog 26 = some [(0, 1), (1, 1), (2, 1), (3, 1), (4, 1)] := by kernel_rfl
theorem en26 : Go.X.Enters Try.prog 26 := ⟨Try.f26, Try.func26, by kernel_rfl, by kernel_rfl⟩
theorem en14 : Go.X.Enters Try.prog 14 := ⟨Try.f14, Try.func14, by kernel_rfl, by kernel_rfl⟩
theorem en17 : Go.X.Enters Try.prog 17 := ⟨Try.f17, Try.func17, by kernel_rfl, by kernel_rfl⟩
theorem en20 : Go.X.Enters Try.prog 20 := ⟨Try.f20, Try.func20, by kernel_rfl, by kernel_rfl⟩
theorem en27 : Go.X.Enters Try.prog 27 := ⟨Try.f27, Try.func27, by kernel_rfl, by kernel_rfl⟩
theorem en22 : Go.X.Enters Try.prog 22 := ⟨Try.f22, Try.func22, by kernel_rfl, by kernel_rfl⟩
theorem en13 : Go.X.Enters Try.prog 13 := ⟨Try.f13, Try.func13, by kernel_rfl, by kernel_rfl⟩
theorem en19 : Go.X.Enters Try.prog 19 := ⟨Try.f19, Try.func19, by kernel_rfl, by kernel_rfl⟩
theorem en11 : Go.X.Enters Try.prog 11 := ⟨Try.f11, Try.func11, by kernel_rfl, by kernel_rfl⟩
theorem en16 : Go.X.Enters Try.prog 16 := ⟨Try.f16, Try.func16, by kernel_rfl, by kernel_rfl⟩
theorem en18 : Go.X.Enters Try.prog 18 := ⟨Try.f18, Try.func18, by kernel_rfl, by kernel_rfl⟩
theorem lof_w (N : Nat) (p : TProb) (aR : Value) (aq : Value) (ar : Value) (au : Value) (av : Value) (w : World) (S : Nat → Prop) (cK : Rs rI (vH w S [] w) aR p.Min) (bT : Rs rI (vH w S [] w) aq p.Max) (bU : Rs rTTest (vH w S [] w) ar p.Tests) (bV : Rs rArr2Int (vH w S [] w) au p.Same) (bW : Rs rArr2Int (vH w S [] w) av p.Different) (r : TProb) (h : lof N p = some r) :
  Calls Try.prog 14 #[(zbr #[aR, aq, ar, au, av])] w (Ret w (fun v w' => ∃ (bl : Value) (bm : Value) (bn : Value) (bo : Value) (bp : Value), (zbr #[bl, bm, bn, bo, bp]) = v ∧ Rs rI (vH w None [] w') bl r.Min ∧ Rs rI (vH w None [] w') bm r.Max ∧ Rs rTTest (vH w None [] w') bn r.Tests ∧ Rs rArr2Int (vH w None [] w') bo r.Same ∧ Rs rArr2Int (vH w None [] w') bp r.Different ∧ True)) := by
 unfold lof at h
 have hL : vL w w [] [] := Go.X.Loc.begin0 w
 refine calls_of (l := [(zbr #[aR, aq, ar, au, av])]) (rl := [.cell 2 31]) (n := 24) Try.func14 rfl rfl rfl (zaj rfl) ?_
 refine zam (zah rfl (zag (zdo (cs := [aR, aq, ar, au, av]) rfl rfl hL ?_)))
 intro b1 w2 cL cM
 have K4 := ks w cM
 refine zag (zdw (cs := [zN, zN, zN, zN, zN]) ti31 rfl cL ?_)
 intro b6 w7 cN bX
 have K9 := ks w bX
 refine zar (zam ?_)
 obtain ⟨aA, cO, h⟩ := zee h
 obtain ⟨cP, cQ, cR⟩ := zep cO
 obtain ⟨aB, cS, h⟩ := zee h
 obtain ⟨cT, cU, cV⟩ := zep cS
 obtain ⟨aC, cW, h⟩ := zee h
 obtain ⟨cX, cY, cZ⟩ := zep cW
 obtain ⟨aD, c0, h⟩ := zee h
 obtain ⟨c1, c2, c3⟩ := zep c0
 refine zcx 19 [[], [], [], [0], [], [], [], [4], [], [], [], [8], [], [], [], [12], [], [], []] [] (fun W1 => [.rel (fun v Z w' => ∃ aX, (osv (some aX) 0 (List.length ([] : (List Int))) 0) = v ∧ OwnC w' (some aX) (zab ([] ++ ([] ++ []))) ∧ Els rI (vZ W1 w None [some b6, some b1] Z w') [] ([] : (List Int)) ∧ ([] ++ [] : List Value).length = 0 * rI.sz ∧ True) footV, .det (zal (some ⟨b1, 0, none⟩)), .det aR, .rel (fun v Z w' => ∃ ah aa aw aE, (zO ah aA aa) = v ∧ OwnC w' ah (zab ([] ++ (aw ++ aE))) ∧ Els rI (vZ W1 w None [some b6, some b1] Z w') aw aA ∧ (aw ++ aE : List Value).length = aa * rI.sz ∧ True) footV, .rel (fun v Z w' => ∃ aY, (osv (some aY) 0 (List.length ([] : (List Int))) 0) = v ∧ OwnC w' (some aY) (zab ([] ++ ([] ++ []))) ∧ Els rI (vZ W1 w None [some b6, some b1] Z w') [] ([] : (List Int)) ∧ ([] ++ [] : List Value).length = 0 * rI.sz ∧ True) footV, .det (zal (some ⟨b1, 1, none⟩)), .det aq, .rel (fun v Z w' => ∃ ag ab am ax, (zO ag aB ab) = v ∧ OwnC w' ag (zab ([] ++ (am ++ ax))) ∧ Els rI (vZ W1 w None [some b6, some b1] Z w') am aB ∧ (am ++ ax : List Value).length = ab * rI.sz ∧ True) footV, .rel (fun v Z w' => ∃ aZ, (osv (some aZ) 0 (List.length ([] : (List TTest))) 0) = v ∧ OwnC w' (some aZ) (zab ([] ++ ([] ++ []))) ∧ Els rTTest (vZ W1 w None [some b6, some b1] Z w') [] ([] : (List TTest)) ∧ ([] ++ [] : List Value).length = 0 * rTTest.sz ∧ True) footV, .det (zal (some ⟨b1, 2, none⟩)), .det ar, .rel (fun v Z w' => ∃ ae ac ak an, (zO ae aC ac) = v ∧ OwnC w' ae (zab ([] ++ (ak ++ an))) ∧ Els rTTest (vZ W1 w None [some b6, some b1] Z w') ak aC ∧ (ak ++ an : List Value).length = ac * rTTest.sz ∧ True) footV, .rel (fun v Z w' => ∃ a0, (osv (some a0) 0 (List.length ([] : (List Arr2Int))) 0) = v ∧ OwnC w' (some a0) (zab ([] ++ ([] ++ []))) ∧ Els rArr2Int (vZ W1 w None [some b6, some b1] Z w') [] ([] : (List Arr2Int)) ∧ ([] ++ [] : List Value).length = 0 * rArr2Int.sz ∧ True) footV, .det (zal (some ⟨b1, 3, none⟩)), .det au, .rel (fun v Z w' => ∃ af ad al ao, (zO af aD ad) = v ∧ OwnC w' af (zab ([] ++ (al ++ ao))) ∧ Els rArr2Int (vZ W1 w None [some b6, some b1] Z w') al aD ∧ (al ++ ao : List Value).length = ad * rArr2Int.sz ∧ True) footV, .rel (fun v Z w' => ∃ aI, (osv (some aI) 0 (List.length ([] : (List Arr2Int))) 0) = v ∧ OwnC w' (some aI) (zab ([] ++ ([] ++ []))) ∧ Els rArr2Int (vZ W1 w None [some b6, some b1] Z w') [] ([] : (List Arr2Int)) ∧ ([] ++ [] : List Value).length = 0 * rArr2Int.sz ∧ True) footV, .det (zal (some ⟨b1, 4, none⟩)), .det av]) mixed rfl rfl rfl (fun _ => rfl) (fun _ => rfl) ?_ ?_
 ·
  intro W1 _
  exact ⟨fun v Z Z' w w' hΦ hz _ _ hs => by obtain ⟨aX, rfl, a1, a2, a3, -⟩ := hΦ; exact ⟨aX, rfl, (a1.stay (fun b hb => by cases hb; exact zbf) hs), (a2.mono (zdz hz hs)), a3, trivial⟩, ⟨fun v Z Z' w w' hΦ hz _ _ hs => by obtain ⟨ah, aa, aw, aE, rfl, aS, aF, aK, -⟩ := hΦ; exact ⟨ah, aa, aw, aE, rfl, (aS.stay (fun b hb => (zel (ob := ah) (o := 0) (n := aA.length) (cap := aa)).2 (by rw [hb]; exact zbf)) hs), (aF.mono (zdz hz hs)), aK, trivial⟩, ⟨fun v Z Z' w w' hΦ hz _ _ hs => by obtain ⟨aY, rfl, a4, a5, a6, -⟩ := hΦ; exact ⟨aY, rfl, (a4.stay (fun b hb => by cases hb; exact zbf) hs), (a5.mono (zdz hz hs)), a6, trivial⟩, ⟨fun v Z Z' w w' hΦ hz _ _ hs => by obtain ⟨ag, ab, am, ax, rfl, aT, aG, aL, -⟩ := hΦ; exact ⟨ag, ab, am, ax, rfl, (aT.stay (fun b hb => (zel (ob := ag) (o := 0) (n := aB.length) (cap := ab)).2 (by rw [hb]; exact zbf)) hs), (aG.mono (zdz hz hs)), aL, trivial⟩, ⟨fun v Z Z' w w' hΦ hz _ _ hs => by obtain ⟨aZ, rfl, a7, a8, a9, -⟩ := hΦ; exact ⟨aZ, rfl, (a7.stay (fun b hb => by cases hb; exact zbf) hs), (a8.mono (zdz hz hs)), a9, trivial⟩, ⟨fun v Z Z' w w' hΦ hz _ _ hs => by obtain ⟨ae, ac, ak, an, rfl, aU, aH, aM, -⟩ := hΦ; exact ⟨ae, ac, ak, an, rfl, (aU.stay (fun b hb => (zel (ob := ae) (o := 0) (n := aC.length) (cap := ac)).2 (by rw [hb]; exact zbf)) hs), (aH.mono (zdz hz hs)), aM, trivial⟩, ⟨fun v Z Z' w w' hΦ hz _ _ hs => by obtain ⟨a0, rfl, ba, bb, bc, -⟩ := hΦ; exact ⟨a0, rfl, (ba.stay (fun b hb => by cases hb; exact zbf) hs), (bb.mono (zdz hz hs)), bc, trivial⟩, ⟨fun v Z Z' w w' hΦ hz _ _ hs => by obtain ⟨af, ad, al, ao, rfl, bd, aJ, aO, -⟩ := hΦ; exact ⟨af, ad, al, ao, rfl, (bd.stay (fun b hb => (zel (ob := af) (o := 0) (n := aD.length) (cap := ad)).2 (by rw [hb]; exact zbf)) hs), (aJ.mono (zdz hz hs)), aO, trivial⟩, ⟨fun v Z Z' w w' hΦ hz _ _ hs => by obtain ⟨aI, rfl, be, aP, bf, -⟩ := hΦ; exact ⟨aI, rfl, (be.stay (fun b hb => by cases hb; exact zbf) hs), (aP.mono (zdz hz hs)), bf, trivial⟩, trivial⟩⟩⟩⟩⟩⟩⟩⟩⟩
 intro bk bY
 obtain ⟨ap, K10⟩ := zl cN bY
 refine zea ?_ ?_
 ·
  rintro cz Z18 c4 bZ ⟨-⟩
  refine zaq (zdr zan ti3 (Go.X.Loc.begin0 cz) ?_)
  intro aX c5 bq c6
  have br : NewOwn cz c5 [some aX] [zab ([] ++ ([] ++ []))] := bq.newOwn [0] rfl rfl rfl
  exact Made.ext bq.done bZ br (fun _ h => h) ⟨aX, rfl, br.2.2.1, zcn, (by simp), trivial⟩
 intro z0
 refine zaw (fun _ _ => zaq (zat zba rfl ti22 rfl rfl rfl (er rfl))) (zaw (fun _ b0 => zaq (zav zan rfl rfl ((ap.ext b0).at 1 rfl rfl) rfl (er rfl))) (zea ?_ ?_))
 ·
  rintro c7 Z23 b2 b3 ⟨⟨⟨aX, rfl, a1, a2, a3, -⟩, cA⟩, -⟩
  obtain ⟨c8, c9, da⟩ := Rs.src ((((cK.mono (K4 S)).mono (K9 S)).mono (K10 S)).mono (Zv.old (Z := Z23) b2))
  refine zaq (zcz (r := rI) (H := (vZ bk w None [some b6, some b1] Z23 c7)) (cs := []) (sp := []) (xs := ([] : (List Int))) (ys := p.Min) (Y := aA) (n := (List.length ([] : (List Int)))) (cap := 0) (i := 0) zan ti3 rfl rfl rfl rfl (Go.X.Loc.begin1 a1) rfl rfl a2 rfl a3 c9 (zcj (fun _ _ _ _ h => h) da) cP cQ cR ?_)
  intro ah aa aE aw w16 aF aK bg db
  exact Made.use b3 (fun b hb => cA b ((zel (o := 0) (n := (List.length ([] : (List Int)))) (cap := 0)).2 hb)) bg (fun b hb => List.mem_append_left _ ((zel (o := 0) (n := (List.length ([] : (List Int)))) (cap := 0)).2 (by rw [← hb]; exact zbf))) (fun b hb => footV_osv.1 hb) ⟨ah, aa, aw, aE, rfl, bg.own.1, (aF.mono (Zv.use (fun b hb => cA b ((zel (o := 0) (n := (List.length ([] : (List Int)))) (cap := 0)).2 hb)) bg)), aK, trivial⟩
 intro z3
 refine zea ?_ ?_
 ·
  rintro cB Z24 dc b4 ⟨-, -, -⟩
  refine zaq (zdr zan ti3 (Go.X.Loc.begin0 cB) ?_)
  intro aY dd bu dh
  have bw : NewOwn cB dd [some aY] [zab ([] ++ ([] ++ []))] := bu.newOwn [0] rfl rfl rfl
  exact Made.ext bu.done b4 bw (fun _ h => h) ⟨aY, rfl, bw.2.2.1, zcn, (by simp), trivial⟩
 intro z4
 refine zaw (fun _ _ => zaq (zat zba rfl ti22 rfl rfl rfl (er rfl))) (zaw (fun _ b5 => zaq (zav zan rfl rfl ((ap.ext b5).at 1 rfl rfl) rfl (er rfl))) (zea ?_ ?_))
 ·
  rintro di Z27 b7 b8 ⟨⟨⟨aY, rfl, a4, a5, a6, -⟩, cC⟩, ⟨⟨ah, aa, aw, aE, rfl, aS, aF, aK, -⟩, cD⟩, -, -⟩
  obtain ⟨dj, dk, dl⟩ := Rs.src ((((bT.mono (K4 S)).mono (K9 S)).mono (K10 S)).mono (Zv.old (Z := Z27) b7))
  refine zaq (zcz (r := rI) (H := (vZ bk w None [some b6, some b1] Z27 di)) (cs := []) (sp := []) (xs := ([] : (List Int))) (ys := p.Max) (Y := aB) (n := (List.length ([] : (List Int)))) (cap := 0) (i := 0) zan ti3 rfl rfl rfl rfl (Go.X.Loc.begin1 a4) rfl rfl a5 rfl a6 dk (zcj (fun _ _ _ _ h => h) dl) cT cU cV ?_)
  intro ag ab ax am w22 aG aL bh dm
  exact Made.use b8 (fun b hb => cC b ((zel (o := 0) (n := (List.length ([] : (List Int)))) (cap := 0)).2 hb)) bh (fun b hb => List.mem_append_left _ ((zel (o := 0) (n := (List.length ([] : (List Int)))) (cap := 0)).2 (by rw [← hb]; exact zbf))) (fun b hb => footV_osv.1 hb) ⟨ag, ab, am, ax, rfl, bh.own.1, (aG.mono (Zv.use (fun b hb => cC b ((zel (o := 0) (n := (List.length ([] : (List Int)))) (cap := 0)).2 hb)) bh)), aL, trivial⟩
 intro z7
 refine zea ?_ ?_
 ·
  rintro cE Z28 dn b9 ⟨-, -, -, -, -⟩
  refine zaq (zdr zbh ti44 (Go.X.Loc.begin0 cE) ?_)
  intro aZ dp bx dq
  have bz : NewOwn cE dp [some aZ] [zab ([] ++ ([] ++ []))] := bx.newOwn [0] rfl rfl rfl
  exact Made.ext bx.done b9 bz (fun _ h => h) ⟨aZ, rfl, bz.2.2.1, zcn, (by simp), trivial⟩
 intro z8
 refine zaw (fun _ _ => zaq (zat zba rfl ti23 rfl rfl rfl (er rfl))) (zaw (fun _ ca => zaq (zav zbh rfl rfl ((ap.ext ca).at 1 rfl rfl) rfl (er rfl))) (zea ?_ ?_))
 ·
  rintro dr Z31 cb cc ⟨⟨⟨aZ, rfl, a7, a8, a9, -⟩, cF⟩, ⟨⟨ag, ab, am, ax, rfl, aT, aG, aL, -⟩, cG⟩, -, -, -, -⟩
  obtain ⟨ds, dt, du⟩ := Rs.src ((((bU.mono (K4 S)).mono (K9 S)).mono (K10 S)).mono (Zv.old (Z := Z31) cb))
  refine zaq (zcz (r := rTTest) (H := (vZ bk w None [some b6, some b1] Z31 dr)) (cs := []) (sp := []) (xs := ([] : (List TTest))) (ys := p.Tests) (Y := aC) (n := (List.length ([] : (List TTest)))) (cap := 0) (i := 0) zbh ti44 rfl rfl rfl rfl (Go.X.Loc.begin1 a7) rfl rfl a8 rfl a9 dt (zcj (fun _ _ _ _ h => h) du) cX cY cZ ?_)
  intro ae ac an ak w28 aH aM bi dv
  exact Made.use cc (fun b hb => cF b ((zel (o := 0) (n := (List.length ([] : (List TTest)))) (cap := 0)).2 hb)) bi (fun b hb => List.mem_append_left _ ((zel (o := 0) (n := (List.length ([] : (List TTest)))) (cap := 0)).2 (by rw [← hb]; exact zbf))) (fun b hb => footV_osv.1 hb) ⟨ae, ac, ak, an, rfl, bi.own.1, (aH.mono (Zv.use (fun b hb => cF b ((zel (o := 0) (n := (List.length ([] : (List TTest)))) (cap := 0)).2 hb)) bi)), aM, trivial⟩
 intro z10
 refine zea ?_ ?_
 ·
  rintro cH Z32 dw cd ⟨-, -, -, -, -, -, -⟩
  refine zaq (zdr zbn ti45 (Go.X.Loc.begin0 cH) ?_)
  intro a0 dx bA dy
  have bB : NewOwn cH dx [some a0] [zab ([] ++ ([] ++ []))] := bA.newOwn [0] rfl rfl rfl
  exact Made.ext bA.done cd bB (fun _ h => h) ⟨a0, rfl, bB.2.2.1, zcn, (by simp), trivial⟩
 intro z11
 refine zaw (fun _ _ => zaq (zat zba rfl ti24 rfl rfl rfl (er rfl))) (zaw (fun _ ce => zaq (zav zbn rfl rfl ((ap.ext ce).at 1 rfl rfl) rfl (er rfl))) (zea ?_ ?_))
 ·
  rintro dz Z35 cg ch ⟨⟨⟨a0, rfl, ba, bb, bc, -⟩, bC⟩, ⟨⟨ae, ac, ak, an, rfl, aU, aH, aM, -⟩, bD⟩, -, -, -, -, -, -⟩
  obtain ⟨dA, dB, dC⟩ := Rs.src ((((bV.mono (K4 S)).mono (K9 S)).mono (K10 S)).mono (Zv.old (Z := Z35) cg))
  refine zaq (zcz (r := rArr2Int) (H := (vZ bk w None [some b6, some b1] Z35 dz)) (cs := []) (sp := []) (xs := ([] : (List Arr2Int))) (ys := p.Same) (Y := aD) (n := (List.length ([] : (List Arr2Int)))) (cap := 0) (i := 0) zbn ti45 rfl rfl rfl rfl (Go.X.Loc.begin1 ba) rfl rfl bb rfl bc dB (zcj (fun _ _ _ _ h => h) dC) c1 c2 c3 ?_)
  intro af ad ao al w34 aJ aO bj dD
  exact Made.use ch (fun b hb => bC b ((zel (o := 0) (n := (List.length ([] : (List Arr2Int)))) (cap := 0)).2 hb)) bj (fun b hb => List.mem_append_left _ ((zel (o := 0) (n := (List.length ([] : (List Arr2Int)))) (cap := 0)).2 (by rw [← hb]; exact zbf))) (fun b hb => footV_osv.1 hb) ⟨af, ad, al, ao, rfl, bj.own.1, (aJ.mono (Zv.use (fun b hb => bC b ((zel (o := 0) (n := (List.length ([] : (List Arr2Int)))) (cap := 0)).2 hb)) bj)), aO, trivial⟩
 intro z12
 refine zea ?_ ?_
 ·
  rintro cI Z36 dE ci ⟨-, -, -, -, -, -, -, -, -⟩
  refine zaq (zdr zbn ti45 (Go.X.Loc.begin0 cI) ?_)
  intro aI dF bE dG
  have bF : NewOwn cI dF [some aI] [zab ([] ++ ([] ++ []))] := bE.newOwn [0] rfl rfl rfl
  exact Made.ext bE.done ci bF (fun _ h => h) ⟨aI, rfl, bF.2.2.1, zcn, (by simp), trivial⟩
 intro z13
 refine zaw (fun _ _ => zaq (zat zba rfl ti24 rfl rfl rfl (er rfl))) (zaw (fun _ cj => zaq (zav zbn rfl rfl ((ap.ext cj).at 1 rfl rfl) rfl (er rfl))) (zdd ?_))
 rintro cJ Z39 ck aQ ⟨⟨⟨aI, rfl, be, aP, bf, -⟩, cp⟩, ⟨⟨af, ad, al, ao, rfl, bd, aJ, aO, -⟩, cq⟩, -, ⟨⟨ae, ac, ak, an, rfl, aU, aH, aM, -⟩, bD⟩, -, ⟨⟨ag, ab, am, ax, rfl, aT, aG, aL, -⟩, cG⟩, -, ⟨⟨ah, aa, aw, aE, rfl, aS, aF, aK, -⟩, cD⟩, -, -⟩ ay
 have az : ∀ b, some b ∈ ([some aI, af, ae, ag, ah] : List (Option Nat)) → bk.heap.size ≤ b ∧ ¬ Z39 b := by
  intro b hb
  rcases List.mem_cons.1 hb with hb' | hb
  ·
   have := cp b (by rw [hb']; exact zbf); exact ⟨this.1, this.2.2⟩
  rcases List.mem_cons.1 hb with hb' | hb
  ·
   have := cq b ((zel (ob := af) (o := 0) (n := aD.length) (cap := ad)).2 (by rw [hb']; exact zbf)); exact ⟨this.1, this.2.2⟩
  rcases List.mem_cons.1 hb with hb' | hb
  ·
   have := bD b ((zel (ob := ae) (o := 0) (n := aC.length) (cap := ac)).2 (by rw [hb']; exact zbf)); exact ⟨this.1, this.2.2⟩
  rcases List.mem_cons.1 hb with hb' | hb
  ·
   have := cG b ((zel (ob := ag) (o := 0) (n := aB.length) (cap := ab)).2 (by rw [hb']; exact zbf)); exact ⟨this.1, this.2.2⟩
  rcases List.mem_cons.1 hb with hb' | hb
  ·
   have := cD b ((zel (ob := ah) (o := 0) (n := aA.length) (cap := aa)).2 (by rw [hb']; exact zbf)); exact ⟨this.1, this.2.2⟩
  cases hb
 replace aP := aP.mono (Zv.fin ap aQ az)
 replace aJ := aJ.mono (Zv.fin ap aQ az)
 replace aH := aH.mono (Zv.fin ap aQ az)
 replace aG := aG.mono (Zv.fin ap aQ az)
 replace aF := aF.mono (Zv.fin ap aQ az)
 have cr : NewOwn bk cJ [some aI, af, ae, ag, ah] [zab ([] ++ ([] ++ [])), zab ([] ++ (al ++ ao)), zab ([] ++ (ak ++ an)), zab ([] ++ (am ++ ax)), zab ([] ++ (aw ++ aE))] := (zdx (zdx (zdx (zdx (zdx NewOwn.nil aS (fun b hb => (az b (by rw [← hb]; simp)).1) (fun b _ hb => by cases hb)) aT (fun b hb => (az b (by rw [← hb]; simp)).1) (fun b hb hm => (List.mem_cons.1 hm).elim (fun e => apE (ay.2.2.2.2.2.1.2) rfl rfl b ((zel (ob := ag) (o := 0) (n := aB.length) (cap := ab)).2 hb) ((zel (ob := ah) (o := 0) (n := aA.length) (cap := aa)).2 (by rw [e]; exact zbf))) (fun hm => by cases hm))) aU (fun b hb => (az b (by rw [← hb]; simp)).1) (fun b hb hm => (List.mem_cons.1 hm).elim (fun e => apE (ay.2.2.2.1.2) rfl rfl b ((zel (ob := ae) (o := 0) (n := aC.length) (cap := ac)).2 hb) ((zel (ob := ag) (o := 0) (n := aB.length) (cap := ab)).2 (by rw [e]; exact zbf))) (fun hm => (List.mem_cons.1 hm).elim (fun e => apE (ay.2.2.2.1.2.2.2) rfl rfl b ((zel (ob := ae) (o := 0) (n := aC.length) (cap := ac)).2 hb) ((zel (ob := ah) (o := 0) (n := aA.length) (cap := aa)).2 (by rw [e]; exact zbf))) (fun hm => by cases hm)))) bd (fun b hb => (az b (by rw [← hb]; simp)).1) (fun b hb hm => (List.mem_cons.1 hm).elim (fun e => apE (ay.2.1.2) rfl rfl b ((zel (ob := af) (o := 0) (n := aD.length) (cap := ad)).2 hb) ((zel (ob := ae) (o := 0) (n := aC.length) (cap := ac)).2 (by rw [e]; exact zbf))) (fun hm => (List.mem_cons.1 hm).elim (fun e => apE (ay.2.1.2.2.2) rfl rfl b ((zel (ob := af) (o := 0) (n := aD.length) (cap := ad)).2 hb) ((zel (ob := ag) (o := 0) (n := aB.length) (cap := ab)).2 (by rw [e]; exact zbf))) (fun hm => (List.mem_cons.1 hm).elim (fun e => apE (ay.2.1.2.2.2.2.2) rfl rfl b ((zel (ob := af) (o := 0) (n := aD.length) (cap := ad)).2 hb) ((zel (ob := ah) (o := 0) (n := aA.length) (cap := aa)).2 (by rw [e]; exact zbf))) (fun hm => by cases hm))))) be (fun b hb => (az b (by rw [← hb]; simp)).1) (fun b hb hm => (List.mem_cons.1 hm).elim (fun e => apE (ay.1) rfl rfl b ((zel (ob := (some aI)) (o := 0) (n := (List.length ([] : (List Arr2Int)))) (cap := 0)).2 hb) ((zel (ob := af) (o := 0) (n := aD.length) (cap := ad)).2 (by rw [e]; exact zbf))) (fun hm => (List.mem_cons.1 hm).elim (fun e => apE (ay.1.2.2) rfl rfl b ((zel (ob := (some aI)) (o := 0) (n := (List.length ([] : (List Arr2Int)))) (cap := 0)).2 hb) ((zel (ob := ae) (o := 0) (n := aC.length) (cap := ac)).2 (by rw [e]; exact zbf))) (fun hm => (List.mem_cons.1 hm).elim (fun e => apE (ay.1.2.2.2.2) rfl rfl b ((zel (ob := (some aI)) (o := 0) (n := (List.length ([] : (List Arr2Int)))) (cap := 0)).2 hb) ((zel (ob := ag) (o := 0) (n := aB.length) (cap := ab)).2 (by rw [e]; exact zbf))) (fun hm => (List.mem_cons.1 hm).elim (fun e => apE (ay.1.2.2.2.2.2.2) rfl rfl b ((zel (ob := (some aI)) (o := 0) (n := (List.length ([] : (List Arr2Int)))) (cap := 0)).2 hb) ((zel (ob := ah) (o := 0) (n := aA.length) (cap := aa)).2 (by rw [e]; exact zbf))) (fun hm => by cases hm))))))
 have bG := ap.adoptL ck cr
 have ct := bG.1
 have K11 := ks w bG.2
 obtain ⟨aN, dH, h⟩ := zee h
 obtain ⟨dI, dJ, dK⟩ := zep dH
 have dL := ((((bW.mono (K4 S)).mono (K9 S)).mono (K10 S)).mono (K11 S))
 obtain ⟨dM, dN, dO⟩ := Rs.src dL
 refine zag (zcz (r := rArr2Int) (H := (vH w None [some aI, af, ae, ag, ah, some b6, some b1] cJ)) (cs := []) (sp := []) (xs := ([] : (List Arr2Int))) (ys := p.Different) (Y := aN) (n := (List.length ([] : (List Arr2Int)))) (cap := 0) (i := 0) zbn ti45 rfl rfl rfl rfl ct rfl rfl aP rfl bf dN (zcj (fun _ _ _ _ h => h) dO) dI dJ dK ?_)
 intro aj ai aV aW w40 cu cv cw cx
 have K12 := ks w cx
 refine zag (OpY.build (zc := [zN, zN, zN, zN, zN]) (cs := [(zO ah aA aa), (zO ag aB ab), (zO ae aC ac), (zO af aD ad), (zO aj aN ai)]) (is := [0, 1, 2, 3, 4]) (vs := [(zO ah aA aa), (zO ag aB ab), (zO ae aC ac), (zO af aD ad), (zO aj aN ai)]) (css := [[(zO ah aA aa)], [(zO ag aB ab)], [(zO ae aC ac)], [(zO af aD ad)], [(zO aj aN ai)]]) pl31 ti31 rfl rfl rfl ⟨(zes (zem _ _ _ _)), ⟨(zes (zem _ _ _ _)), ⟨(zes (zem _ _ _ _)), ⟨(zes (zem _ _ _ _)), ⟨(zes (zem _ _ _ _)), trivial⟩⟩⟩⟩⟩ rfl (zdj (zdi (vs := [(zO ah aA aa), (zO ag aB ab), (zO ae aC ac), (zO af aD ad), (zO aj aN ai)]) ti31 rfl rfl rfl rfl (zej (zem _ _ _ _) (zej (zem _ _ _ _) (zej (zem _ _ _ _) (zej (zem _ _ _ _) (zej (zem _ _ _ _) zeu))))) cw 5 rfl rfl (zaj rfl) ?_)))
 intro bH bI cy
 have K13 := ks w cy
 refine zar ?_
 have dP := ((aF.mono (K12 None)).mono (K13 None))
 have dQ := bI.freezeRow 4 rfl rfl dP rfl rfl rfl aK
 have bJ := bI.pick [0, 1, 2, 3, 5, 6] rfl rfl rfl
 have bK : vL w bH [aj, af, ae, ag, some b6, some b1] [zab ([] ++ (aW ++ aV)), zab ([] ++ (al ++ ao)), zab ([] ++ (ak ++ an)), zab ([] ++ (am ++ ax)), zab [(zO ah aA aa), (zO ag aB ab), (zO ae aC ac), (zO af aD ad), (zO aj aN ai)], zab [aR, aq, ar, au, av]] := bJ.1
 have K14 := ks w bJ.2
 have dR := (((aG.mono (K12 None)).mono (K13 None)).mono (K14 None))
 have dS := bK.freezeRow 3 rfl rfl dR rfl rfl rfl aL
 have bL := bK.pick [0, 1, 2, 4, 5] rfl rfl rfl
 have bM : vL w bH [aj, af, ae, some b6, some b1] [zab ([] ++ (aW ++ aV)), zab ([] ++ (al ++ ao)), zab ([] ++ (ak ++ an)), zab [(zO ah aA aa), (zO ag aB ab), (zO ae aC ac), (zO af aD ad), (zO aj aN ai)], zab [aR, aq, ar, au, av]] := bL.1
 have K15 := ks w bL.2
 have dT := ((((aH.mono (K12 None)).mono (K13 None)).mono (K14 None)).mono (K15 None))
 have dU := bM.freezeRow 2 rfl rfl dT rfl rfl rfl aM
 have bN := bM.pick [0, 1, 3, 4] rfl rfl rfl
 have bO : vL w bH [aj, af, some b6, some b1] [zab ([] ++ (aW ++ aV)), zab ([] ++ (al ++ ao)), zab [(zO ah aA aa), (zO ag aB ab), (zO ae aC ac), (zO af aD ad), (zO aj aN ai)], zab [aR, aq, ar, au, av]] := bN.1
 have K16 := ks w bN.2
 have dV := (((((aJ.mono (K12 None)).mono (K13 None)).mono (K14 None)).mono (K15 None)).mono (K16 None))
 have dW := bO.freezeRow 1 rfl rfl dV rfl rfl rfl aO
 have bP := bO.pick [0, 2, 3] rfl rfl rfl
 have bQ : vL w bH [aj, some b6, some b1] [zab ([] ++ (aW ++ aV)), zab [(zO ah aA aa), (zO ag aB ab), (zO ae aC ac), (zO af aD ad), (zO aj aN ai)], zab [aR, aq, ar, au, av]] := bP.1
 have K17 := ks w bP.2
 have dX := ((((((cu.mono (K12 None)).mono (K13 None)).mono (K14 None)).mono (K15 None)).mono (K16 None)).mono (K17 None))
 have dY := bQ.freezeRow 0 rfl rfl dX rfl rfl rfl cv
 have bR := bQ.pick [1, 2] rfl rfl rfl
 have bS : vL w bH [some b6, some b1] [zab [(zO ah aA aa), (zO ag aB ab), (zO ae aC ac), (zO af aD ad), (zO aj aN ai)], zab [aR, aq, ar, au, av]] := bR.1
 have K18 := ks w bR.2
 refine zbv ?_
 obtain rfl := zad h
 refine ⟨[(zbr #[(zO ah aA aa), (zO ag aB ab), (zO ae aC ac), (zO af aD ad), (zO aj aN ai)])], ⟨⟨⟨b6, 0, none⟩, rfl, res_boxA zct rfl ti31 (bS.at 0 rfl rfl) rfl⟩, trivial⟩, ⟨_, rfl, bS.done, ?_⟩⟩
 have dZ := ((((dQ.mono (K15 None)).mono (K16 None)).mono (K17 None)).mono (K18 None))
 have d0 := (((dS.mono (K16 None)).mono (K17 None)).mono (K18 None))
 have d1 := ((dU.mono (K17 None)).mono (K18 None))
 have d2 := (dW.mono (K18 None))
 exact ⟨(zO ah aA aa), (zO ag aB ab), (zO ae aC ac), (zO af aD ad), (zO aj aN ai), rfl, (dZ.mono Hv.out), (d0.mono Hv.out), (d1.mono Hv.out), (d2.mono Hv.out), (dY.mono Hv.out), trivial⟩
theorem lequal_w (N : Nat) (a : (List (List UInt8))) (b : (List (List UInt8))) (ab : Value) (ac : Value) (w : World) (S : Nat → Prop) (aj : Rs rStr (vH w S [] w) ab a) (ay : Rs rStr (vH w S [] w) ac b) (r : Bool) (h : lequal N a b = some r) :
  Calls Try.prog 27 #[ab, ac] w (Ret w (fun v w' => (zac r) = v ∧ True)) := by
 unfold lequal at h
 have hL : vL w w [] [] := Go.X.Loc.begin0 w
 refine calls_of (l := [ab, ac]) (rl := [.tmp 4]) (n := 26) Try.func27 rfl rfl rfl (zaj rfl) ?_
 refine zam (zah rfl (zag (zai (v := zF) rfl (zar (zam (zam (zah rfl (zag (zae (v := ab) rfl (zag (zcc (v := ab) zaz rfl aj (zag (zae (v := ac) rfl (zag (zcc (v := ac) zaz rfl ay (zag (OpY.neq (((a.length : Int) : Int) ≠ (b.length : Int)) rfl rfl zbg (zar (zbi (((a.length : Int) : Int) ≠ (b.length : Int)) rfl (fun ak => ?_) (fun ak => ?_))))))))))))))))))))
 ·
  replace h := ite_t ak h
  refine zam (zah rfl (zag (zai (v := zF) rfl (zar (zbv ?_)))))
  obtain rfl := zad h
  refine ⟨[zF], zrt, ⟨_, rfl, hL.done, ?_⟩⟩
  exact zrt
 replace h := ite_f ak h
 refine zbm (zam (zam (zah rfl (zag (zae (v := ab) rfl ?_)))))
 refine zag (zcc (v := ab) zaz rfl aj (zag (zae (v := (zI 0)) rfl (zar ?_))))
 obtain ⟨aD, al, am⟩ := zee h
 refine zbt (fun e w' => ∃  (u : Env), (Sum.inl ()) = aD ∧ e = upds [] u ∧ vL w w' [] [] ∧ Keep w.heap.size [] w [] w' ∧ True) ?_ ?_
 ·
  refine zbc ?_
  refine zbx al (fun (ss : Int) (e : Env) (w' : World) => match ss with | aa => ∃ (u : Env), e = upds [(0, ab), (1, ac), (12, (zI (a.length : Int))), (13, (zI aa))] u ∧ vL w w' [] [] ∧ Keep w.heap.size [] w [] w' ∧ True) ⟨_, (zef ⟨rfl, rfl, rfl, rfl, trivial⟩), hL, zbp, trivial⟩ ?_
  rintro aa oo _ w10 ⟨u, rfl, ag, K10, -⟩ h ah
  rw [lequal_b1] at h
  refine zam (zah rfl (zag (zcf ((aa : Int) < (a.length : Int)) rfl rfl zbg (zar (zam (zbi ((aa : Int) < (a.length : Int)) rfl (fun ad => ?_) (fun ad => ?_)))))))
  ·
   replace h := ite_t ad h
   refine zbm (zam (zbc (zam (zah rfl (zag (zae (v := (zI aa)) rfl ?_))))))
   refine zag (zai (v := (zI aa)) rfl (zar (zam ?_)))
   obtain ⟨an, ao, aE, az, -, h⟩ := zix h
   have aF := (aj.mono (K10 S))
   obtain ⟨aG, aA, c10, aH, aI, q14, aJ, aK⟩ := zcy aF az
   obtain rfl := aK
   obtain ⟨ap, aq, aL, aB, -, h⟩ := zix h
   have aM := (ay.mono (K10 S))
   obtain ⟨aN, aC, c11, aO, aP, q20, aQ, aR⟩ := zcy aM aB
   obtain rfl := aR
   refine zcx 8 [] [] (fun W1 => [.det ab, .det (zI aa), .det (zal (some ⟨aG, (aA + ao * rStr.sz), none⟩)), .det (zS an), .det ac, .det (zI aa), .det (zal (some ⟨aN, (aC + aq * rStr.sz), none⟩)), .det (zS ap)]) mixed rfl rfl rfl (fun _ => rfl) (fun _ => rfl) ?_ ?_
   ·
    intro W1 _
    exact trivial
   intro aS ar
   obtain ⟨ae, K11⟩ := zl ag ar
   refine zaw (fun _ _ => zaq (zae rfl (er rfl))) (zaw (fun _ _ => zaq (zae rfl (er rfl))) (zaw (fun _ _ => zaq (zbs (r := rStr) (v := ab) (n := ao) (m := (aA + ao * rStr.sz)) zaz ti9 rfl aI rfl aE az rfl (er rfl))) (zaw (fun _ au => zaq (zbu zax rfl rfl zek (zbz ((ke ae au) S) (zbz (K11 S) aJ)) (er rfl))) (zaw (fun _ _ => zaq (zae rfl (er rfl))) (zaw (fun _ _ => zaq (zae rfl (er rfl))) (zaw (fun _ _ => zaq (zbs (r := rStr) (v := ac) (n := aq) (m := (aC + aq * rStr.sz)) zaz ti9 rfl aP rfl aL aB rfl (er rfl))) ?_))))))
   refine zaw (fun _ av => zaq (zbu zax rfl rfl zek (zbz ((ke ae av) S) (zbz (K11 S) aQ)) (er rfl))) (zdd ?_)
   rintro w20 Z28 aw aT ⟨-⟩ aU
   have aV := @zhb aS Z28
   obtain ⟨ai, K14⟩ := zl ae aw
   refine zag (OpY.sNeq (x := an) (y := ap) rfl rfl (zar (zbi (¬ an = ap) rfl (fun af => ?_) (fun af => ?_))))
   ·
    replace h := ite_t af h
    refine zam (zah rfl (zag (zai (v := zF) rfl (zar (zbv ?_)))))
    obtain rfl := zad h
    obtain rfl := ah _ rfl
    replace h := am
    try dsimp only at h
    obtain rfl := zad h
    refine ⟨[zF], zrt, ⟨_, rfl, ai.done, ?_⟩⟩
    exact zrt
   replace h := ite_f af h
   refine zbm (zbe (zah rfl (zag (zca (z := (iw (aa + 1))) rfl rfl rfl ?_))))
   refine zag (zae (v := (zI (iw (aa + 1)))) rfl (zar ?_))
   obtain rfl := zad h
   refine zap ⟨(iw (aa + 1)), rfl, ?_⟩
   exact ⟨_, (zef ⟨rfl, rfl, rfl, rfl, trivial⟩), ai, (zak (zak K10 K11) K14), trivial⟩
  replace h := ite_f ad h
  refine zcd rfl ?_
  obtain rfl := zad h
  obtain rfl := ah _ rfl
  replace h := am
  try dsimp only at h
  refine zap ?_
  exact ⟨_, rfl, (zef trivial), ag, K10, trivial⟩
 rintro _ w21 ⟨u, rfl, rfl, ax, K15, -⟩
 replace h := am
 try dsimp only at h
 refine zam (zah rfl (zag (zai (v := zT) rfl (zar (zbv ?_)))))
 obtain rfl := zad h
 refine ⟨[zT], zrt, ⟨_, rfl, ax.done, ?_⟩⟩
 exact zrt
theorem lnumbers_w (N : Nat) (a : (List Int)) (b : (List Int)) (ab : Value) (ac : Value) (w : World) (S : Nat → Prop) (aj : Rs rI (vH w S [] w) ab a) (ay : Rs rI (vH w S [] w) ac b) (r : Bool) (h : lnumbers N a b = some r) :
  Calls Try.prog 22 #[ab, ac] w (Ret w (fun v w' => (zac r) = v ∧ True)) := by
 unfold lnumbers at h
 have hL : vL w w [] [] := Go.X.Loc.begin0 w
 refine calls_of (l := [ab, ac]) (rl := [.tmp 4]) (n := 26) Try.func22 rfl rfl rfl (zaj rfl) ?_
 refine zam (zah rfl (zag (zai (v := zF) rfl (zar (zam (zam (zah rfl (zag (zae (v := ab) rfl (zag (zcc (v := ab) zan rfl aj (zag (zae (v := ac) rfl (zag (zcc (v := ac) zan rfl ay (zag (OpY.neq (((a.length : Int) : Int) ≠ (b.length : Int)) rfl rfl zbg (zar (zbi (((a.length : Int) : Int) ≠ (b.length : Int)) rfl (fun ak => ?_) (fun ak => ?_))))))))))))))))))))
 ·
  replace h := ite_t ak h
  refine zam (zah rfl (zag (zai (v := zF) rfl (zar (zbv ?_)))))
  obtain rfl := zad h
  refine ⟨[zF], zrt, ⟨_, rfl, hL.done, ?_⟩⟩
  exact zrt
 replace h := ite_f ak h
 refine zbm (zam (zam (zah rfl (zag (zae (v := ab) rfl ?_)))))
 refine zag (zcc (v := ab) zan rfl aj (zag (zae (v := (zI 0)) rfl (zar ?_))))
 obtain ⟨aD, al, am⟩ := zee h
 refine zbt (fun e w' => ∃  (u : Env), (Sum.inl ()) = aD ∧ e = upds [] u ∧ vL w w' [] [] ∧ Keep w.heap.size [] w [] w' ∧ True) ?_ ?_
 ·
  refine zbc ?_
  refine zbx al (fun (ss : Int) (e : Env) (w' : World) => match ss with | aa => ∃ (u : Env), e = upds [(0, ab), (1, ac), (12, (zI (a.length : Int))), (13, (zI aa))] u ∧ vL w w' [] [] ∧ Keep w.heap.size [] w [] w' ∧ True) ⟨_, (zef ⟨rfl, rfl, rfl, rfl, trivial⟩), hL, zbp, trivial⟩ ?_
  rintro aa oo _ w10 ⟨u, rfl, ag, K10, -⟩ h ah
  rw [lnumbers_b1] at h
  refine zam (zah rfl (zag (zcf ((aa : Int) < (a.length : Int)) rfl rfl zbg (zar (zam (zbi ((aa : Int) < (a.length : Int)) rfl (fun ad => ?_) (fun ad => ?_)))))))
  ·
   replace h := ite_t ad h
   refine zbm (zam (zbc (zam (zah rfl (zag (zae (v := (zI aa)) rfl ?_))))))
   refine zag (zai (v := (zI aa)) rfl (zar (zam ?_)))
   obtain ⟨an, ao, aE, az, -, h⟩ := zix h
   have aF := (aj.mono (K10 S))
   obtain ⟨aG, aA, c10, aH, aI, q14, aJ, aK⟩ := zcy aF az
   obtain rfl := aK
   obtain ⟨ap, aq, aL, aB, -, h⟩ := zix h
   have aM := (ay.mono (K10 S))
   obtain ⟨aN, aC, c11, aO, aP, q20, aQ, aR⟩ := zcy aM aB
   obtain rfl := aR
   refine zcx 8 [] [] (fun W1 => [.det ab, .det (zI aa), .det (zal (some ⟨aG, (aA + ao * rI.sz), none⟩)), .det (zI an), .det ac, .det (zI aa), .det (zal (some ⟨aN, (aC + aq * rI.sz), none⟩)), .det (zI ap)]) mixed rfl rfl rfl (fun _ => rfl) (fun _ => rfl) ?_ ?_
   ·
    intro W1 _
    exact trivial
   intro aS ar
   obtain ⟨ae, K11⟩ := zl ag ar
   refine zaw (fun _ _ => zaq (zae rfl (er rfl))) (zaw (fun _ _ => zaq (zae rfl (er rfl))) (zaw (fun _ _ => zaq (zbs (r := rI) (v := ab) (n := ao) (m := (aA + ao * rI.sz)) zan ti3 rfl aI rfl aE az rfl (er rfl))) (zaw (fun _ au => zaq (zbu zay rfl rfl zek (zbz ((ke ae au) S) (zbz (K11 S) aJ)) (er rfl))) (zaw (fun _ _ => zaq (zae rfl (er rfl))) (zaw (fun _ _ => zaq (zae rfl (er rfl))) (zaw (fun _ _ => zaq (zbs (r := rI) (v := ac) (n := aq) (m := (aC + aq * rI.sz)) zan ti3 rfl aP rfl aL aB rfl (er rfl))) ?_))))))
   refine zaw (fun _ av => zaq (zbu zay rfl rfl zek (zbz ((ke ae av) S) (zbz (K11 S) aQ)) (er rfl))) (zdd ?_)
   rintro w20 Z28 aw aT ⟨-⟩ aU
   have aV := @zhb aS Z28
   obtain ⟨ai, K14⟩ := zl ae aw
   refine zag (OpY.neq ((an : Int) ≠ ap) rfl rfl zbg (zar (zbi ((an : Int) ≠ ap) rfl (fun af => ?_) (fun af => ?_))))
   ·
    replace h := ite_t af h
    refine zam (zah rfl (zag (zai (v := zF) rfl (zar (zbv ?_)))))
    obtain rfl := zad h
    obtain rfl := ah _ rfl
    replace h := am
    try dsimp only at h
    obtain rfl := zad h
    refine ⟨[zF], zrt, ⟨_, rfl, ai.done, ?_⟩⟩
    exact zrt
   replace h := ite_f af h
   refine zbm (zbe (zah rfl (zag (zca (z := (iw (aa + 1))) rfl rfl rfl ?_))))
   refine zag (zae (v := (zI (iw (aa + 1)))) rfl (zar ?_))
   obtain rfl := zad h
   refine zap ⟨(iw (aa + 1)), rfl, ?_⟩
   exact ⟨_, (zef ⟨rfl, rfl, rfl, rfl, trivial⟩), ai, (zak (zak K10 K11) K14), trivial⟩
  replace h := ite_f ad h
  refine zcd rfl ?_
  obtain rfl := zad h
  obtain rfl := ah _ rfl
  replace h := am
  try dsimp only at h
  refine zap ?_
  exact ⟨_, rfl, (zef trivial), ag, K10, trivial⟩
 rintro _ w21 ⟨u, rfl, rfl, ax, K15, -⟩
 replace h := am
 try dsimp only at h
 refine zam (zah rfl (zag (zai (v := zT) rfl (zar (zbv ?_)))))
 obtain rfl := zad h
 refine ⟨[zT], zrt, ⟨_, rfl, ax.done, ?_⟩⟩
 exact zrt
theorem lexample_w (N : Nat)   (w : World) (S : Nat → Prop)  (r : TProb) (h : lexample N  = some r) :
  Calls Try.prog 26 #[] w (Ret w (fun v w' => ∃ (aa : Option Nat) (ah : Nat) (ai : List Value) (ar : List Value) (ab : Option Nat) (aj : Nat) (ak : List Value) (au : List Value) (ac : Option Nat) (al : Nat) (am : List Value) (av : List Value) (ad : Option Nat) (an : Nat) (ao : List Value) (aw : List Value) (ae : Option Nat) (ap : Nat) (aq : List Value) (ax : List Value), (zbr #[(zO aa r.Min ah), (zO ab r.Max aj), (zO ac r.Tests al), (zO ad r.Same an), (zO ae r.Different ap)]) = v ∧ NewOwn w w' [aa, ab, ac, ad, ae] [.cells ([] ++ (ai ++ ar)), .cells ([] ++ (ak ++ au)), .cells ([] ++ (am ++ av)), .cells ([] ++ (ao ++ aw)), .cells ([] ++ (aq ++ ax))] ∧ Els rI (vH w None [aa, ab, ac, ad, ae] w') ai r.Min ∧ (ai ++ ar).length = ah * rI.sz ∧ Els rI (vH w None [aa, ab, ac, ad, ae] w') ak r.Max ∧ (ak ++ au).length = aj * rI.sz ∧ Els rTTest (vH w None [aa, ab, ac, ad, ae] w') am r.Tests ∧ (am ++ av).length = al * rTTest.sz ∧ Els rArr2Int (vH w None [aa, ab, ac, ad, ae] w') ao r.Same ∧ (ao ++ aw).length = an * rArr2Int.sz ∧ Els rArr2Int (vH w None [aa, ab, ac, ad, ae] w') aq r.Different ∧ (aq ++ ax).length = ap * rArr2Int.sz ∧ True)) := by
 unfold lexample at h
 have hL : vL w w [] [] := Go.X.Loc.begin0 w
 refine calls_of (l := []) (rl := [.cell 0 26]) (n := 10) Try.func26 rfl rfl rfl (zaj rfl) ?_
 refine zam (zah rfl (zag (zdw (cs := [zN, zN, zN, zN, zN]) ti26 rfl hL ?_)))
 intro b1 w2 aS hS5
 refine zar (zam (zah rfl ?_))
 have aR : Els rI (vH w None [some b1] w2) [(zI 0), (zI 0)] [0, 0] := (zcq (a := [(zI 0)]) rfl (zcq (a := [(zI 0)]) rfl zcn))
 refine zag (zco (r := rI) (vs := [(zI 0), (zI 0)]) (css := [[(zI 0)], [(zI 0)]]) (xs := [0, 0]) zan ti3 (zaj rfl) rfl rfl ⟨rfl, rfl, ⟨rfl, rfl, trivial⟩⟩ (zaj rfl) aR rfl aS ?_)
 intro b6 aT aU aE aF
 have K10 := ks w aF
 have az : Els rI (vH w None [some b6, some b1] aT) [(zI 1), (zI 2)] [1, 2] := (zcq (a := [(zI 1)]) rfl (zcq (a := [(zI 2)]) rfl zcn))
 refine zag (zco (r := rI) (vs := [(zI 1), (zI 2)]) (css := [[(zI 1)], [(zI 2)]]) (xs := [1, 2]) zan ti3 (zaj rfl) rfl rfl ⟨rfl, rfl, ⟨rfl, rfl, trivial⟩⟩ (zaj rfl) az rfl aE ?_)
 intro af aV aG aH aI
 have K11 := ks w aI
 refine zag (OpY.build (zc := [(zI 0), (zI 0), zF, (zaf ⟨#[]⟩)]) (cs := [(zI 0), (zI 3), zF, (zS ([98] : List UInt8))]) (is := [0, 1, 3]) (vs := [(zI 0), (zI 3), (zS ([98] : List UInt8))]) (css := [[(zI 0)], [(zI 3)], [(zS ([98] : List UInt8))]]) pl44 ti44 rfl rfl rfl ⟨rfl, rfl, rfl, trivial⟩ rfl (zag (OpY.build (zc := [(zI 0), (zI 0), zF, (zaf ⟨#[]⟩)]) (cs := [(zI 0), (zI 2), zT, (zS ([97] : List UInt8))]) (is := [0, 1, 2, 3]) (vs := [(zI 0), (zI 2), zT, (zS ([97] : List UInt8))]) (css := [[(zI 0)], [(zI 2)], [zT], [(zS ([97] : List UInt8))]]) pl44 ti44 rfl rfl rfl ⟨rfl, rfl, rfl, rfl, trivial⟩ rfl (zag (OpY.build (zc := [(zI 0), (zI 0), zF, (zaf ⟨#[]⟩)]) (cs := [(zI 1), (zI 1), zF, (zS ([95] : List UInt8))]) (is := [0, 1, 3]) (vs := [(zI 1), (zI 1), (zS ([95] : List UInt8))]) (css := [[(zI 1)], [(zI 1)], [(zS ([95] : List UInt8))]]) pl44 ti44 rfl rfl rfl ⟨rfl, rfl, rfl, trivial⟩ rfl (zag (OpY.build (zc := [(zI 0), (zI 0), zF, (zaf ⟨#[]⟩)]) (cs := [(zI 1), (zI 2), zF, (zS ([99] : List UInt8))]) (is := [0, 1, 3]) (vs := [(zI 1), (zI 2), (zS ([99] : List UInt8))]) (css := [[(zI 1)], [(zI 2)], [(zS ([99] : List UInt8))]]) pl44 ti44 rfl rfl rfl ⟨rfl, rfl, rfl, trivial⟩ rfl (zag (OpY.build (zc := [(zI 0), (zI 0), zF, (zaf ⟨#[]⟩)]) (cs := [(zI 1), (zI 2), zT, (zS ([98] : List UInt8))]) (is := [0, 1, 2, 3]) (vs := [(zI 1), (zI 2), zT, (zS ([98] : List UInt8))]) (css := [[(zI 1)], [(zI 2)], [zT], [(zS ([98] : List UInt8))]]) pl44 ti44 rfl rfl rfl ⟨rfl, rfl, rfl, rfl, trivial⟩ rfl ?_)))))))))
 have aA : Els rTTest (vH w None [some af, some b6, some b1] aV) [(zI 0), (zI 3), zF, (zS ([98] : List UInt8)), (zI 0), (zI 2), zT, (zS ([97] : List UInt8)), (zI 1), (zI 1), zF, (zS ([95] : List UInt8)), (zI 1), (zI 2), zF, (zS ([99] : List UInt8)), (zI 1), (zI 2), zT, (zS ([98] : List UInt8))] [(TTest.mk 0 3 false ([98] : List UInt8)), (TTest.mk 0 2 true ([97] : List UInt8)), (TTest.mk 1 1 false ([95] : List UInt8)), (TTest.mk 1 2 false ([99] : List UInt8)), (TTest.mk 1 2 true ([98] : List UInt8))] := (zcq (a := [(zI 0), (zI 3), zF, (zS ([98] : List UInt8))]) (rTTest_close ⟨rfl, trivial⟩) (zcq (a := [(zI 0), (zI 2), zT, (zS ([97] : List UInt8))]) (rTTest_close ⟨rfl, trivial⟩) (zcq (a := [(zI 1), (zI 1), zF, (zS ([95] : List UInt8))]) (rTTest_close ⟨rfl, trivial⟩) (zcq (a := [(zI 1), (zI 2), zF, (zS ([99] : List UInt8))]) (rTTest_close ⟨rfl, trivial⟩) (zcq (a := [(zI 1), (zI 2), zT, (zS ([98] : List UInt8))]) (rTTest_close ⟨rfl, trivial⟩) zcn)))))
 refine zag (zco (r := rTTest) (vs := [(zbr #[(zI 0), (zI 3), zF, (zS ([98] : List UInt8))]), (zbr #[(zI 0), (zI 2), zT, (zS ([97] : List UInt8))]), (zbr #[(zI 1), (zI 1), zF, (zS ([95] : List UInt8))]), (zbr #[(zI 1), (zI 2), zF, (zS ([99] : List UInt8))]), (zbr #[(zI 1), (zI 2), zT, (zS ([98] : List UInt8))])]) (css := [[(zI 0), (zI 3), zF, (zS ([98] : List UInt8))], [(zI 0), (zI 2), zT, (zS ([97] : List UInt8))], [(zI 1), (zI 1), zF, (zS ([95] : List UInt8))], [(zI 1), (zI 2), zF, (zS ([99] : List UInt8))], [(zI 1), (zI 2), zT, (zS ([98] : List UInt8))]]) (xs := [(TTest.mk 0 3 false ([98] : List UInt8)), (TTest.mk 0 2 true ([97] : List UInt8)), (TTest.mk 1 1 false ([95] : List UInt8)), (TTest.mk 1 2 false ([99] : List UInt8)), (TTest.mk 1 2 true ([98] : List UInt8))]) zbh ti44 (zaj rfl) rfl rfl ⟨rfl, rfl, ⟨rfl, rfl, ⟨rfl, rfl, ⟨rfl, rfl, ⟨rfl, rfl, trivial⟩⟩⟩⟩⟩ (zaj rfl) aA rfl aH ?_)
 intro ag w12 aJ aK aL
 have K12 := ks w aL
 refine zag (OpY.build (zc := [zN, zN, zN, zN, zN]) (cs := [(osv (some b6) 0 2 2), (osv (some af) 0 2 2), (osv (some ag) 0 5 5), zN, zN]) (is := [0, 1, 2]) (vs := [(osv (some b6) 0 2 2), (osv (some af) 0 2 2), (osv (some ag) 0 5 5)]) (css := [[(osv (some b6) 0 2 2)], [(osv (some af) 0 2 2)], [(osv (some ag) 0 5 5)]]) pl26 ti26 rfl rfl rfl ⟨(zes (zem _ _ _ _)), ⟨(zes (zem _ _ _ _)), ⟨(zes (zem _ _ _ _)), trivial⟩⟩⟩ rfl (zdj (zdi (vs := [(osv (some b6) 0 2 2), (osv (some af) 0 2 2), (osv (some ag) 0 5 5), zN, zN]) ti26 rfl rfl rfl rfl (zej (zem _ _ _ _) (zej (zem _ _ _ _) (zej (zem _ _ _ _) (zej rfl (zej rfl zeu))))) aK 3 rfl rfl (zaj rfl) ?_)))
 intro aD aM aN
 have K13 := ks w aN
 refine zar ?_
 have aB := aM.addNil
 have aO : vL w aD [none, some ag, some af, some b6, some b1] [zab ([] ++ ([] ++ [])), zab ([] ++ ([(zI 0), (zI 3), zF, (zS ([98] : List UInt8)), (zI 0), (zI 2), zT, (zS ([97] : List UInt8)), (zI 1), (zI 1), zF, (zS ([95] : List UInt8)), (zI 1), (zI 2), zF, (zS ([99] : List UInt8)), (zI 1), (zI 2), zT, (zS ([98] : List UInt8))] ++ [])), zab ([] ++ ([(zI 1), (zI 2)] ++ [])), zab ([] ++ ([(zI 0), (zI 0)] ++ [])), zab [(osv (some b6) 0 2 2), (osv (some af) 0 2 2), (osv (some ag) 0 5 5), zN, zN]] := aB.1
 have K14 := ks w aB.2
 have aP : Els rArr2Int (vH w None [none, some ag, some af, some b6, some b1] aD) [] [] := zcn
 have aC := aO.addNil
 have ay : vL w aD [none, none, some ag, some af, some b6, some b1] [zab ([] ++ ([] ++ [])), zab ([] ++ ([] ++ [])), zab ([] ++ ([(zI 0), (zI 3), zF, (zS ([98] : List UInt8)), (zI 0), (zI 2), zT, (zS ([97] : List UInt8)), (zI 1), (zI 1), zF, (zS ([95] : List UInt8)), (zI 1), (zI 2), zF, (zS ([99] : List UInt8)), (zI 1), (zI 2), zT, (zS ([98] : List UInt8))] ++ [])), zab ([] ++ ([(zI 1), (zI 2)] ++ [])), zab ([] ++ ([(zI 0), (zI 0)] ++ [])), zab [(osv (some b6) 0 2 2), (osv (some af) 0 2 2), (osv (some ag) 0 5 5), zN, zN]] := aC.1
 have K15 := ks w aC.2
 have aQ : Els rArr2Int (vH w None [none, none, some ag, some af, some b6, some b1] aD) [] [] := zcn
 refine zbv ?_
 obtain rfl := zad h
 refine ⟨[(zbr #[(osv (some b6) 0 2 2), (osv (some af) 0 2 2), (osv (some ag) 0 5 5), (osv none 0 (List.length ([] : (List Arr2Int))) 0), (osv none 0 (List.length ([] : (List Arr2Int))) 0)])], ⟨⟨⟨b1, 0, none⟩, rfl, res_boxA zba rfl ti26 (ay.at 5 rfl rfl) rfl⟩, trivial⟩, ⟨_, rfl, ay.done, ?_⟩⟩
 have aW := ((((((aR.mono (K10 None)).mono (K11 None)).mono (K12 None)).mono (K13 None)).mono (K14 None)).mono (K15 None))
 have aX := (((((az.mono (K11 None)).mono (K12 None)).mono (K13 None)).mono (K14 None)).mono (K15 None))
 have aY := ((((aA.mono (K12 None)).mono (K13 None)).mono (K14 None)).mono (K15 None))
 have aZ := (aP.mono (K15 None))
 exact ⟨some b6, 2, [(zI 0), (zI 0)], [], some af, 2, [(zI 1), (zI 2)], [], some ag, 5, [(zI 0), (zI 3), zF, (zS ([98] : List UInt8)), (zI 0), (zI 2), zT, (zS ([97] : List UInt8)), (zI 1), (zI 1), zF, (zS ([95] : List UInt8)), (zI 1), (zI 2), zF, (zS ([99] : List UInt8)), (zI 1), (zI 2), zT, (zS ([98] : List UInt8))], [], none, 0, [], [], none, 0, [], [], rfl, (ay.newOwn [4, 3, 2, 1, 0] rfl rfl rfl), (aW.mono (zdy [4, 3, 2, 1, 0] rfl)), aU, (aX.mono (zdy [4, 3, 2, 1, 0] rfl)), aG, (aY.mono (zdy [4, 3, 2, 1, 0] rfl)), aJ, (aZ.mono (zdy [4, 3, 2, 1, 0] rfl)), (show ([] ++ [] : List Value).length = 0 * rArr2Int.sz by simp), (aQ.mono (zdy [4, 3, 2, 1, 0] rfl)), (show ([] ++ [] : List Value).length = 0 * rArr2Int.sz by simp), trivial⟩
theorem awake_w0 (N : Nat)   (w : World) (S : Nat → Prop)  (r : Bool) (h : awake N  = some r) (hr : r = true) :
  Calls Try.prog 11 #[] w (Ret w (fun v w' => (zac r) = v ∧ True)) := by
 unfold awake at h
 have hL : vL w w [] [] := Go.X.Loc.begin0 w
 refine calls_of (l := []) (rl := [.tmp 0]) (n := 120) Try.func11 rfl rfl rfl (zaj rfl) ?_
 refine zam (zah rfl (zag (zai (v := zF) rfl (zar (zam (zah rfl ?_))))))
 obtain ⟨r1, q2, h⟩ := zee h
 refine zag (zce en26 rfl rfl (lexample_w N _ Any r1 q2) ?_)
 rintro _ w10 c3 ⟨au, ax, cs5, sp6, aa, al, gu, gv, ab, am, gw, gx, ac, an, gz, gA, ah, bA, gB, gC, rfl, c4, c5, cT, bG, bo, bH, bp, bI, bq, b4, gE, -⟩
 replace c5 := c5.mono (zbw (S := None) hL [au, aa, ab, ac, ah])
 replace bG := bG.mono (zbw (S := None) hL [au, aa, ab, ac, ah])
 replace bH := bH.mono (zbw (S := None) hL [au, aa, ab, ac, ah])
 replace bI := bI.mono (zbw (S := None) hL [au, aa, ab, ac, ah])
 replace b4 := b4.mono (zbw (S := None) hL [au, aa, ab, ac, ah])
 have c6 := hL.adoptL c3 c4
 have bf := c6.1
 obtain ⟨aE, gF, h⟩ := zee h
 refine zag (zce en26 rfl rfl (lexample_w N _ Any aE gF) ?_)
 rintro _ w11 c7 ⟨ad, aY, gG, gH, ae, aZ, gI, gJ, af, a0, gK, gM, ai, bB, gN, gO, ag, a1, gP, gQ, rfl, c8, bJ, c9, bK, da, bL, db, b5, gR, bM, dc, -⟩
 replace bJ := bJ.mono (zbw (S := None) bf [ad, ae, af, ai, ag])
 replace bK := bK.mono (zbw (S := None) bf [ad, ae, af, ai, ag])
 replace bL := bL.mono (zbw (S := None) bf [ad, ae, af, ai, ag])
 replace b5 := b5.mono (zbw (S := None) bf [ad, ae, af, ai, ag])
 replace bM := bM.mono (zbw (S := None) bf [ad, ae, af, ai, ag])
 have b6 := bf.adoptL c7 c8
 have bg := b6.1
 have K10 := ks w b6.2
 obtain ⟨aQ, gU, h⟩ := zee h
 refine zag (zce en26 rfl rfl (lexample_w N _ Any aQ gU) ?_)
 rintro _ w12 dd ⟨ay, a2, dh, di, ar, aT, dj, dk, ap, bc, dl, dm, aj, bC, gV, gW, ak, bD, gX, gY, rfl, dn, bN, dp, bO, dq, bP, dr, b7, gZ, b8, g0, -⟩
 replace bN := bN.mono (zbw (S := None) bg [ay, ar, ap, aj, ak])
 replace bO := bO.mono (zbw (S := None) bg [ay, ar, ap, aj, ak])
 replace bP := bP.mono (zbw (S := None) bg [ay, ar, ap, aj, ak])
 replace b7 := b7.mono (zbw (S := None) bg [ay, ar, ap, aj, ak])
 replace b8 := b8.mono (zbw (S := None) bg [ay, ar, ap, aj, ak])
 have b9 := bg.adoptL dd dn
 have ds := b9.1
 have K11 := ks w b9.2
 refine zag (zdw (cs := [zN, zN, zN, zN, zN]) ti26 rfl ds ?_)
 intro aV w13 dt du
 have K12 := ks w du
 refine zag (zdw (cs := [zN, zN, zN, zN, zN]) ti26 rfl dt ?_)
 intro aW w14 dv dw
 have K13 := ks w dw
 refine zag (zdw (cs := [zN, zN, zN, zN, zN]) ti26 rfl dv ?_)
 intro aR w15 dx dy
 have K14 := ks w dy
 refine zdj (zdi (vs := [(zO au r1.Min ax), (zO aa r1.Max al), (zO ab r1.Tests am), (zO ac r1.Same an), (zO ah r1.Different bA)]) ti26 rfl rfl rfl rfl (zej (zem au 0 r1.Min.length ax) (zej (zem aa 0 r1.Max.length al) (zej (zem ab 0 r1.Tests.length am) (zej (zem ac 0 r1.Same.length an) (zej (zem ah 0 r1.Different.length bA) zeu))))) dx 2 rfl rfl (zaj rfl) ?_)
 intro w16 dz dA
 have K15 := ks w dA
 refine zdj (zdi (vs := [(zO ad aE.Min aY), (zO ae aE.Max aZ), (zO af aE.Tests a0), (zO ai aE.Same bB), (zO ag aE.Different a1)]) ti26 rfl rfl rfl rfl (zej (zem ad 0 aE.Min.length aY) (zej (zem ae 0 aE.Max.length aZ) (zej (zem af 0 aE.Tests.length a0) (zej (zem ai 0 aE.Same.length bB) (zej (zem ag 0 aE.Different.length a1) zeu))))) dz 1 rfl rfl (zaj rfl) ?_)
 intro w17 dB dC
 have K16 := ks w dC
 refine zdj (zdi (vs := [(zO ay aQ.Min a2), (zO ar aQ.Max aT), (zO ap aQ.Tests bc), (zO aj aQ.Same bC), (zO ak aQ.Different bD)]) ti26 rfl rfl rfl rfl (zej (zem ay 0 aQ.Min.length a2) (zej (zem ar 0 aQ.Max.length aT) (zej (zem ap 0 aQ.Tests.length bc) (zej (zem aj 0 aQ.Same.length bC) (zej (zem ak 0 aQ.Different.length bD) zeu))))) dB 0 rfl rfl (zaj rfl) ?_)
 intro g1 dD dE
 have K17 := ks w dE
 refine zar (zam (zah rfl (zag (OpY.buildArr (zc := [(zI 0), (zI 0)]) (vs := [(zI 0), (zI 1)]) (css := [[(zI 0)], [(zI 1)]]) zcb ti45 rfl ti3 rfl rfl ⟨rfl, rfl, ⟨rfl, rfl, trivial⟩⟩ ?_))))
 have ca : Els rArr2Int (vH w None [some aR, some aW, some aV, ay, ar, ap, aj, ak, ad, ae, af, ai, ag, au, aa, ab, ac, ah] g1) [(zI 0), (zI 1)] [(Arr2Int.mk 0 1)] := (zcq (a := [(zI 0), (zI 1)]) (rArr2Int_close ⟨rfl, trivial⟩) zcn)
 refine zag (zco (r := rArr2Int) (vs := [(zbr #[(zI 0), (zI 1)])]) (css := [[(zI 0), (zI 1)]]) (xs := [(Arr2Int.mk 0 1)]) zbn ti45 (zaj rfl) rfl rfl ⟨rfl, rfl, trivial⟩ (zaj rfl) ca rfl dD ?_)
 intro aD w19 br dF dG
 have K18 := ks w dG
 refine zag (zat (q := 4) zba rfl ti24 rfl rfl rfl (zdj (zdi (vs := [(osv (some aD) 0 1 1)]) ti24 rfl rfl (zes (zem (some aD) 0 1 1)) rfl (zej (zem (some aD) 0 1 1) zeu) dF 3 rfl rfl (zaj rfl) ?_)))
 intro g2 dH dI
 have K19 := ks w dI
 refine zar (zam (zah rfl (zag (OpY.buildArr (zc := [(zI 0), (zI 0)]) (vs := [(zI 1), (zI 0)]) (css := [[(zI 1)], [(zI 0)]]) zcb ti45 rfl ti3 rfl rfl ⟨rfl, rfl, ⟨rfl, rfl, trivial⟩⟩ ?_))))
 have cb : Els rArr2Int (vH w None [some aD, some aR, some aW, some aV, ay, ar, ap, aj, ak, ad, ae, af, ai, ag, au, aa, ab, ac, ah] g2) [(zI 1), (zI 0)] [(Arr2Int.mk 1 0)] := (zcq (a := [(zI 1), (zI 0)]) (rArr2Int_close ⟨rfl, trivial⟩) zcn)
 refine zag (zco (r := rArr2Int) (vs := [(zbr #[(zI 1), (zI 0)])]) (css := [[(zI 1), (zI 0)]]) (xs := [(Arr2Int.mk 1 0)]) zbn ti45 (zaj rfl) rfl rfl ⟨rfl, rfl, trivial⟩ (zaj rfl) cb rfl dH ?_)
 intro aS w21 dJ dK dL
 have K20 := ks w dL
 refine zag (zat (q := 3) zba rfl ti24 rfl rfl rfl (zdj (zdi (vs := [(osv (some aS) 0 1 1)]) ti24 rfl rfl (zes (zem (some aS) 0 1 1)) rfl (zej (zem (some aS) 0 1 1) zeu) dK 3 rfl rfl (zaj rfl) ?_)))
 intro w22 bQ dM
 have K21 := ks w dM
 refine zar (zam ?_)
 refine Swp.drawF (O := [some aS, some aD, some aR, some aW, some aV, ay, ar, ap, aj, ak, ad, ae, af, ai, ag, au, aa, ab, ac, ah]) [3, 7, 9, 11] [0, 1, 4, 5, 8, 10] [0, 1, 4, 5] [(2, 22), (6, 26)] [(20, (zal (some ⟨aR, 0, none⟩))), (21, (zO ay aQ.Min a2)), (24, (zal (some ⟨aR, 1, none⟩))), (25, (zO ar aQ.Max aT))] (fun f v O w' => Rs rI (vH w None O w') v (bif Nat.beq f 2 then [0] else (bif Nat.beq f 6 then [16] else []))) w.heap.size mixed rfl rfl rfl rfl (fun b hb => bQ.own.lt b hb) bQ.size (fun _ _ _ _ _ _ h hs => h.mono (hs _)) (FloatP.cons rfl (fun w1 O1 hK hs hO => zaq (OpY.litInts (ys := [0]) zan ti3 rfl rfl (by decide) (by decide) hs hO)) (FloatP.cons rfl (fun w1 O1 hK hs hO => zaq (OpY.litInts (ys := [16]) zan ti3 rfl rfl (by decide) (by decide) hs hO)) FloatP.nil)) ?_
 intro w23 dN
 obtain ⟨cc, K22⟩ := zl bQ dN
 refine ⟨?_, ?_⟩
 ·
  intro w24 dO
  have cd := cc.ext dO
  refine zao (i := 0) rfl rfl (zaq (zat (q := 0) zba rfl ti22 rfl rfl rfl zrr)) (zao (i := 1) rfl rfl (zaq (zav (v := (zO ay aQ.Min a2)) zan rfl rfl (cd.at 2 rfl rfl) rfl zrr)) (zao (i := 4) rfl rfl (zaq (zat (q := 1) zba rfl ti22 rfl rfl rfl zrr)) (zao (i := 5) rfl rfl (zaq (zav (v := (zO ar aQ.Max aT)) zan rfl rfl (cd.at 2 rfl rfl) rfl zrr)) ?_)))
  exact zch
 refine zdn (m := 3) [3] rfl rfl (fun q hq => ?_)
 obtain rfl := List.mem_singleton.1 hq
 refine zdv rfl ?_
 intro fR V10 dP dQ
 obtain ⟨dR, K23⟩ := zl cc dP
 have g3 : Rs rI (vH w None [some aS, some aD, some aR, some aW, some aV, ay, ar, ap, aj, ak, ad, ae, af, ai, ag, au, aa, ab, ac, ah] fR) (V10 2) [0] := dQ (2, 22) (by decide) rfl
 obtain ⟨bk, g4, h⟩ := zee h
 obtain ⟨g5, g6, g7⟩ := zep g4
 obtain ⟨g8, g9, ha⟩ := Rs.src g3
 have hc := ((((((((((((bN.mono (K12 None)).mono (K13 None)).mono (K14 None)).mono (K15 None)).mono (K16 None)).mono (K17 None)).mono (K18 None)).mono (K19 None)).mono (K20 None)).mono (K21 None)).mono (K22 None)).mono (K23 None))
 refine zcz (r := rI) (H := (vH w None [some aS, some aD, some aR, some aW, some aV, ay, ar, ap, aj, ak, ad, ae, af, ai, ag, au, aa, ab, ac, ah] fR)) (cs := dh) (sp := di) (xs := aQ.Min) (ys := [0]) (Y := bk) (n := aQ.Min.length) (cap := a2) (i := 5) zan ti3 rfl rfl rfl rfl dR rfl rfl hc rfl dp g9 (zcj (fun _ _ _ _ h => h) ha) g5 g6 g7 ?_
 intro ao az hd he w26 dS ce bu dT
 have K24 := ks w dT
 refine ⟨_, [8], [(28, (zal (some ⟨aR, 0, none⟩)))], K24, (fun b hb => bu.own.lt b hb), bu.size, rfl, rfl, ?_⟩
 refine ⟨?_, ?_⟩
 ·
  intro w27 dU
  have dV := bu.ext dU
  refine zao (i := 0) rfl rfl (zaq (zat (q := 0) zba rfl ti22 rfl rfl rfl zrr)) (zao (i := 4) rfl rfl (zaq (zat (q := 1) zba rfl ti22 rfl rfl rfl zrr)) (zao (i := 5) rfl rfl (zaq (zav (v := (zO ar aQ.Max aT)) zan rfl rfl (dV.at 2 rfl rfl) rfl zrr)) (zao (i := 8) rfl rfl (zaq (zat (q := 0) zba rfl ti22 rfl rfl rfl zrr)) ?_)))
  exact zch
 refine zdn (m := 2) [7] rfl rfl (fun q hq => ?_)
 obtain rfl := List.mem_singleton.1 hq
 refine zdv rfl ?_
 intro fS V11 dW dX
 obtain ⟨dY, K25⟩ := zl bu dW
 have hf : Rs rI (vH w None [some aS, some aD, some aR, some aW, some aV, ao, ar, ap, aj, ak, ad, ae, af, ai, ag, au, aa, ab, ac, ah] fS) (V11 6) [16] := dX (6, 26) (by decide) rfl
 obtain ⟨bl, hg, h⟩ := zee h
 obtain ⟨hh, hj, hk⟩ := zep hg
 obtain ⟨hl, hm, hn⟩ := Rs.src hf
 have ho := ((((((((((((((bO.mono (K12 None)).mono (K13 None)).mono (K14 None)).mono (K15 None)).mono (K16 None)).mono (K17 None)).mono (K18 None)).mono (K19 None)).mono (K20 None)).mono (K21 None)).mono (K22 None)).mono (K23 None)).mono (K24 None)).mono (K25 None))
 refine zcz (r := rI) (H := (vH w None [some aS, some aD, some aR, some aW, some aV, ao, ar, ap, aj, ak, ad, ae, af, ai, ag, au, aa, ab, ac, ah] fS)) (cs := dj) (sp := dk) (xs := aQ.Max) (ys := [16]) (Y := bl) (n := aQ.Max.length) (cap := aT) (i := 6) zan ti3 rfl rfl rfl rfl dY rfl rfl ho rfl dq hm (zcj (fun _ _ _ _ h => h) hn) hh hj hk ?_
 intro aq aA hp ht w29 dZ cg bR d0
 have K26 := ks w d0
 refine ⟨_, [], [], K26, (fun b hb => bR.own.lt b hb), bR.size, rfl, rfl, ?_⟩
 refine ⟨?_, ?_⟩
 ·
  intro w30 hu
  refine zao (i := 0) rfl rfl (zaq (zat (q := 0) zba rfl ti22 rfl rfl rfl zrr)) (zao (i := 4) rfl rfl (zaq (zat (q := 1) zba rfl ti22 rfl rfl rfl zrr)) (zao (i := 8) rfl rfl (zaq (zat (q := 0) zba rfl ti22 rfl rfl rfl zrr)) ?_))
  exact zch
 refine zdn (m := 1) [9] rfl rfl (fun q hq => ?_)
 obtain rfl := List.mem_singleton.1 hq
 refine RlF1.op0 rfl ?_
 intro w31 V12 d1 hv
 obtain ⟨d2, K27⟩ := zl bR d1
 refine zdi (vs := [(zO ao bk az)]) ti22 rfl rfl (zes (zem ao 0 bk.length az)) rfl (zej (zem ao 0 bk.length az) zeu) d2 2 rfl rfl (zaj rfl) ?_
 intro w32 bS d3
 have K28 := ks w d3
 refine ⟨_, [10], [(29, (zal (some ⟨aR, 1, none⟩)))], K28, (fun b hb => bS.own.lt b hb), bS.size, rfl, rfl, ?_⟩
 refine ⟨?_, ?_⟩
 ·
  intro w33 hw
  refine zao (i := 10) rfl rfl (zaq (zat (q := 1) zba rfl ti22 rfl rfl rfl zrr)) ?_
  exact zch
 refine zdn (m := 0) [11] rfl rfl (fun q hq => ?_)
 obtain rfl := List.mem_singleton.1 hq
 refine RlF1.op0 rfl ?_
 intro w34 V13 d4 hx
 obtain ⟨d5, K29⟩ := zl bS d4
 refine zdi (vs := [(zO aq bl aA)]) ti22 rfl rfl (zes (zem aq 0 bl.length aA)) rfl (zej (zem aq 0 bl.length aA) zeu) d5 2 rfl rfl (zaj rfl) ?_
 intro w35 bT d6
 have K30 := ks w d6
 refine ⟨_, [], [], K30, (fun b hb => bT.own.lt b hb), bT.size, rfl, rfl, ?_⟩
 refine ⟨?_, ?_⟩
 ·
  intro w36 hy
  exact zch
 refine RlF.fin ?_
 intro hz V14 d7
 obtain ⟨d8, K31⟩ := zl bT d7
 refine zam (zah rfl (zag (OpY.buildArr (zc := [(zI 0), (zI 0)]) (vs := [(zI 2), (zI 0)]) (css := [[(zI 2)], [(zI 0)]]) zcb ti45 rfl ti3 rfl rfl ⟨rfl, rfl, ⟨rfl, rfl, trivial⟩⟩ ?_)))
 have ch : Els rArr2Int (vH w None [some aS, some aD, some aR, some aW, some aV, ao, aq, ap, aj, ak, ad, ae, af, ai, ag, au, aa, ab, ac, ah] hz) [(zI 2), (zI 0)] [(Arr2Int.mk 2 0)] := (zcq (a := [(zI 2), (zI 0)]) (rArr2Int_close ⟨rfl, trivial⟩) zcn)
 refine zag (zco (r := rArr2Int) (vs := [(zbr #[(zI 2), (zI 0)])]) (css := [[(zI 2), (zI 0)]]) (xs := [(Arr2Int.mk 2 0)]) zbn ti45 (zaj rfl) rfl rfl ⟨rfl, rfl, trivial⟩ (zaj rfl) ch rfl d8 ?_)
 intro a3 w38 ci d9 ea
 have K32 := ks w ea
 refine zag (zat (q := 3) zba rfl ti24 rfl rfl rfl (zdj (zdi (vs := [(osv (some a3) 0 1 1)]) ti24 rfl rfl (zes (zem (some a3) 0 1 1)) rfl (zej (zem (some a3) 0 1 1) zeu) d9 3 rfl rfl (zaj rfl) ?_)))
 intro hA eb ec
 have K33 := ks w ec
 refine zar (zam (zah rfl (zag (OpY.buildArr (zc := [(zI 0), (zI 0)]) (vs := [(zI 2), (zI 1)]) (css := [[(zI 2)], [(zI 1)]]) zcb ti45 rfl ti3 rfl rfl ⟨rfl, rfl, ⟨rfl, rfl, trivial⟩⟩ ?_))))
 have cj : Els rArr2Int (vH w None [some a3, some aS, some aD, some aR, some aW, some aV, ao, aq, ap, aj, ak, ad, ae, af, ai, ag, au, aa, ab, ac, ah] hA) [(zI 2), (zI 1)] [(Arr2Int.mk 2 1)] := (zcq (a := [(zI 2), (zI 1)]) (rArr2Int_close ⟨rfl, trivial⟩) zcn)
 refine zag (zco (r := rArr2Int) (vs := [(zbr #[(zI 2), (zI 1)])]) (css := [[(zI 2), (zI 1)]]) (xs := [(Arr2Int.mk 2 1)]) zbn ti45 (zaj rfl) rfl rfl ⟨rfl, rfl, trivial⟩ (zaj rfl) cj rfl eb ?_)
 intro a9 w40 ck ed ee
 have K34 := ks w ee
 refine zag (zat (q := 4) zba rfl ti24 rfl rfl rfl (zdj (zdi (vs := [(osv (some a9) 0 1 1)]) ti24 rfl rfl (zes (zem (some a9) 0 1 1)) rfl (zej (zem (some a9) 0 1 1) zeu) ed 4 rfl rfl (zaj rfl) ?_)))
 intro hB cp ef
 have K35 := ks w ef
 refine zar (zam (zah rfl (zag (zat (q := 2) zba rfl ti23 rfl rfl rfl ?_))))
 refine zag (zav (v := (zO ap aQ.Tests bc)) zbh rfl rfl (cp.at 4 rfl rfl) rfl (zag (OpY.build (zc := [(zI 0), (zI 0), zF, (zaf ⟨#[]⟩)]) (cs := [(zI 2), (zI 0), zT, (zS ([97] : List UInt8))]) (is := [0, 1, 2, 3]) (vs := [(zI 2), (zI 0), zT, (zS ([97] : List UInt8))]) (css := [[(zI 2)], [(zI 0)], [zT], [(zS ([97] : List UInt8))]]) pl44 ti44 rfl rfl rfl ⟨rfl, rfl, rfl, rfl, trivial⟩ rfl ?_)))
 have cq : Els rTTest (vH w None [some a9, some a3, some aS, some aD, some aR, some aW, some aV, ao, aq, ap, aj, ak, ad, ae, af, ai, ag, au, aa, ab, ac, ah] hB) [(zI 2), (zI 0), zT, (zS ([97] : List UInt8))] [(TTest.mk 2 0 true ([97] : List UInt8))] := (zcq (a := [(zI 2), (zI 0), zT, (zS ([97] : List UInt8))]) (rTTest_close ⟨rfl, trivial⟩) zcn)
 refine zag (zco (r := rTTest) (vs := [(zbr #[(zI 2), (zI 0), zT, (zS ([97] : List UInt8))])]) (css := [[(zI 2), (zI 0), zT, (zS ([97] : List UInt8))]]) (xs := [(TTest.mk 2 0 true ([97] : List UInt8))]) zbh ti44 (zaj rfl) rfl rfl ⟨rfl, rfl, trivial⟩ (zaj rfl) cq rfl cp ?_)
 intro bE hC hD cr eg
 have K36 := ks w eg
 obtain ⟨bm, hE, h⟩ := zee h
 obtain ⟨hF, hG, hH⟩ := zep hE
 have fT := (cq.mono (K36 None))
 have hI := (((((((((((((((((((((((((bP.mono (K12 None)).mono (K13 None)).mono (K14 None)).mono (K15 None)).mono (K16 None)).mono (K17 None)).mono (K18 None)).mono (K19 None)).mono (K20 None)).mono (K21 None)).mono (K22 None)).mono (K23 None)).mono (K24 None)).mono (K25 None)).mono (K26 None)).mono (K27 None)).mono (K28 None)).mono (K29 None)).mono (K30 None)).mono (K31 None)).mono (K32 None)).mono (K33 None)).mono (K34 None)).mono (K35 None)).mono (K36 None))
 refine zag (zcz (r := rTTest) (H := (vH w None [some bE, some a9, some a3, some aS, some aD, some aR, some aW, some aV, ao, aq, ap, aj, ak, ad, ae, af, ai, ag, au, aa, ab, ac, ah] hC)) (cs := dl) (sp := dm) (xs := aQ.Tests) (ys := [(TTest.mk 2 0 true ([97] : List UInt8))]) (Y := bm) (n := aQ.Tests.length) (cap := bc) (i := 10) zbh ti44 rfl rfl rfl rfl cr rfl rfl hI rfl dr (zdu (pre := []) (o := 0) (n := 1) (cap := 1) (cr.at 0 rfl rfl) fT rfl rfl rfl) (zcj (fun _ _ _ _ h => h) fT) hF hG hH ?_)
 intro aB aC hJ hM w43 eh ct ei ej
 have K37 := ks w ej
 refine zag (zat (q := 2) zba rfl ti23 rfl rfl rfl (zdj (zdi (vs := [(zO aB bm aC)]) ti23 rfl rfl (zes (zem aB 0 bm.length aC)) rfl (zej (zem aB 0 bm.length aC) zeu) ei 5 rfl rfl (zaj rfl) ?_)))
 intro w44 aI ek
 have K38 := ks w ek
 refine zar (zam (zah rfl (zag (zcr (vs := [(zO au r1.Min ax), (zO aa r1.Max al), (zO ab r1.Tests am), (zO ac r1.Same an), (osv (some aD) 0 1 1)]) zba rfl ti26 rfl (aI.at 7 rfl rfl) rfl rfl ?_))))
 obtain ⟨fU, hN, h⟩ := zee h
 have fV := (((((((((((((((((((((((((((((c5.mono (K10 None)).mono (K11 None)).mono (K12 None)).mono (K13 None)).mono (K14 None)).mono (K15 None)).mono (K16 None)).mono (K17 None)).mono (K18 None)).mono (K19 None)).mono (K20 None)).mono (K21 None)).mono (K22 None)).mono (K23 None)).mono (K24 None)).mono (K25 None)).mono (K26 None)).mono (K27 None)).mono (K28 None)).mono (K29 None)).mono (K30 None)).mono (K31 None)).mono (K32 None)).mono (K33 None)).mono (K34 None)).mono (K35 None)).mono (K36 None)).mono (K37 None)).mono (K38 None))
 have fW := (((((((((((((((((((((((((((((bG.mono (K10 None)).mono (K11 None)).mono (K12 None)).mono (K13 None)).mono (K14 None)).mono (K15 None)).mono (K16 None)).mono (K17 None)).mono (K18 None)).mono (K19 None)).mono (K20 None)).mono (K21 None)).mono (K22 None)).mono (K23 None)).mono (K24 None)).mono (K25 None)).mono (K26 None)).mono (K27 None)).mono (K28 None)).mono (K29 None)).mono (K30 None)).mono (K31 None)).mono (K32 None)).mono (K33 None)).mono (K34 None)).mono (K35 None)).mono (K36 None)).mono (K37 None)).mono (K38 None))
 have fX := (((((((((((((((((((((((((((((bH.mono (K10 None)).mono (K11 None)).mono (K12 None)).mono (K13 None)).mono (K14 None)).mono (K15 None)).mono (K16 None)).mono (K17 None)).mono (K18 None)).mono (K19 None)).mono (K20 None)).mono (K21 None)).mono (K22 None)).mono (K23 None)).mono (K24 None)).mono (K25 None)).mono (K26 None)).mono (K27 None)).mono (K28 None)).mono (K29 None)).mono (K30 None)).mono (K31 None)).mono (K32 None)).mono (K33 None)).mono (K34 None)).mono (K35 None)).mono (K36 None)).mono (K37 None)).mono (K38 None))
 have fY := (((((((((((((((((((((((((((((bI.mono (K10 None)).mono (K11 None)).mono (K12 None)).mono (K13 None)).mono (K14 None)).mono (K15 None)).mono (K16 None)).mono (K17 None)).mono (K18 None)).mono (K19 None)).mono (K20 None)).mono (K21 None)).mono (K22 None)).mono (K23 None)).mono (K24 None)).mono (K25 None)).mono (K26 None)).mono (K27 None)).mono (K28 None)).mono (K29 None)).mono (K30 None)).mono (K31 None)).mono (K32 None)).mono (K33 None)).mono (K34 None)).mono (K35 None)).mono (K36 None)).mono (K37 None)).mono (K38 None))
 have fZ := (((((((((((((((((((((ca.mono (K18 None)).mono (K19 None)).mono (K20 None)).mono (K21 None)).mono (K22 None)).mono (K23 None)).mono (K24 None)).mono (K25 None)).mono (K26 None)).mono (K27 None)).mono (K28 None)).mono (K29 None)).mono (K30 None)).mono (K31 None)).mono (K32 None)).mono (K33 None)).mono (K34 None)).mono (K35 None)).mono (K36 None)).mono (K37 None)).mono (K38 None))
 refine zag (zce en14 rfl rfl (lof_w N (TProb.mk r1.Min r1.Max r1.Tests r1.Same [(Arr2Int.mk 0 1)]) (zO au r1.Min ax) (zO aa r1.Max al) (zO ab r1.Tests am) (zO ac r1.Same an) (osv (some aD) 0 1 1) _ Any (zei (pre := []) (o := 0) (n := r1.Min.length) (cap := ax) (aI.at 18 rfl rfl) fV vw_any rfl rfl rfl cT) (zei (pre := []) (o := 0) (n := r1.Max.length) (cap := al) (aI.at 19 rfl rfl) fW vw_any rfl rfl rfl bo) (zei (pre := []) (o := 0) (n := r1.Tests.length) (cap := am) (aI.at 20 rfl rfl) fX vw_any rfl rfl rfl bp) (zei (pre := []) (o := 0) (n := r1.Same.length) (cap := an) (aI.at 21 rfl rfl) fY vw_any rfl rfl rfl bq) (zei (pre := []) (o := 0) (n := 1) (cap := 1) (aI.at 4 rfl rfl) fZ vw_any rfl rfl rfl br) fU hN) ?_)
 rintro _ w45 em ⟨hP, hQ, hR, hS, hT, rfl, en, eo, ep, es, et, -⟩
 replace en := en.mono (zbw (S := None) aI [])
 replace eo := eo.mono (zbw (S := None) aI [])
 replace ep := ep.mono (zbw (S := None) aI [])
 replace es := es.mono (zbw (S := None) aI [])
 replace et := et.mono (zbw (S := None) aI [])
 obtain ⟨cu, K39⟩ := zl aI em
 obtain ⟨aX, hU, h⟩ := zee h
 refine zag (zce en17 rfl rfl (tSolve_w N fU hP hQ hR hS hT _ Any (en.mono vw_any) (eo.mono vw_any) (ep.mono vw_any) (es.mono vw_any) (et.mono vw_any) aX hU) ?_)
 rintro _ w46 eu ⟨av, aG, hV, hW, rfl, ew, bU, ex, -⟩
 replace bU := bU.mono (zbw (S := None) cu [av])
 have cv := cu.adoptL eu ew
 have aJ := cv.1
 have K40 := ks w cv.2
 refine zag (zae (v := (Value.tuple #[(zO av aX.1 aG), (zac aX.2)])) rfl (zag (zcm (vs := [(zO av aX.1 aG), (zac aX.2)]) (v := (zO av aX.1 aG)) rfl rfl (zag (zcm (vs := [(zO av aX.1 aG), (zac aX.2)]) (v := (zac aX.2)) rfl rfl (zag (zai (v := (zO av aX.1 aG)) rfl (zag (zai (v := (zac aX.2)) rfl (zar (zam (zah rfl (zag (zcr (vs := [(zO ad aE.Min aY), (zO ae aE.Max aZ), (zO af aE.Tests a0), (osv (some aS) 0 1 1), (zO ag aE.Different a1)]) zba rfl ti26 rfl (aJ.at 7 rfl rfl) rfl rfl ?_))))))))))))))
 obtain ⟨f0, hX, h⟩ := zee h
 have hY := ((((((((((((((((((((((((((((((bJ.mono (K11 None)).mono (K12 None)).mono (K13 None)).mono (K14 None)).mono (K15 None)).mono (K16 None)).mono (K17 None)).mono (K18 None)).mono (K19 None)).mono (K20 None)).mono (K21 None)).mono (K22 None)).mono (K23 None)).mono (K24 None)).mono (K25 None)).mono (K26 None)).mono (K27 None)).mono (K28 None)).mono (K29 None)).mono (K30 None)).mono (K31 None)).mono (K32 None)).mono (K33 None)).mono (K34 None)).mono (K35 None)).mono (K36 None)).mono (K37 None)).mono (K38 None)).mono (K39 None)).mono (K40 None))
 have hZ := ((((((((((((((((((((((((((((((bK.mono (K11 None)).mono (K12 None)).mono (K13 None)).mono (K14 None)).mono (K15 None)).mono (K16 None)).mono (K17 None)).mono (K18 None)).mono (K19 None)).mono (K20 None)).mono (K21 None)).mono (K22 None)).mono (K23 None)).mono (K24 None)).mono (K25 None)).mono (K26 None)).mono (K27 None)).mono (K28 None)).mono (K29 None)).mono (K30 None)).mono (K31 None)).mono (K32 None)).mono (K33 None)).mono (K34 None)).mono (K35 None)).mono (K36 None)).mono (K37 None)).mono (K38 None)).mono (K39 None)).mono (K40 None))
 have h0 := ((((((((((((((((((((((((((((((bL.mono (K11 None)).mono (K12 None)).mono (K13 None)).mono (K14 None)).mono (K15 None)).mono (K16 None)).mono (K17 None)).mono (K18 None)).mono (K19 None)).mono (K20 None)).mono (K21 None)).mono (K22 None)).mono (K23 None)).mono (K24 None)).mono (K25 None)).mono (K26 None)).mono (K27 None)).mono (K28 None)).mono (K29 None)).mono (K30 None)).mono (K31 None)).mono (K32 None)).mono (K33 None)).mono (K34 None)).mono (K35 None)).mono (K36 None)).mono (K37 None)).mono (K38 None)).mono (K39 None)).mono (K40 None))
 have h1 := (((((((((((((((((((((cb.mono (K20 None)).mono (K21 None)).mono (K22 None)).mono (K23 None)).mono (K24 None)).mono (K25 None)).mono (K26 None)).mono (K27 None)).mono (K28 None)).mono (K29 None)).mono (K30 None)).mono (K31 None)).mono (K32 None)).mono (K33 None)).mono (K34 None)).mono (K35 None)).mono (K36 None)).mono (K37 None)).mono (K38 None)).mono (K39 None)).mono (K40 None))
 have h2 := ((((((((((((((((((((((((((((((bM.mono (K11 None)).mono (K12 None)).mono (K13 None)).mono (K14 None)).mono (K15 None)).mono (K16 None)).mono (K17 None)).mono (K18 None)).mono (K19 None)).mono (K20 None)).mono (K21 None)).mono (K22 None)).mono (K23 None)).mono (K24 None)).mono (K25 None)).mono (K26 None)).mono (K27 None)).mono (K28 None)).mono (K29 None)).mono (K30 None)).mono (K31 None)).mono (K32 None)).mono (K33 None)).mono (K34 None)).mono (K35 None)).mono (K36 None)).mono (K37 None)).mono (K38 None)).mono (K39 None)).mono (K40 None))
 refine zag (zce en14 rfl rfl (lof_w N (TProb.mk aE.Min aE.Max aE.Tests [(Arr2Int.mk 1 0)] aE.Different) (zO ad aE.Min aY) (zO ae aE.Max aZ) (zO af aE.Tests a0) (osv (some aS) 0 1 1) (zO ag aE.Different a1) _ Any (zei (pre := []) (o := 0) (n := aE.Min.length) (cap := aY) (aJ.at 14 rfl rfl) hY vw_any rfl rfl rfl c9) (zei (pre := []) (o := 0) (n := aE.Max.length) (cap := aZ) (aJ.at 15 rfl rfl) hZ vw_any rfl rfl rfl da) (zei (pre := []) (o := 0) (n := aE.Tests.length) (cap := a0) (aJ.at 16 rfl rfl) h0 vw_any rfl rfl rfl db) (zei (pre := []) (o := 0) (n := 1) (cap := 1) (aJ.at 4 rfl rfl) h1 vw_any rfl rfl rfl dJ) (zei (pre := []) (o := 0) (n := aE.Different.length) (cap := a1) (aJ.at 18 rfl rfl) h2 vw_any rfl rfl rfl dc) f0 hX) ?_)
 rintro _ w47 ey ⟨h3, h4, h5, h6, h7, rfl, ez, eA, eB, eC, eD, -⟩
 replace ez := ez.mono (zbw (S := None) aJ [])
 replace eA := eA.mono (zbw (S := None) aJ [])
 replace eB := eB.mono (zbw (S := None) aJ [])
 replace eC := eC.mono (zbw (S := None) aJ [])
 replace eD := eD.mono (zbw (S := None) aJ [])
 obtain ⟨cw, K41⟩ := zl aJ ey
 obtain ⟨aU, h8, h⟩ := zee h
 refine zag (zce en17 rfl rfl (tSolve_w N f0 h3 h4 h5 h6 h7 _ Any (ez.mono vw_any) (eA.mono vw_any) (eB.mono vw_any) (eC.mono vw_any) (eD.mono vw_any) aU h8) ?_)
 rintro _ w48 eE ⟨aw, aH, h9, ia, rfl, eF, bV, eG, -⟩
 replace bV := bV.mono (zbw (S := None) cw [aw])
 have cx := cw.adoptL eE eF
 have aK := cx.1
 have K42 := ks w cx.2
 refine zag (zae (v := (Value.tuple #[(zO aw aU.1 aH), (zac aU.2)])) rfl (zag (zcm (vs := [(zO aw aU.1 aH), (zac aU.2)]) (v := (zO aw aU.1 aH)) rfl rfl (zag (zcm (vs := [(zO aw aU.1 aH), (zac aU.2)]) (v := (zac aU.2)) rfl rfl (zag (zai (v := (zO aw aU.1 aH)) rfl (zag (zai (v := (zac aU.2)) rfl (zar (zam (zah rfl (zag (zcr (vs := [(zO ao bk az), (zO aq bl aA), (zO aB bm aC), (osv (some a3) 0 1 1), (osv (some a9) 0 1 1)]) zba rfl ti26 rfl (aK.at 7 rfl rfl) rfl rfl ?_))))))))))))))
 obtain ⟨f1, ib, h⟩ := zee h
 have f2 := (((((((((((((((((((dS.mono (K24 None)).mono (K25 None)).mono (K26 None)).mono (K27 None)).mono (K28 None)).mono (K29 None)).mono (K30 None)).mono (K31 None)).mono (K32 None)).mono (K33 None)).mono (K34 None)).mono (K35 None)).mono (K36 None)).mono (K37 None)).mono (K38 None)).mono (K39 None)).mono (K40 None)).mono (K41 None)).mono (K42 None))
 have f3 := (((((((((((((((((dZ.mono (K26 None)).mono (K27 None)).mono (K28 None)).mono (K29 None)).mono (K30 None)).mono (K31 None)).mono (K32 None)).mono (K33 None)).mono (K34 None)).mono (K35 None)).mono (K36 None)).mono (K37 None)).mono (K38 None)).mono (K39 None)).mono (K40 None)).mono (K41 None)).mono (K42 None))
 have f4 := ((((((eh.mono (K37 None)).mono (K38 None)).mono (K39 None)).mono (K40 None)).mono (K41 None)).mono (K42 None))
 have f5 := (((((((((((ch.mono (K32 None)).mono (K33 None)).mono (K34 None)).mono (K35 None)).mono (K36 None)).mono (K37 None)).mono (K38 None)).mono (K39 None)).mono (K40 None)).mono (K41 None)).mono (K42 None))
 have f6 := (((((((((cj.mono (K34 None)).mono (K35 None)).mono (K36 None)).mono (K37 None)).mono (K38 None)).mono (K39 None)).mono (K40 None)).mono (K41 None)).mono (K42 None))
 refine zag (zce en14 rfl rfl (lof_w N (TProb.mk bk bl bm [(Arr2Int.mk 2 0)] [(Arr2Int.mk 2 1)]) (zO ao bk az) (zO aq bl aA) (zO aB bm aC) (osv (some a3) 0 1 1) (osv (some a9) 0 1 1) _ Any (zei (pre := []) (o := 0) (n := bk.length) (cap := az) (aK.at 10 rfl rfl) f2 vw_any rfl rfl rfl ce) (zei (pre := []) (o := 0) (n := bl.length) (cap := aA) (aK.at 11 rfl rfl) f3 vw_any rfl rfl rfl cg) (zei (pre := []) (o := 0) (n := bm.length) (cap := aC) (aK.at 12 rfl rfl) f4 vw_any rfl rfl rfl ct) (zei (pre := []) (o := 0) (n := 1) (cap := 1) (aK.at 4 rfl rfl) f5 vw_any rfl rfl rfl ci) (zei (pre := []) (o := 0) (n := 1) (cap := 1) (aK.at 3 rfl rfl) f6 vw_any rfl rfl rfl ck) f1 ib) ?_)
 rintro _ w49 eH ⟨ic, ie, ig, ih, ii, rfl, eI, eJ, eK, eL, eM, -⟩
 replace eI := eI.mono (zbw (S := None) aK [])
 replace eJ := eJ.mono (zbw (S := None) aK [])
 replace eK := eK.mono (zbw (S := None) aK [])
 replace eL := eL.mono (zbw (S := None) aK [])
 replace eM := eM.mono (zbw (S := None) aK [])
 obtain ⟨cy, K43⟩ := zl aK eH
 obtain ⟨ba, ij, h⟩ := zee h
 refine zag (zce en17 rfl rfl (tSolve_w N f1 ic ie ig ih ii _ Any (eI.mono vw_any) (eJ.mono vw_any) (eK.mono vw_any) (eL.mono vw_any) (eM.mono vw_any) ba ij) ?_)
 rintro _ w50 eN ⟨aF, a4, ik, il, rfl, eO, cz, im, -⟩
 replace cz := cz.mono (zbw (S := None) cy [aF])
 have cA := cy.adoptL eN eO
 have aL := cA.1
 have K44 := ks w cA.2
 refine zag (zae (v := (Value.tuple #[(zO aF ba.1 a4), (zac ba.2)])) rfl (zag (zcm (vs := [(zO aF ba.1 a4), (zac ba.2)]) (v := (zO aF ba.1 a4)) rfl rfl (zag (zcm (vs := [(zO aF ba.1 a4), (zac ba.2)]) (v := (zac ba.2)) rfl rfl (zag (zai (v := (zO aF ba.1 a4)) rfl (zag (zai (v := (zac ba.2)) rfl (zar (zam (zah rfl (zag (zcr (vs := [(zO ao bk az), (zO aq bl aA), (zO aB bm aC), (osv (some a3) 0 1 1), (osv (some a9) 0 1 1)]) zba rfl ti26 rfl (aL.at 8 rfl rfl) rfl rfl ?_))))))))))))))
 obtain ⟨f7, io, h⟩ := zee h
 have ip := ((f2.mono (K43 None)).mono (K44 None))
 have iq := ((f3.mono (K43 None)).mono (K44 None))
 have ir := ((f4.mono (K43 None)).mono (K44 None))
 have it := ((f5.mono (K43 None)).mono (K44 None))
 have iu := ((f6.mono (K43 None)).mono (K44 None))
 refine zag (zce en14 rfl rfl (lof_w N (TProb.mk bk bl bm [(Arr2Int.mk 2 0)] [(Arr2Int.mk 2 1)]) (zO ao bk az) (zO aq bl aA) (zO aB bm aC) (osv (some a3) 0 1 1) (osv (some a9) 0 1 1) _ Any (zei (pre := []) (o := 0) (n := bk.length) (cap := az) (aL.at 11 rfl rfl) ip vw_any rfl rfl rfl ce) (zei (pre := []) (o := 0) (n := bl.length) (cap := aA) (aL.at 12 rfl rfl) iq vw_any rfl rfl rfl cg) (zei (pre := []) (o := 0) (n := bm.length) (cap := aC) (aL.at 13 rfl rfl) ir vw_any rfl rfl rfl ct) (zei (pre := []) (o := 0) (n := 1) (cap := 1) (aL.at 5 rfl rfl) it vw_any rfl rfl rfl ci) (zei (pre := []) (o := 0) (n := 1) (cap := 1) (aL.at 4 rfl rfl) iu vw_any rfl rfl rfl ck) f7 io) ?_)
 rintro _ w51 eP ⟨iv, ix, iy, iz, iA, rfl, eQ, eR, eS, eT, eU, -⟩
 replace eQ := eQ.mono (zbw (S := None) aL [])
 replace eR := eR.mono (zbw (S := None) aL [])
 replace eS := eS.mono (zbw (S := None) aL [])
 replace eT := eT.mono (zbw (S := None) aL [])
 replace eU := eU.mono (zbw (S := None) aL [])
 obtain ⟨cB, K45⟩ := zl aL eP
 obtain ⟨bd, iB, h⟩ := zee h
 refine zag (zce en20 rfl rfl (tClasses_w N f7 iv ix iy iz iA _ Any (eQ.mono vw_any) (eR.mono vw_any) (eS.mono vw_any) (eT.mono vw_any) (eU.mono vw_any) bd iB) ?_)
 rintro _ iC eV ⟨aM, be, iD, cC, rfl, eW, bW, iE, -⟩
 replace bW := bW.mono (zbw (S := None) cB [aM])
 have cD := cB.adoptL eV eW
 have eX := cD.1
 have K46 := ks w cD.2
 refine zag (zai (v := (zO aM bd be)) rfl (zar (zam (zah rfl (zag (zae (v := (zac aX.2)) rfl (zag (zae (v := (zac aX.2)) rfl ?_))))))))
 by_cases bh : aX.2 = true
 ·
  replace h := ite_t bh h
  refine zbb rfl rfl bh (zae (v := (zO av aX.1 aG)) rfl ?_)
  have cE : Els rStr (vH w None [aM, aF, aw, av, some bE, some a9, some a3, some aS, some aD, some aR, some aW, some aV, ao, aq, aB, aj, ak, ad, ae, af, ai, ag, au, aa, ab, ac, ah] iC) [(zS ([97] : List UInt8)), (zS ([98] : List UInt8))] [([97] : List UInt8), ([98] : List UInt8)] := (zcq (a := [(zS ([97] : List UInt8))]) rfl (zcq (a := [(zS ([98] : List UInt8))]) rfl zcn))
  refine zbb rfl rfl bh (zco (r := rStr) (vs := [(zS ([97] : List UInt8)), (zS ([98] : List UInt8))]) (css := [[(zS ([97] : List UInt8))], [(zS ([98] : List UInt8))]]) (xs := [([97] : List UInt8), ([98] : List UInt8)]) zaz ti9 (zaj rfl) rfl rfl ⟨rfl, rfl, ⟨rfl, rfl, trivial⟩⟩ (zaj rfl) cE rfl eX ?_)
  intro bX w53 eY bY eZ
  have K47 := ks w eZ
  obtain ⟨cU, iF, h⟩ := zee h
  have iG := (((((((bU.mono (K41 None)).mono (K42 None)).mono (K43 None)).mono (K44 None)).mono (K45 None)).mono (K46 None)).mono (K47 None))
  have iH := (cE.mono (K47 None))
  refine zbb rfl rfl bh (zce en27 rfl rfl (lequal_w N aX.1 [([97] : List UInt8), ([98] : List UInt8)] (zO av aX.1 aG) (osv (some bX) 0 2 2) _ Any (zei (pre := []) (o := 0) (n := aX.1.length) (cap := aG) (bY.at 4 rfl rfl) iG vw_any rfl rfl rfl ex) (zei (pre := []) (o := 0) (n := 2) (cap := 2) (bY.at 0 rfl rfl) iH vw_any rfl rfl rfl eY) cU iF) ?_)
  rintro _ iI e2 ⟨rfl, -⟩
  obtain ⟨e3, K48⟩ := zl bY e2
  refine zag (zbo (v := (zac cU)) rfl bh rfl (zag (zae (v := (zac cU)) rfl ?_)))
  by_cases bw : cU = true
  ·
   replace h := ite_t bw h
   refine zbb rfl rfl bw (zae (v := (zac aU.2)) rfl (zag (zbo (v := (zac aU.2)) rfl bw rfl (zag (zae (v := (zac aU.2)) rfl ?_)))))
   by_cases bi : aU.2 = true
   ·
    replace h := ite_t bi h
    refine zbb rfl rfl bi (zae (v := (zO aw aU.1 aH)) rfl ?_)
    have cF : Els rStr (vH w None [some bX, aM, aF, aw, av, some bE, some a9, some a3, some aS, some aD, some aR, some aW, some aV, ao, aq, aB, aj, ak, ad, ae, af, ai, ag, au, aa, ab, ac, ah] iI) [(zS ([98] : List UInt8)), (zS ([98] : List UInt8))] [([98] : List UInt8), ([98] : List UInt8)] := (zcq (a := [(zS ([98] : List UInt8))]) rfl (zcq (a := [(zS ([98] : List UInt8))]) rfl zcn))
    refine zbb rfl rfl bi (zco (r := rStr) (vs := [(zS ([98] : List UInt8)), (zS ([98] : List UInt8))]) (css := [[(zS ([98] : List UInt8))], [(zS ([98] : List UInt8))]]) (xs := [([98] : List UInt8), ([98] : List UInt8)]) zaz ti9 (zaj rfl) rfl rfl ⟨rfl, rfl, ⟨rfl, rfl, trivial⟩⟩ (zaj rfl) cF rfl e3 ?_)
    intro b3 w55 e4 bZ e5
    have K49 := ks w e5
    obtain ⟨cV, iJ, h⟩ := zee h
    have iK := (((((((bV.mono (K43 None)).mono (K44 None)).mono (K45 None)).mono (K46 None)).mono (K47 None)).mono (K48 None)).mono (K49 None))
    have iL := (cF.mono (K49 None))
    refine zbb rfl rfl bi (zce en27 rfl rfl (lequal_w N aU.1 [([98] : List UInt8), ([98] : List UInt8)] (zO aw aU.1 aH) (osv (some b3) 0 2 2) _ Any (zei (pre := []) (o := 0) (n := aU.1.length) (cap := aH) (bZ.at 4 rfl rfl) iK vw_any rfl rfl rfl eG) (zei (pre := []) (o := 0) (n := 2) (cap := 2) (bZ.at 0 rfl rfl) iL vw_any rfl rfl rfl e4) cV iJ) ?_)
    rintro _ iM e6 ⟨rfl, -⟩
    obtain ⟨bx, K50⟩ := zl bZ e6
    refine zag (zbo (v := (zac cV)) rfl bi rfl (zag (zae (v := (zac cV)) rfl ?_)))
    by_cases bn : cV = true
    ·
     replace h := ite_t bn h
     refine zbb rfl rfl bn (zae (v := (zac ba.2)) rfl (zbb rfl rfl bn (OpY.not (x := ba.2) rfl (zag (zbo (v := (zac (!ba.2))) rfl bn rfl (zag (zae (v := (zac (!ba.2))) rfl ?_)))))))
     by_cases bj : (!ba.2) = true
     ·
      replace h := ite_t bj h
      refine zbb rfl rfl bj (zae (v := (zO aM bd be)) rfl ?_)
      have cW := ((((bW.mono (K47 None)).mono (K48 None)).mono (K49 None)).mono (K50 None))
      refine zbb rfl rfl bj (zcl (pre := []) (r := (rSl rI)) (xs := bd) zda rfl (bx.at 2 rfl rfl) cW rfl rfl (zbb rfl rfl bj (zdb (((bd.length : Int) : Int) = 2) rfl rfl zbg (zag (zbo (v := (zac (decide (((bd.length : Int) : Int) = 2)))) rfl bj rfl (zag (zae (v := (zac (decide (((bd.length : Int) : Int) = 2)))) rfl ?_)))))))
      by_cases a5 : ((bd.length : Int) : Int) = 2
      ·
       replace h := ite_t a5 h
       refine zbb rfl rfl (zed a5) (zae (v := (zO aM bd be)) rfl ?_)
       obtain ⟨iN, f8, iO, f9, iP, h⟩ := zix h
       obtain ⟨ga, bz⟩ := bx.row_some 2 rfl rfl (zev (pre := []) cW f9 (Nat.lt_of_sub_eq_succ rfl))
       refine zbb rfl rfl (zed a5) (zbl (r := (rSl rI)) (b := ga) (o := 0) (n := f8) (m := bd.length) (xs := bd) (q := (0 + f8 * (rSl rI).sz)) zda ti22 (zen bz) rfl rfl iO iP rfl ?_)
       obtain ⟨iQ, q42, iR, iS⟩ := zeo (pre := []) (sp := cC) cW f9
       obtain ⟨gb, rfl, iT⟩ := iR
       refine zbb rfl rfl (zed a5) (zby (v := gb) zan rfl rfl (zer bz (bx.at 2 rfl rfl)) iS ?_)
       have cG : Els rI (vH w None [some b3, some bX, aM, aF, aw, av, some bE, some a9, some a3, some aS, some aD, some aR, some aW, some aV, ao, aq, aB, aj, ak, ad, ae, af, ai, ag, au, aa, ab, ac, ah] iM) [(zI 0), (zI 2)] [0, 2] := (zcq (a := [(zI 0)]) rfl (zcq (a := [(zI 2)]) rfl zcn))
       refine zbb rfl rfl (zed a5) (zco (r := rI) (vs := [(zI 0), (zI 2)]) (css := [[(zI 0)], [(zI 2)]]) (xs := [0, 2]) zan ti3 (zaj rfl) rfl rfl ⟨rfl, rfl, ⟨rfl, rfl, trivial⟩⟩ (zaj rfl) cG rfl bx ?_)
       intro cH w57 e7 cI e8
       have K51 := ks w e8
       obtain ⟨cX, iU, h⟩ := zee h
       have iV := (iT.mono (K51 None))
       have iW := (cG.mono (K51 None))
       refine zbb rfl rfl (zed a5) (zce en22 rfl rfl (lnumbers_w N iN [0, 2] gb (osv (some cH) 0 2 2) _ Any (iV.mono vw_any) (zei (pre := []) (o := 0) (n := 2) (cap := 2) (cI.at 0 rfl rfl) iW vw_any rfl rfl rfl e7) cX iU) ?_)
       rintro _ iX e9 ⟨rfl, -⟩
       obtain ⟨cJ, K52⟩ := zl cI e9
       refine zag (zbo (v := (zac cX)) rfl (zed a5) rfl (zag (zae (v := (zac cX)) rfl ?_)))
       by_cases a6 : cX = true
       ·
        replace h := ite_t a6 h
        refine zbb rfl rfl a6 (zae (v := (zO aM bd be)) rfl ?_)
        obtain ⟨iY, gc, iZ, i0, i1, h⟩ := zix h
        refine zbb rfl rfl a6 (zbl (r := (rSl rI)) (b := ga) (o := 0) (n := gc) (m := bd.length) (xs := bd) (q := (0 + gc * (rSl rI).sz)) zda ti22 (zen bz) rfl rfl iZ i1 rfl ?_)
        have i2 := ((cW.mono (K51 None)).mono (K52 None))
        obtain ⟨i3, q50, i4, i5⟩ := zeo (pre := []) (sp := cC) i2 i0
        obtain ⟨gd, rfl, i6⟩ := i4
        refine zbb rfl rfl a6 (zby (v := gd) zan rfl rfl (zer bz (cJ.at 3 rfl rfl)) i5 ?_)
        have cK : Els rI (vH w None [some cH, some b3, some bX, aM, aF, aw, av, some bE, some a9, some a3, some aS, some aD, some aR, some aW, some aV, ao, aq, aB, aj, ak, ad, ae, af, ai, ag, au, aa, ab, ac, ah] iX) [(zI 1)] [1] := (zcq (a := [(zI 1)]) rfl zcn)
        refine zbb rfl rfl a6 (zco (r := rI) (vs := [(zI 1)]) (css := [[(zI 1)]]) (xs := [1]) zan ti3 (zaj rfl) rfl rfl ⟨rfl, rfl, trivial⟩ (zaj rfl) cK rfl cJ ?_)
        intro cY w59 fa cL fb
        have K53 := ks w fb
        obtain ⟨cZ, i7, h⟩ := zee h
        have i9 := (i6.mono (K53 None))
        have ja := (cK.mono (K53 None))
        refine zbb rfl rfl a6 (zce en22 rfl rfl (lnumbers_w N iY [1] gd (osv (some cY) 0 1 1) _ Any (i9.mono vw_any) (zei (pre := []) (o := 0) (n := 1) (cap := 1) (cL.at 0 rfl rfl) ja vw_any rfl rfl rfl fa) cZ i7) ?_)
        rintro _ w60 fc ⟨rfl, -⟩
        obtain ⟨aN, K54⟩ := zl cL fc
        refine zag (zbo (v := (zac cZ)) rfl a6 rfl (zag (zae (v := (zac cZ)) rfl ?_)))
        by_cases bb : cZ = true
        ·
         replace h := ite_t bb h
         refine zbb rfl rfl bb (zcr (vs := [(zO au r1.Min ax), (zO aa r1.Max al), (zO ab r1.Tests am), (zO ac r1.Same an), (osv (some aD) 0 1 1)]) zba rfl ti26 rfl (aN.at 15 rfl rfl) rfl rfl ?_)
         obtain ⟨gf, jb, h⟩ := zee h
         have gg := ((((((((((((((((fV.mono (K39 None)).mono (K40 None)).mono (K41 None)).mono (K42 None)).mono (K43 None)).mono (K44 None)).mono (K45 None)).mono (K46 None)).mono (K47 None)).mono (K48 None)).mono (K49 None)).mono (K50 None)).mono (K51 None)).mono (K52 None)).mono (K53 None)).mono (K54 None))
         have gh := ((((((((((((((((fW.mono (K39 None)).mono (K40 None)).mono (K41 None)).mono (K42 None)).mono (K43 None)).mono (K44 None)).mono (K45 None)).mono (K46 None)).mono (K47 None)).mono (K48 None)).mono (K49 None)).mono (K50 None)).mono (K51 None)).mono (K52 None)).mono (K53 None)).mono (K54 None))
         have gi := ((((((((((((((((fX.mono (K39 None)).mono (K40 None)).mono (K41 None)).mono (K42 None)).mono (K43 None)).mono (K44 None)).mono (K45 None)).mono (K46 None)).mono (K47 None)).mono (K48 None)).mono (K49 None)).mono (K50 None)).mono (K51 None)).mono (K52 None)).mono (K53 None)).mono (K54 None))
         have gj := ((((((((((((((((fY.mono (K39 None)).mono (K40 None)).mono (K41 None)).mono (K42 None)).mono (K43 None)).mono (K44 None)).mono (K45 None)).mono (K46 None)).mono (K47 None)).mono (K48 None)).mono (K49 None)).mono (K50 None)).mono (K51 None)).mono (K52 None)).mono (K53 None)).mono (K54 None))
         have gk := ((((((((((((((((fZ.mono (K39 None)).mono (K40 None)).mono (K41 None)).mono (K42 None)).mono (K43 None)).mono (K44 None)).mono (K45 None)).mono (K46 None)).mono (K47 None)).mono (K48 None)).mono (K49 None)).mono (K50 None)).mono (K51 None)).mono (K52 None)).mono (K53 None)).mono (K54 None))
         refine zbb rfl rfl bb (zce en14 rfl rfl (lof_w N (TProb.mk r1.Min r1.Max r1.Tests r1.Same [(Arr2Int.mk 0 1)]) (zO au r1.Min ax) (zO aa r1.Max al) (zO ab r1.Tests am) (zO ac r1.Same an) (osv (some aD) 0 1 1) _ Any (zei (pre := []) (o := 0) (n := r1.Min.length) (cap := ax) (aN.at 26 rfl rfl) gg vw_any rfl rfl rfl cT) (zei (pre := []) (o := 0) (n := r1.Max.length) (cap := al) (aN.at 27 rfl rfl) gh vw_any rfl rfl rfl bo) (zei (pre := []) (o := 0) (n := r1.Tests.length) (cap := am) (aN.at 28 rfl rfl) gi vw_any rfl rfl rfl bp) (zei (pre := []) (o := 0) (n := r1.Same.length) (cap := an) (aN.at 29 rfl rfl) gj vw_any rfl rfl rfl bq) (zei (pre := []) (o := 0) (n := 1) (cap := 1) (aN.at 12 rfl rfl) gk vw_any rfl rfl rfl br) gf jb) ?_)
         rintro _ jc fd ⟨jd, je, jf, jg, jh, rfl, fe, ff, fg, fh, fi, -⟩
         replace fe := fe.mono (zbw (S := None) aN [])
         replace ff := ff.mono (zbw (S := None) aN [])
         replace fg := fg.mono (zbw (S := None) aN [])
         replace fh := fh.mono (zbw (S := None) aN [])
         replace fi := fi.mono (zbw (S := None) aN [])
         obtain ⟨fj, K55⟩ := zl aN fd
         have cM : Els rStr (vH w None [some cY, some cH, some b3, some bX, aM, aF, aw, av, some bE, some a9, some a3, some aS, some aD, some aR, some aW, some aV, ao, aq, aB, aj, ak, ad, ae, af, ai, ag, au, aa, ab, ac, ah] jc) [(zS ([97] : List UInt8)), (zS ([98] : List UInt8))] [([97] : List UInt8), ([98] : List UInt8)] := (zcq (a := [(zS ([97] : List UInt8))]) rfl (zcq (a := [(zS ([98] : List UInt8))]) rfl zcn))
         refine zbb rfl rfl bb (zco (r := rStr) (vs := [(zS ([97] : List UInt8)), (zS ([98] : List UInt8))]) (css := [[(zS ([97] : List UInt8))], [(zS ([98] : List UInt8))]]) (xs := [([97] : List UInt8), ([98] : List UInt8)]) zaz ti9 (zaj rfl) rfl rfl ⟨rfl, rfl, ⟨rfl, rfl, trivial⟩⟩ (zaj rfl) cM rfl fj ?_)
         intro fk w62 fm cN fo
         have K56 := ks w fo
         obtain ⟨c0, ji, h⟩ := zee h
         have jj := (fe.mono (K56 None))
         have jk := (ff.mono (K56 None))
         have jl := (fg.mono (K56 None))
         have jm := (fh.mono (K56 None))
         have jn := (fi.mono (K56 None))
         have jo := (cM.mono (K56 None))
         refine zbb rfl rfl bb (zce en13 rfl rfl (tSatisfies_w N gf [([97] : List UInt8), ([98] : List UInt8)] jd je jf jg jh (osv (some fk) 0 2 2) _ Any (jj.mono vw_any) (jk.mono vw_any) (jl.mono vw_any) (jm.mono vw_any) (jn.mono vw_any) (zei (pre := []) (o := 0) (n := 2) (cap := 2) (cN.at 0 rfl rfl) jo vw_any rfl rfl rfl fm) c0 ji) ?_)
         rintro _ w63 fp ⟨rfl, -⟩
         obtain ⟨aO, K57⟩ := zl cN fp
         refine zag (zbo (v := (zac c0)) rfl bb rfl (zag (zae (v := (zac c0)) rfl ?_)))
         by_cases a7 : c0 = true
         ·
          replace h := ite_t a7 h
          refine zbb rfl rfl a7 (zcr (vs := [(zO au r1.Min ax), (zO aa r1.Max al), (zO ab r1.Tests am), (zO ac r1.Same an), (osv (some aD) 0 1 1)]) zba rfl ti26 rfl (aO.at 16 rfl rfl) rfl rfl ?_)
          obtain ⟨gl, jp, h⟩ := zee h
          have gm := (((gg.mono (K55 None)).mono (K56 None)).mono (K57 None))
          have gn := (((gh.mono (K55 None)).mono (K56 None)).mono (K57 None))
          have go := (((gi.mono (K55 None)).mono (K56 None)).mono (K57 None))
          have gp := (((gj.mono (K55 None)).mono (K56 None)).mono (K57 None))
          have gq := (((gk.mono (K55 None)).mono (K56 None)).mono (K57 None))
          refine zbb rfl rfl a7 (zce en14 rfl rfl (lof_w N (TProb.mk r1.Min r1.Max r1.Tests r1.Same [(Arr2Int.mk 0 1)]) (zO au r1.Min ax) (zO aa r1.Max al) (zO ab r1.Tests am) (zO ac r1.Same an) (osv (some aD) 0 1 1) _ Any (zei (pre := []) (o := 0) (n := r1.Min.length) (cap := ax) (aO.at 27 rfl rfl) gm vw_any rfl rfl rfl cT) (zei (pre := []) (o := 0) (n := r1.Max.length) (cap := al) (aO.at 28 rfl rfl) gn vw_any rfl rfl rfl bo) (zei (pre := []) (o := 0) (n := r1.Tests.length) (cap := am) (aO.at 29 rfl rfl) go vw_any rfl rfl rfl bp) (zei (pre := []) (o := 0) (n := r1.Same.length) (cap := an) (aO.at 30 rfl rfl) gp vw_any rfl rfl rfl bq) (zei (pre := []) (o := 0) (n := 1) (cap := 1) (aO.at 13 rfl rfl) gq vw_any rfl rfl rfl br) gl jp) ?_)
          rintro _ jq fq ⟨jr, js, jt, ju, jv, rfl, fs, fu, fv, fw, fx, -⟩
          replace fs := fs.mono (zbw (S := None) aO [])
          replace fu := fu.mono (zbw (S := None) aO [])
          replace fv := fv.mono (zbw (S := None) aO [])
          replace fw := fw.mono (zbw (S := None) aO [])
          replace fx := fx.mono (zbw (S := None) aO [])
          obtain ⟨fy, K58⟩ := zl aO fq
          have cO : Els rStr (vH w None [some fk, some cY, some cH, some b3, some bX, aM, aF, aw, av, some bE, some a9, some a3, some aS, some aD, some aR, some aW, some aV, ao, aq, aB, aj, ak, ad, ae, af, ai, ag, au, aa, ab, ac, ah] jq) [(zS ([98] : List UInt8)), (zS ([98] : List UInt8))] [([98] : List UInt8), ([98] : List UInt8)] := (zcq (a := [(zS ([98] : List UInt8))]) rfl (zcq (a := [(zS ([98] : List UInt8))]) rfl zcn))
          refine zbb rfl rfl a7 (zco (r := rStr) (vs := [(zS ([98] : List UInt8)), (zS ([98] : List UInt8))]) (css := [[(zS ([98] : List UInt8))], [(zS ([98] : List UInt8))]]) (xs := [([98] : List UInt8), ([98] : List UInt8)]) zaz ti9 (zaj rfl) rfl rfl ⟨rfl, rfl, ⟨rfl, rfl, trivial⟩⟩ (zaj rfl) cO rfl fy ?_)
          intro gr w65 fz cP fA
          have K59 := ks w fA
          obtain ⟨cQ, jw, h⟩ := zee h
          have jx := (fs.mono (K59 None))
          have jy := (fu.mono (K59 None))
          have jz := (fv.mono (K59 None))
          have jA := (fw.mono (K59 None))
          have jB := (fx.mono (K59 None))
          have jC := (cO.mono (K59 None))
          refine zbb rfl rfl a7 (zce en13 rfl rfl (tSatisfies_w N gl [([98] : List UInt8), ([98] : List UInt8)] jr js jt ju jv (osv (some gr) 0 2 2) _ Any (jx.mono vw_any) (jy.mono vw_any) (jz.mono vw_any) (jA.mono vw_any) (jB.mono vw_any) (zei (pre := []) (o := 0) (n := 2) (cap := 2) (cP.at 0 rfl rfl) jC vw_any rfl rfl rfl fz) cQ jw) ?_)
          rintro _ w66 fB ⟨rfl, -⟩
          obtain ⟨aP, K60⟩ := zl cP fB
          refine zbb rfl rfl a7 (OpY.not (x := cQ) rfl (zag (zbo (v := (zac (!cQ))) rfl a7 rfl (zag (zae (v := (zac (!cQ))) rfl ?_)))))
          by_cases a8 : (!cQ) = true
          ·
           replace h := ite_t a8 h
           refine zbb rfl rfl a8 (zcr (vs := [(zO au r1.Min ax), (zO aa r1.Max al), (zO ab r1.Tests am), (zO ac r1.Same an), (osv (some aD) 0 1 1)]) zba rfl ti26 rfl (aP.at 17 rfl rfl) rfl rfl ?_)
           obtain ⟨gs, jD, h⟩ := zee h
           have jE := (((gm.mono (K58 None)).mono (K59 None)).mono (K60 None))
           have jF := (((gn.mono (K58 None)).mono (K59 None)).mono (K60 None))
           have jG := (((go.mono (K58 None)).mono (K59 None)).mono (K60 None))
           have jH := (((gp.mono (K58 None)).mono (K59 None)).mono (K60 None))
           have jI := (((gq.mono (K58 None)).mono (K59 None)).mono (K60 None))
           refine zbb rfl rfl a8 (zce en14 rfl rfl (lof_w N (TProb.mk r1.Min r1.Max r1.Tests r1.Same [(Arr2Int.mk 0 1)]) (zO au r1.Min ax) (zO aa r1.Max al) (zO ab r1.Tests am) (zO ac r1.Same an) (osv (some aD) 0 1 1) _ Any (zei (pre := []) (o := 0) (n := r1.Min.length) (cap := ax) (aP.at 28 rfl rfl) jE vw_any rfl rfl rfl cT) (zei (pre := []) (o := 0) (n := r1.Max.length) (cap := al) (aP.at 29 rfl rfl) jF vw_any rfl rfl rfl bo) (zei (pre := []) (o := 0) (n := r1.Tests.length) (cap := am) (aP.at 30 rfl rfl) jG vw_any rfl rfl rfl bp) (zei (pre := []) (o := 0) (n := r1.Same.length) (cap := an) (aP.at 31 rfl rfl) jH vw_any rfl rfl rfl bq) (zei (pre := []) (o := 0) (n := 1) (cap := 1) (aP.at 14 rfl rfl) jI vw_any rfl rfl rfl br) gs jD) ?_)
           rintro _ w67 fC ⟨jJ, jK, jL, jM, jN, rfl, fD, fE, fF, fG, fH, -⟩
           replace fD := fD.mono (zbw (S := None) aP [])
           replace fE := fE.mono (zbw (S := None) aP [])
           replace fF := fF.mono (zbw (S := None) aP [])
           replace fG := fG.mono (zbw (S := None) aP [])
           replace fH := fH.mono (zbw (S := None) aP [])
           have cR := aP.ext fC
           obtain ⟨c1, jO, h⟩ := zee h
           refine zbb rfl rfl a8 (zce en19 rfl rfl (tLengths_w N gs 1 jJ jK jL jM jN _ Any (fD.mono vw_any) (fE.mono vw_any) (fF.mono vw_any) (fG.mono vw_any) (fH.mono vw_any) c1 jO) ?_)
           rintro _ jP fI ⟨b0, bF, jQ, jR, rfl, fJ, b1, fK, -⟩
           replace b1 := b1.mono (zbw (S := None) cR [b0])
           have fL := cR.adoptL fI fJ
           have fM := fL.1
           have cS : Els rI (vH w None [b0, some gr, some fk, some cY, some cH, some b3, some bX, aM, aF, aw, av, some bE, some a9, some a3, some aS, some aD, some aR, some aW, some aV, ao, aq, aB, aj, ak, ad, ae, af, ai, ag, au, aa, ab, ac, ah] jP) [(zI 1)] [1] := (zcq (a := [(zI 1)]) rfl zcn)
           refine zbb rfl rfl a8 (zco (r := rI) (vs := [(zI 1)]) (css := [[(zI 1)]]) (xs := [1]) zan ti3 (zaj rfl) rfl rfl ⟨rfl, rfl, trivial⟩ (zaj rfl) cS rfl fM ?_)
           intro jS w69 fN b2 fO
           have K61 := ks w fO
           obtain ⟨c2, jT, h⟩ := zee h
           have jU := (b1.mono (K61 None))
           have jV := (cS.mono (K61 None))
           refine zbb rfl rfl a8 (zce en22 rfl rfl (lnumbers_w N c1 [1] (zO b0 c1 bF) (osv (some jS) 0 1 1) _ Any (zei (pre := []) (o := 0) (n := c1.length) (cap := bF) (b2.at 1 rfl rfl) jU vw_any rfl rfl rfl fK) (zei (pre := []) (o := 0) (n := 1) (cap := 1) (b2.at 0 rfl rfl) jV vw_any rfl rfl rfl fN) c2 jT) ?_)
           rintro _ w70 fP ⟨rfl, -⟩
           have fQ := b2.ext fP
           refine zag (zbo (v := (zac c2)) rfl a8 rfl (zag (zai (v := (zac c2)) rfl (zar (zbv ?_)))))
           obtain rfl := zad h
           refine ⟨[(zac c2)], zrt, ⟨_, rfl, fQ.done, ?_⟩⟩
           exact zrt
          exact absurd ((zad (ite_f a8 h)).trans hr) Bool.false_ne_true
         exact absurd ((zad (ite_f a7 h)).trans hr) Bool.false_ne_true
        exact absurd ((zad (ite_f bb h)).trans hr) Bool.false_ne_true
       exact absurd ((zad (ite_f a6 h)).trans hr) Bool.false_ne_true
      exact absurd ((zad (ite_f a5 h)).trans hr) Bool.false_ne_true
     exact absurd ((zad (ite_f bj h)).trans hr) Bool.false_ne_true
    exact absurd ((zad (ite_f bn h)).trans hr) Bool.false_ne_true
   exact absurd ((zad (ite_f bi h)).trans hr) Bool.false_ne_true
  exact absurd ((zad (ite_f bw h)).trans hr) Bool.false_ne_true
 exact absurd ((zad (ite_f bh h)).trans hr) Bool.false_ne_true
theorem awake_w (N : Nat) (w : World) (S : Nat → Prop) (r : Bool) (h : awake N = some r) :
  Calls Try.prog 11 #[] w (Ret w (fun v w' => (zac r) = v ∧ True)) := awake_w0 N w S r h (awake_true h)
theorem lawSolve_w (N : Nat) (p : TProb) (aj : Value) (aa : Value) (ab : Value) (ac : Value) (ad : Value) (w : World) (S : Nat → Prop) (aQ : Rs rI (vH w S [] w) aj p.Min) (am : Rs rI (vH w S [] w) aa p.Max) (an : Rs rTTest (vH w S [] w) ab p.Tests) (ao : Rs rArr2Int (vH w S [] w) ac p.Same) (ap : Rs rArr2Int (vH w S [] w) ad p.Different) (r : Bool) (h : lawSolve N p = some r) :
  Calls Try.prog 4 #[(zbr #[aj, aa, ab, ac, ad])] w (Ret w (fun v w' => (zac r) = v ∧ True)) := by
 unfold lawSolve at h
 have hL : vL w w [] [] := Go.X.Loc.begin0 w
 refine calls_of (l := [(zbr #[aj, aa, ab, ac, ad])]) (rl := [.tmp 2]) (n := 23) Try.func4 rfl rfl rfl (zaj rfl) ?_
 refine zam (zah rfl (zag (zdo (cs := [aj, aa, ab, ac, ad]) rfl rfl hL ?_)))
 intro b1 w2 aX aY
 have K4 := ks w aY
 refine zag (zai (v := zF) rfl (zar (zam (zam ?_))))
 obtain ⟨aZ, h, a0⟩ := zee h
 refine zbt (fun e w' => ∃ (aw : Bool) (u : Env), aw = aZ ∧ e = upds [(1, (zal (some ⟨b1, 0, none⟩))), (11, (zac aw))] u ∧ vL w w' [some b1] [zab [aj, aa, ab, ac, ad]] ∧ Keep w.heap.size [some b1] w2 [some b1] w' ∧ True) ?_ ?_
 ·
  refine zah rfl ?_
  obtain ⟨ax, a1, h⟩ := zee h
  refine zag (zce en11 rfl rfl (awake_w N _ Any ax a1) ?_)
  rintro _ w10 aA ⟨rfl, -⟩
  obtain ⟨ak, K10⟩ := zl aX aA
  refine zag (OpY.not (x := ax) rfl (zag (zae (v := (zac (!ax))) rfl ?_)))
  by_cases ae : (!ax) = true
  ·
   replace h := ite_t ae h
   refine zbj rfl rfl ae (zbj rfl rfl ae (zbj rfl rfl ae (zag (zbo (v := zT) rfl ae rfl (zar ?_)))))
   obtain rfl := zad h
   refine zap ?_
   exact ⟨true, _, rfl, (zef ⟨rfl, rfl, trivial⟩), ak, K10, trivial⟩
  replace h := ite_f ae h
  refine zbb rfl rfl (zeg ae) (zcr (vs := [aj, aa, ab, ac, ad]) zba rfl ti26 rfl (ak.at 0 rfl rfl) rfl rfl ?_)
  obtain ⟨ay, a2, h⟩ := zee h
  have a3 := ((aQ.mono (K4 S)).mono (K10 S))
  have a4 := ((am.mono (K4 S)).mono (K10 S))
  have a5 := ((an.mono (K4 S)).mono (K10 S))
  have a6 := ((ao.mono (K4 S)).mono (K10 S))
  have a7 := ((ap.mono (K4 S)).mono (K10 S))
  refine zbb rfl rfl (zeg ae) (zce en16 rfl rfl (rShort_w N p aj aa ab ac ad _ Any (a3.mono vw_any) (a4.mono vw_any) (a5.mono vw_any) (a6.mono vw_any) (a7.mono vw_any) ay a2) ?_)
  rintro _ w11 aB ⟨rfl, -⟩
  obtain ⟨aC, K11⟩ := zl ak aB
  refine zbb rfl rfl (zeg ae) (OpY.not (x := ay) rfl (zag (zbk (v := (zac (!ay))) rfl (zeg ae) rfl (zar ?_))))
  obtain rfl := zad h
  refine zap ?_
  exact ⟨(!ay), _, rfl, (zef ⟨rfl, rfl, trivial⟩), aC, (zak K10 K11), trivial⟩
 rintro _ w12 ⟨aw, u, rfl, rfl, af, K12, -⟩
 replace h := a0
 try dsimp only at h
 refine zci aw rfl (fun al => ?_) (fun al => ?_)
 ·
  replace h := ite_t al h
  refine zam (zah rfl ?_)
  obtain ⟨aD, a8, h⟩ := zee h
  refine zag (zce en11 rfl rfl (awake_w N _ Any aD a8) ?_)
  rintro _ w13 aE ⟨rfl, -⟩
  have aF := af.ext aE
  refine zag (zai (v := (zac aD)) rfl (zar (zbv ?_)))
  obtain rfl := zad h
  refine ⟨[(zac aD)], zrt, ⟨_, rfl, aF.done, ?_⟩⟩
  exact zrt
 replace h := ite_f al h
 refine zbm (zam (zah rfl (zag (zcr (vs := [aj, aa, ab, ac, ad]) zba rfl ti26 rfl (af.at 0 rfl rfl) rfl rfl ?_))))
 obtain ⟨aR, a9, h⟩ := zee h
 have aS := ((aQ.mono (K4 S)).mono (K12 S))
 have aT := ((am.mono (K4 S)).mono (K12 S))
 have aU := ((an.mono (K4 S)).mono (K12 S))
 have aV := ((ao.mono (K4 S)).mono (K12 S))
 have aW := ((ap.mono (K4 S)).mono (K12 S))
 refine zag (zce en14 rfl rfl (lof_w N p aj aa ab ac ad _ Any (aS.mono vw_any) (aT.mono vw_any) (aU.mono vw_any) (aV.mono vw_any) (aW.mono vw_any) aR a9) ?_)
 rintro _ w14 aG ⟨ba, bb, bc, bd, be, rfl, aH, aI, aJ, aK, aL, -⟩
 replace aH := aH.mono (zbw (S := None) af [])
 replace aI := aI.mono (zbw (S := None) af [])
 replace aJ := aJ.mono (zbw (S := None) af [])
 replace aK := aK.mono (zbw (S := None) af [])
 replace aL := aL.mono (zbw (S := None) af [])
 obtain ⟨aq, K13⟩ := zl af aG
 obtain ⟨ah, bf, h⟩ := zee h
 refine zag (zce en17 rfl rfl (tSolve_w N aR ba bb bc bd be _ Any (aH.mono vw_any) (aI.mono vw_any) (aJ.mono vw_any) (aK.mono vw_any) (aL.mono vw_any) ah bf) ?_)
 rintro _ w15 aM ⟨ai, ag, bg, bh, rfl, aN, ar, bi, -⟩
 replace ar := ar.mono (zbw (S := None) aq [ai])
 have au := aq.adoptL aM aN
 have av := au.1
 have K14 := ks w au.2
 refine zag (zae (v := (Value.tuple #[(zO ai ah.1 ag), (zac ah.2)])) rfl (zag (zcm (vs := [(zO ai ah.1 ag), (zac ah.2)]) (v := (zO ai ah.1 ag)) rfl rfl (zag (zcm (vs := [(zO ai ah.1 ag), (zac ah.2)]) (v := (zac ah.2)) rfl rfl (zag (zai (v := (zO ai ah.1 ag)) rfl (zag (zai (v := (zac ah.2)) rfl (zar (zam (zah rfl (zag (zae (v := (zac ah.2)) rfl (zag (zcr (vs := [aj, aa, ab, ac, ad]) zba rfl ti26 rfl (av.at 1 rfl rfl) rfl rfl ?_))))))))))))))))
 obtain ⟨az, bj, h⟩ := zee h
 have bk := ((aS.mono (K13 S)).mono (K14 S))
 have bl := ((aT.mono (K13 S)).mono (K14 S))
 have bm := ((aU.mono (K13 S)).mono (K14 S))
 have bn := ((aV.mono (K13 S)).mono (K14 S))
 have bo := ((aW.mono (K13 S)).mono (K14 S))
 refine zag (zce en18 rfl rfl (rSolvable_w N p aj aa ab ac ad _ Any (bk.mono vw_any) (bl.mono vw_any) (bm.mono vw_any) (bn.mono vw_any) (bo.mono vw_any) az bj) ?_)
 rintro _ w16 aO ⟨rfl, -⟩
 have aP := av.ext aO
 refine zag (OpY.eqlBool (x := ah.2) (y := az) zdp rfl rfl (zag (zai (v := (zac (ah.2 == az))) rfl (zar (zbv ?_)))))
 obtain rfl := zad h
 refine ⟨[(zac (ah.2 == az))], zrt, ⟨_, rfl, aP.done, ?_⟩⟩
 exact zrt
end Go.Proofs.Ytaakoedphmeenaa.WL

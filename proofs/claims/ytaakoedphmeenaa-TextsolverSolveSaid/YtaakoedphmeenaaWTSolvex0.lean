/- Walks, written by a program of mine (wip/tool); the kernel checks them. -/
import Derived.Test.YtaakoedphmeenaaProg
import Derived.Test.YtaakoedphmeenaaSqSolve
import Derived.Test.YtaakoedphmeenaaPT
import Derived.Test.YtaakoedphmeenaaWASolve
import Derived.Test.YtaakoedphmeenaaWRSolve
set_option maxRecDepth 100000
set_option maxHeartbeats 40000000
set_option linter.unusedVariables false
set_option linter.unusedSimpArgs false
namespace Go.Proofs.Ytaakoedphmeenaa.WT
open Go Go.RowKit Go.X Go.D Go.Proofs.Ytaakoedphmeenaa.WA Go.Proofs.Ytaakoedphmeenaa.WR
theorem en66 : Go.X.Enters Try.prog 66 := ⟨Try.f66, Try.func66, by kernel_rfl, by kernel_rfl⟩
theorem en28 : Go.X.Enters Try.prog 28 := ⟨Try.f28, Try.func28, by kernel_rfl, by kernel_rfl⟩
theorem ti31 : TI Try.prog 31 5 120 (zbr #[zN, zN, zN, zN, zN]) := TI.mk (by kernel_rfl)
theorem en40 : Go.X.Enters Try.prog 40 := ⟨Try.f40, Try.func40, by kernel_rfl, by kernel_rfl⟩
theorem en71 : Go.X.Enters Try.prog 71 := ⟨Try.f71, Try.func71, by kernel_rfl, by kernel_rfl⟩
theorem ti56 : TI Try.prog 56 5 88 (zbr #[(zI 0), (zI 0), zN, zN, zN]) := TI.mk (by kernel_rfl)
theorem en59 : Go.X.Enters Try.prog 59 := ⟨Try.f59, Try.func59, by kernel_rfl, by kernel_rfl⟩
theorem en60 : Go.X.Enters Try.prog 60 := ⟨Try.f60, Try.func60, by kernel_rfl, by kernel_rfl⟩
theorem en39 : Go.X.Enters Try.prog 39 := ⟨Try.f39, Try.func39, by kernel_rfl, by kernel_rfl⟩
theorem pl44 : placesT Try.prog 44 = some [(0, 1), (1, 1), (2, 1), (3, 1)] := by kernel_rfl
theorem en31 : Go.X.Enters Try.prog 31 := ⟨Try.f31, Try.func31, by kernel_rfl, by kernel_rfl⟩
theorem en62 : Go.X.Enters Try.prog 62 := ⟨Try.f62, Try.func62, by kernel_rfl, by kernel_rfl⟩
theorem en50 : Go.X.Enters Try.prog 50 := ⟨Try.f50, Try.func50, by kernel_rfl, by kernel_rfl⟩
theorem en36 : Go.X.Enters Try.prog 36 := ⟨Try.f36, Try.func36, by kernel_rfl, by kernel_rfl⟩
theorem en72 : Go.X.Enters Try.prog 72 := ⟨Try.f72, Try.func72, by kernel_rfl, by kernel_rfl⟩
theorem en61 : Go.X.Enters Try.prog 61 := ⟨Try.f61, Try.func61, by kernel_rfl, by kernel_rfl⟩
theorem ti52 : TI Try.prog 52 1 24 zN := TI.mk (by kernel_rfl)
theorem en32 : Go.X.Enters Try.prog 32 := ⟨Try.f32, Try.func32, by kernel_rfl, by kernel_rfl⟩
theorem en34 : Go.X.Enters Try.prog 34 := ⟨Try.f34, Try.func34, by kernel_rfl, by kernel_rfl⟩
theorem en33 : Go.X.Enters Try.prog 33 := ⟨Try.f33, Try.func33, by kernel_rfl, by kernel_rfl⟩
theorem en35 : Go.X.Enters Try.prog 35 := ⟨Try.f35, Try.func35, by kernel_rfl, by kernel_rfl⟩
theorem indexInt_w (N : Nat) (s : (List Int)) (f : (Int → Option Bool)) (ab : Value) (af : Value) (w : World) (S : Nat → Prop) (am : Rs rI (vH w S [] w) ab s) (ar : ∀ w' : World, Ext w w' → ∀ (xa_ : Int), ∀ z, f xa_ = some z → FunOk Try.prog af [(zI xa_)] w' (fun v w'' => zac z = v ∧ True)) (r : Int) (h : indexInt N s f = some r) :
  Calls Try.prog 66 #[ab, af] w (Ret w (fun v w' => (zI r) = v ∧ True)) := by
 unfold indexInt at h
 have hL : vL w w [] [] := Go.X.Loc.begin0 w
 refine calls_of (l := [ab, af]) (rl := [.tmp 4]) (n := 19) Try.func66 rfl rfl rfl (zaj rfl) ?_
 refine zam (zah rfl (zag (zai (v := (zI 0)) rfl (zar (zam (zam (zah rfl (zag (zae (v := ab) rfl (zag (zcc (v := ab) zan rfl am (zag (zae (v := (zI 0)) rfl (zar ?_))))))))))))))
 obtain ⟨au, ai, aj⟩ := zee h
 refine zbt (fun e w' => ∃  (u : Env), (Sum.inl ()) = au ∧ e = upds [] u ∧ vL w w' [] [] ∧ Keep w.heap.size [] w [] w' ∧ True) ?_ ?_
 ·
  refine zbc ?_
  refine zbx ai (fun (ss : Int) (e : Env) (w' : World) => match ss with | aa => ∃ (u : Env), e = upds [(0, ab), (1, af), (7, (zI (s.length : Int))), (8, (zI aa))] u ∧ vL w w' [] [] ∧ Keep w.heap.size [] w [] w' ∧ True) ⟨_, (zef ⟨rfl, rfl, rfl, rfl, trivial⟩), hL, zbp, trivial⟩ ?_
  rintro aa oo _ w10 ⟨u, rfl, ac, K10, -⟩ h ag
  rw [indexInt_b1] at h
  refine zam (zah rfl (zag (zcf ((aa : Int) < (s.length : Int)) rfl rfl zbg (zar (zam (zbi ((aa : Int) < (s.length : Int)) rfl (fun ad => ?_) (fun ad => ?_)))))))
  ·
   replace h := ite_t ad h
   refine zbm (zam (zbc (zam (zah rfl (zag (zae (v := (zI aa)) rfl ?_))))))
   refine zag (zai (v := (zI aa)) rfl (zar (zam (zah rfl (zag (zae (v := af) rfl (zag (zae (v := ab) rfl (zag (zae (v := (zI aa)) rfl ?_))))))))))
   obtain ⟨an, ao, av, ap, -, h⟩ := zix h
   have aw := (am.mono (K10 S))
   obtain ⟨b10, ax, c10, ay, az, q14, aA, aB⟩ := zcy aw ap
   obtain rfl := aB
   refine zag (zbs (r := rI) (v := ab) (n := ao) (m := (ax + ao * rI.sz)) zan ti3 rfl az rfl av ap rfl (zag (zbu (v := (zI an)) zay rfl rfl zek aA ?_)))
   obtain ⟨aq, aC, h⟩ := zee h
   refine zag (OpY.callF rfl rfl (ar _ ac.done an  aq aC) ?_)
   rintro _ w11 ak ⟨rfl, -⟩
   obtain ⟨ah, K11⟩ := zl ac ak
   refine zar ?_
   refine zci aq rfl (fun ae => ?_) (fun ae => ?_)
   ·
    replace h := ite_t ae h
    refine zam (zah rfl (zag (zae (v := (zI aa)) rfl (zag (zai (v := (zI aa)) rfl (zar (zbv ?_)))))))
    obtain rfl := zad h
    obtain rfl := ag _ rfl
    replace h := aj
    try dsimp only at h
    obtain rfl := zad h
    refine ⟨[(zI aa)], zrt, ⟨_, rfl, ah.done, ?_⟩⟩
    exact zrt
   replace h := ite_f ae h
   refine zbm (zbe (zah rfl (zag (zca (z := (iw (aa + 1))) rfl rfl rfl ?_))))
   refine zag (zae (v := (zI (iw (aa + 1)))) rfl (zar ?_))
   obtain rfl := zad h
   refine zap ⟨(iw (aa + 1)), rfl, ?_⟩
   exact ⟨_, (zef ⟨rfl, rfl, rfl, rfl, trivial⟩), ah, (zak K10 K11), trivial⟩
  replace h := ite_f ad h
  refine zcd rfl ?_
  obtain rfl := zad h
  obtain rfl := ag _ rfl
  replace h := aj
  try dsimp only at h
  refine zap ?_
  exact ⟨_, rfl, (zef trivial), ac, K10, trivial⟩
 rintro _ w12 ⟨u, rfl, rfl, al, K12, -⟩
 replace h := aj
 try dsimp only at h
 refine zam (zah rfl (zag (zai (v := (zI (-1))) rfl (zar (zbv ?_)))))
 obtain rfl := zad h
 refine ⟨[(zI (-1))], zrt, ⟨_, rfl, al.done, ?_⟩⟩
 exact zrt
theorem containsInt_w (N : Nat) (s : (List Int)) (f : (Int → Option Bool)) (s_v : Value) (f_v : Value) (w : World) (S : Nat → Prop) (s_h : Rs rI (vH w S [] w) s_v s) (f_h : ∀ w' : World, Ext w w' → ∀ (xa_ : Int), ∀ z, f xa_ = some z → FunOk Try.prog f_v [(zI xa_)] w' (fun v w'' => zac z = v ∧ True)) (r : Bool) (h : containsInt N s f = some r) :
  Calls Try.prog 50 #[s_v, f_v] w (Ret w (fun v w' => (zac r) = v ∧ True)) := by
 unfold containsInt at h
 have hL : vL w w [] [] := Go.X.Loc.begin0 w
 refine calls_of (l := [s_v, f_v]) (rl := [.tmp 4]) (n := 9) Try.func50 rfl rfl rfl (zaj rfl) ?_
 refine zam (zah rfl (zag (zai (v := zF) rfl (zar (zam (zah rfl (zag (zae (v := s_v) rfl (zag (zae (v := f_v) rfl ?_))))))))))
 obtain ⟨r1, q2, h⟩ := zee h
 refine zag (zce en66 rfl rfl (indexInt_w N s f s_v f_v _ Any (s_h.mono vw_any) (fun w9 hE9 => f_h w9 (hL.done.trans hE9)) r1 q2) ?_)
 rintro _ w4 hE7 ⟨rfl, -⟩
 have hL5 := hL.ext hE7
 refine zag (OpY.geq ((r1 : Int) ≥ 0) rfl rfl zbg (zag (zai (v := (zac (decide ((r1 : Int) ≥ 0)))) rfl (zar (zbv ?_)))))
 obtain rfl := zad h
 refine ⟨[(zac (decide ((r1 : Int) ≥ 0)))], zrt, ⟨_, rfl, hL5.done, ?_⟩⟩
 exact zrt
theorem tSatisfies_w (N : Nat) (p : TProb) (texts : (List (List UInt8))) (ai : Value) (af : Value) (ab : Value) (ac : Value) (ad : Value) (aa : Value) (w : World) (S : Nat → Prop) (cT : Rs rI (vH w S [] w) ai p.Min) (ba : Rs rI (vH w S [] w) af p.Max) (bb : Rs rTTest (vH w S [] w) ab p.Tests) (bc : Rs rArr2Int (vH w S [] w) ac p.Same) (bd : Rs rArr2Int (vH w S [] w) ad p.Different) (ap : Rs rStr (vH w S [] w) aa texts) (r : Bool) (h : tSatisfies N p texts = some r) :
  Calls Try.prog 13 #[(zbr #[ai, af, ab, ac, ad]), aa] w (Ret w (fun v w' => (zac r) = v ∧ True)) := by
 unfold tSatisfies at h
 have hL : vL w w [] [] := Go.X.Loc.begin0 w
 refine calls_of (l := [(zbr #[ai, af, ab, ac, ad]), aa]) (rl := [.tmp 4]) (n := 116) Try.func13 rfl rfl rfl (zaj rfl) ?_
 refine zam (zah rfl (zag (zdo (cs := [ai, af, ab, ac, ad]) rfl rfl hL ?_)))
 intro b1 w2 be cU
 have K4 := ks w cU
 refine zag (zai (v := zF) rfl (zar (zam (zam (zah rfl (zag (zae (v := aa) rfl ?_)))))))
 have f6 := (ap.mono (K4 S))
 refine zag (zcc (v := aa) zaz rfl f6 (zag (zat (q := 0) zct rfl ti22 rfl rfl rfl (zag (zav (v := ai) zan rfl rfl (be.at 0 rfl rfl) rfl ?_)))))
 have f7 := (cT.mono (K4 S))
 refine zag (zcc (v := ai) zan rfl f7 (zag (OpY.neq (((texts.length : Int) : Int) ≠ (p.Min.length : Int)) rfl rfl zbg (zar (zbi (((texts.length : Int) : Int) ≠ (p.Min.length : Int)) rfl (fun bf => ?_) (fun bf => ?_))))))
 ·
  replace h := ite_t bf h
  refine zam (zah rfl (zag (zai (v := zF) rfl (zar (zbv ?_)))))
  obtain rfl := zad h
  refine ⟨[zF], zrt, ⟨_, rfl, be.done, ?_⟩⟩
  exact zrt
 replace h := ite_f bf h
 refine zbm (zam (zam (zah rfl (zag (zae (v := aa) rfl ?_)))))
 refine zag (zcc (v := aa) zaz rfl f6 (zag (zae (v := (zI 0)) rfl (zar ?_))))
 obtain ⟨cV, bg, a3⟩ := zee h
 refine zbt (fun e w' => ∃  (u : Env), (Sum.inl ()) = cV ∧ e = upds [(1, aa), (2, (zal (some ⟨b1, 0, none⟩)))] u ∧ vL w w' [some b1] [zab [ai, af, ab, ac, ad]] ∧ Keep w.heap.size [some b1] w2 [some b1] w' ∧ True) ?_ ?_
 ·
  refine zbc ?_
  refine zbx bg (fun (ss : Int) (e : Env) (w' : World) => match ss with | ak => ∃ (u : Env), e = upds [(1, aa), (2, (zal (some ⟨b1, 0, none⟩))), (20, aa), (21, (zI (texts.length : Int))), (22, (zI ak))] u ∧ vL w w' [some b1] [zab [ai, af, ab, ac, ad]] ∧ Keep w.heap.size [some b1] w2 [some b1] w' ∧ True) ⟨_, (zef ⟨rfl, rfl, rfl, rfl, rfl, trivial⟩), be, zbp, trivial⟩ ?_
  rintro ak oo _ cW ⟨u, rfl, am, K10, -⟩ h ar
  rw [tSatisfies_b1] at h
  refine zam (zah rfl (zag (zcf ((ak : Int) < (texts.length : Int)) rfl rfl zbg (zar (zam (zbi ((ak : Int) < (texts.length : Int)) rfl (fun au => ?_) (fun au => ?_)))))))
  ·
   replace h := ite_t au h
   refine zbm (zam (zbc (zam (zah rfl (zag (zae (v := (zI ak)) rfl ?_))))))
   obtain ⟨ah, ch, cX, ci, -, h⟩ := zix h
   have cY := (f6.mono (K10 S))
   obtain ⟨b10, cZ, c10, c0, c1, q14, c2, c3⟩ := zcy cY ci
   obtain rfl := c3
   refine zag (zbs (r := rStr) (v := aa) (n := ch) (m := (cZ + ch * rStr.sz)) zaz ti9 rfl c1 rfl cX ci rfl (zag (zbu (v := (zS ah)) zax rfl rfl zek c2 (zag (zai (v := (zI ak)) rfl (zag (zai (v := (zS ah)) rfl (zar (zam (zam ?_))))))))))
   obtain ⟨c4, h, c5⟩ := zee h
   refine zbt (fun e w' => ∃ (a4 : Bool) (u : Env), a4 = c4 ∧ e = upds [(1, aa), (2, (zal (some ⟨b1, 0, none⟩))), (6, (zS ah)), (20, aa), (21, (zI (texts.length : Int))), (22, (zI ak)), (44, (zac a4))] u ∧ vL w w' [some b1] [zab [ai, af, ab, ac, ad]] ∧ Keep w.heap.size [some b1] cW [some b1] w' ∧ True) ?_ ?_
   ·
    refine zah rfl (zag (zae (v := (zS ah)) rfl (zag (zdc zax rfl (zag (zat (q := 0) zct rfl ti22 rfl rfl rfl (zag (zav (v := ai) zan rfl rfl (am.at 0 rfl rfl) rfl (zag (zae (v := (zI ak)) rfl ?_))))))))))
    obtain ⟨a5, cj, c6, ck, -, h⟩ := zix h
    have c7 := (f7.mono (K10 S))
    obtain ⟨b11, c8, c11, c9, da, q20, db, dc⟩ := zcy c7 ck
    obtain rfl := dc
    refine zag (zbs (r := rI) (v := ai) (n := cj) (m := (c8 + cj * rI.sz)) zan ti3 rfl da rfl c6 ck rfl (zag (zbu (v := (zI a5)) zay rfl rfl zek db (zag (zcf (((ah.length : Int) : Int) < a5) rfl rfl zbg (zag (zae (v := (zac (decide (((ah.length : Int) : Int) < a5)))) rfl ?_)))))))
    by_cases ae : ((ah.length : Int) : Int) < a5
    ·
     replace h := ite_t ae h
     refine zbj rfl rfl (zed ae) (zbj rfl rfl (zed ae) (zbj rfl rfl (zed ae) (zbj rfl rfl (zed ae) (zbj rfl rfl (zed ae) (zbj rfl rfl (zed ae) (zbj rfl rfl (zed ae) (zbj rfl rfl (zed ae) (zag (zbo (v := zT) rfl (zed ae) rfl (zar ?_))))))))))
     obtain rfl := zad h
     refine zap ?_
     exact ⟨true, _, rfl, (zef ⟨rfl, rfl, rfl, rfl, rfl, rfl, rfl, trivial⟩), am, zbp, trivial⟩
    replace h := ite_f ae h
    refine zbb rfl rfl (zec ae) (zae (v := (zS ah)) rfl (zbb rfl rfl (zec ae) (zdc zax rfl (zbb rfl rfl (zec ae) (zat (q := 1) zct rfl ti22 rfl rfl rfl (zbb rfl rfl (zec ae) (zav (v := af) zan rfl rfl (am.at 0 rfl rfl) rfl (zbb rfl rfl (zec ae) (zae (v := (zI ak)) rfl ?_)))))))))
    obtain ⟨a6, cp, dd, cq, -, h⟩ := zix h
    have dh := ((ba.mono (K4 S)).mono (K10 S))
    obtain ⟨b12, di, c12, dj, dk, q26, dl, dm⟩ := zcy dh cq
    obtain rfl := dm
    refine zbb rfl rfl (zec ae) (zbs (r := rI) (v := af) (n := cp) (m := (di + cp * rI.sz)) zan ti3 rfl dk rfl dd cq rfl (zbb rfl rfl (zec ae) (zbu (v := (zI a6)) zay rfl rfl zek dl (zbb rfl rfl (zec ae) (OpY.gtr (((ah.length : Int) : Int) > a6) rfl rfl zbg (zag (zbk (v := (zac (decide (((ah.length : Int) : Int) > a6)))) rfl (zec ae) rfl (zar ?_))))))))
    obtain rfl := zad h
    refine zap ?_
    exact ⟨(decide (((ah.length : Int) : Int) > a6)), _, rfl, (zef ⟨rfl, rfl, rfl, rfl, rfl, rfl, rfl, trivial⟩), am, zbp, trivial⟩
   rintro _ cr ⟨a4, u, rfl, rfl, aK, K11, -⟩
   replace h := c5
   try dsimp only at h
   refine zci a4 rfl (fun av => ?_) (fun av => ?_)
   ·
    replace h := ite_t av h
    refine zam (zah rfl (zag (zai (v := zF) rfl (zar (zbv ?_)))))
    obtain rfl := zad h
    obtain rfl := ar _ rfl
    replace h := a3
    try dsimp only at h
    obtain rfl := zad h
    refine ⟨[zF], zrt, ⟨_, rfl, aK.done, ?_⟩⟩
    exact zrt
   replace h := ite_f av h
   refine zbm (zam (zah rfl (zag (zae (v := (zS ah)) rfl ?_))))
   refine zag (zdc zax rfl (zag (zae (v := (zI 0)) rfl (zar ?_))))
   obtain ⟨dn, bh, bi⟩ := zee h
   refine zbt (fun e w' => ∃  (u : Env), (Sum.inl ()) = dn ∧ e = upds [(1, aa), (2, (zal (some ⟨b1, 0, none⟩))), (20, aa), (21, (zI (texts.length : Int))), (22, (zI ak))] u ∧ vL w w' [some b1] [zab [ai, af, ab, ac, ad]] ∧ Keep w.heap.size [some b1] cr [some b1] w' ∧ True) ?_ ?_
   ·
    refine zbc ?_
    refine zbx bh (fun (ss : Int) (e : Env) (w' : World) => match ss with | al => ∃ (u : Env), e = upds [(1, aa), (2, (zal (some ⟨b1, 0, none⟩))), (6, (zS ah)), (20, aa), (21, (zI (texts.length : Int))), (22, (zI ak)), (46, (zI (ah.length : Int))), (47, (zI al))] u ∧ vL w w' [some b1] [zab [ai, af, ab, ac, ad]] ∧ Keep w.heap.size [some b1] cr [some b1] w' ∧ True) ⟨_, (zef ⟨rfl, rfl, rfl, rfl, rfl, rfl, rfl, rfl, trivial⟩), aK, zbp, trivial⟩ ?_
    rintro al oo _ dp ⟨u, rfl, aw, K12, -⟩ h aL
    rw [tSatisfies_b2] at h
    refine zam (zah rfl (zag (zcf ((al : Int) < (ah.length : Int)) rfl rfl zbg (zar (zam (zbi ((al : Int) < (ah.length : Int)) rfl (fun ax => ?_) (fun ax => ?_)))))))
    ·
     replace h := ite_t ax h
     refine zbm (zam (zbc (zam (zah rfl (zag (zae (v := (zI al)) rfl ?_))))))
     refine zag (zai (v := (zI al)) rfl (zar (zam ?_)))
     obtain ⟨dq, h, dr⟩ := zee h
     refine zbt (fun e w' => ∃ (a7 : Bool) (u : Env), a7 = dq ∧ e = upds [(1, aa), (2, (zal (some ⟨b1, 0, none⟩))), (6, (zS ah)), (20, aa), (21, (zI (texts.length : Int))), (22, (zI ak)), (46, (zI (ah.length : Int))), (47, (zI al)), (59, (zac a7))] u ∧ vL w w' [some b1] [zab [ai, af, ab, ac, ad]] ∧ Keep w.heap.size [some b1] dp [some b1] w' ∧ True) ?_ ?_
     ·
      refine zah rfl (zag (zae (v := (zS ah)) rfl (zag (zae (v := (zI al)) rfl ?_))))
      obtain ⟨a8, ds, dt, du, -, h⟩ := zix h
      refine zag (zdf (xs := ah) (i := al) (n := ds) (a := a8) zax rfl rfl dt du (zag (zcf (((UInt8.toNat a8 : Int) : Int) < 32) rfl rfl zbg (zag (zae (v := (zac (decide (((UInt8.toNat a8 : Int) : Int) < 32)))) rfl ?_)))))
      by_cases ag : ((UInt8.toNat a8 : Int) : Int) < 32
      ·
       replace h := ite_t ag h
       refine zbj rfl rfl (zed ag) (zbj rfl rfl (zed ag) (zbj rfl rfl (zed ag) (zbj rfl rfl (zed ag) (zag (zbo (v := zT) rfl (zed ag) rfl (zar ?_))))))
       obtain rfl := zad h
       refine zap ?_
       exact ⟨true, _, rfl, (zef ⟨rfl, rfl, rfl, rfl, rfl, rfl, rfl, rfl, rfl, trivial⟩), aw, zbp, trivial⟩
      replace h := ite_f ag h
      refine zbb rfl rfl (zec ag) (zae (v := (zS ah)) rfl (zbb rfl rfl (zec ag) (zae (v := (zI al)) rfl ?_)))
      obtain ⟨a9, dv, dw, dx, -, h⟩ := zix h
      refine zbb rfl rfl (zec ag) (zdf (xs := ah) (i := al) (n := dv) (a := a9) zax rfl rfl dw dx (zbb rfl rfl (zec ag) (OpY.gtr (((UInt8.toNat a9 : Int) : Int) > 126) rfl rfl zbg (zag (zbk (v := (zac (decide (((UInt8.toNat a9 : Int) : Int) > 126)))) rfl (zec ag) rfl (zar ?_))))))
      obtain rfl := zad h
      refine zap ?_
      exact ⟨(decide (((UInt8.toNat a9 : Int) : Int) > 126)), _, rfl, (zef ⟨rfl, rfl, rfl, rfl, rfl, rfl, rfl, rfl, rfl, trivial⟩), aw, zbp, trivial⟩
     rintro _ w13 ⟨a7, u, rfl, rfl, aM, K13, -⟩
     replace h := dr
     try dsimp only at h
     refine zci a7 rfl (fun ay => ?_) (fun ay => ?_)
     ·
      replace h := ite_t ay h
      refine zam (zah rfl (zag (zai (v := zF) rfl (zar (zbv ?_)))))
      obtain rfl := zad h
      obtain rfl := aL _ rfl
      replace h := bi
      try dsimp only at h
      obtain rfl := zad h
      obtain rfl := ar _ rfl
      replace h := a3
      try dsimp only at h
      obtain rfl := zad h
      refine ⟨[zF], zrt, ⟨_, rfl, aM.done, ?_⟩⟩
      exact zrt
     replace h := ite_f ay h
     refine zbm (zbe (zah rfl (zag (zca (z := (iw (al + 1))) rfl rfl rfl ?_))))
     refine zag (zae (v := (zI (iw (al + 1)))) rfl (zar ?_))
     obtain rfl := zad h
     refine zap ⟨(iw (al + 1)), rfl, ?_⟩
     exact ⟨_, (zef ⟨rfl, rfl, rfl, rfl, rfl, rfl, rfl, rfl, trivial⟩), aM, (zak K12 K13), trivial⟩
    replace h := ite_f ax h
    refine zcd rfl ?_
    obtain rfl := zad h
    obtain rfl := aL _ rfl
    replace h := bi
    try dsimp only at h
    refine zap ?_
    exact ⟨_, rfl, (zef ⟨rfl, rfl, rfl, rfl, rfl, trivial⟩), aw, K12, trivial⟩
   rintro _ w14 ⟨u, rfl, rfl, bj, K14, -⟩
   replace h := bi
   try dsimp only at h
   refine zbe (zah rfl (zag (zca (z := (iw (ak + 1))) rfl rfl rfl ?_)))
   refine zag (zae (v := (zI (iw (ak + 1)))) rfl (zar ?_))
   obtain rfl := zad h
   refine zap ⟨(iw (ak + 1)), rfl, ?_⟩
   exact ⟨_, (zef ⟨rfl, rfl, rfl, rfl, rfl, trivial⟩), bj, (zak (zak K10 K11) K14), trivial⟩
  replace h := ite_f au h
  refine zcd rfl ?_
  obtain rfl := zad h
  obtain rfl := ar _ rfl
  replace h := a3
  try dsimp only at h
  refine zap ?_
  exact ⟨_, rfl, (zef ⟨rfl, rfl, trivial⟩), am, K10, trivial⟩
 rintro _ ct ⟨u, rfl, rfl, aN, K15, -⟩
 replace h := a3
 try dsimp only at h
 refine zam (zam (zah rfl (zag (zat (q := 2) zct rfl ti23 rfl rfl rfl (zag (zav (v := ab) zbh rfl rfl (aN.at 0 rfl rfl) rfl ?_))))))
 have cu := ((bb.mono (K4 S)).mono (K15 S))
 refine zag (zcc (v := ab) zbh rfl cu (zag (zae (v := (zI 0)) rfl (zar ?_))))
 obtain ⟨dy, bk, bl⟩ := zee h
 refine zbt (fun e w' => ∃  (u : Env), (Sum.inl ()) = dy ∧ e = upds [(1, aa), (2, (zal (some ⟨b1, 0, none⟩)))] u ∧ vL w w' [some b1] [zab [ai, af, ab, ac, ad]] ∧ Keep w.heap.size [some b1] ct [some b1] w' ∧ True) ?_ ?_
 ·
  refine zbc ?_
  refine zbx bk (fun (ss : Int) (e : Env) (w' : World) => match ss with | az => ∃ (u : Env), e = upds [(1, aa), (2, (zal (some ⟨b1, 0, none⟩))), (63, ab), (64, (zI (p.Tests.length : Int))), (65, (zI az))] u ∧ vL w w' [some b1] [zab [ai, af, ab, ac, ad]] ∧ Keep w.heap.size [some b1] ct [some b1] w' ∧ True) ⟨_, (zef ⟨rfl, rfl, rfl, rfl, rfl, trivial⟩), aN, zbp, trivial⟩ ?_
  rintro az oo _ w16 ⟨u, rfl, aO, K16, -⟩ h aP
  rw [tSatisfies_b3] at h
  refine zam (zah rfl (zag (zcf ((az : Int) < (p.Tests.length : Int)) rfl rfl zbg (zar (zam (zbi ((az : Int) < (p.Tests.length : Int)) rfl (fun aA => ?_) (fun aA => ?_)))))))
  ·
   replace h := ite_t aA h
   refine zbm (zam (zbc (zam (zah rfl ?_))))
   obtain ⟨aj, cv, dz, cw, -, h⟩ := zix h
   have dA := (cu.mono (K16 S))
   obtain ⟨b13, dB, c13, dC, dD, q38, dE, dF⟩ := zcy dA cw
   obtain ⟨rfl, -⟩ := rTTest_open dF
   refine zag (zbs (r := rTTest) (v := ab) (n := cv) (m := (dB + cv * rTTest.sz)) zbh ti44 rfl dD rfl dz cw rfl (zag (OpY.ldRoA (vs := [(zI aj.Var), (zI aj.Kind), (zac aj.Negated), (zS aj.Text)]) zbd rfl ti44 rfl rfl zek dE (zag (zdw (cs := [(zI 0), (zI 0), zF, (zaf (s8 []))]) ti44 rfl aO ?_)))))
   intro dG w17 bm bn
   have K17 := ks w bn
   refine zdj (zdi (vs := [(zI aj.Var), (zI aj.Kind), (zac aj.Negated), (zS aj.Text)]) ti44 rfl rfl rfl rfl (zej rfl (zej rfl (zej rfl (zej rfl zeu)))) bm 0 rfl rfl (zaj rfl) ?_)
   intro w18 bo bp
   have K18 := ks w bp
   refine zar (zam ?_)
   obtain ⟨cx, bq, dH, cy, -, h⟩ := zix h
   have dI := ((((f6.mono (K15 S)).mono (K16 S)).mono (K17 S)).mono (K18 S))
   obtain ⟨dJ, cz, c14, dK, dL, q44, dM, dN⟩ := zcy dI cy
   obtain rfl := dN
   refine zcx 6 [] [] (fun W1 => [.det (zbr #[(zI aj.Var), (zI aj.Kind), (zac aj.Negated), (zS aj.Text)]), .det aa, .det (zal (some ⟨dG, 0, none⟩)), .det (zI aj.Var), .det (zal (some ⟨dJ, (cz + bq * rStr.sz), none⟩)), .det (zS cx)]) mixed rfl rfl rfl (fun _ => rfl) (fun _ => rfl) ?_ ?_
   ·
    intro W1 _
    exact trivial
   intro dO br
   obtain ⟨aq, K19⟩ := zl bo br
   refine zaw (fun _ bu => zaq (zcr (vs := [(zI aj.Var), (zI aj.Kind), (zac aj.Negated), (zS aj.Text)]) zbd rfl ti44 rfl ((aq.ext bu).at 0 rfl rfl) rfl rfl (er rfl))) (zaw (fun _ _ => zaq (zae rfl (er rfl))) (zaw (fun _ _ => zaq (zat zbd rfl ti3 rfl rfl rfl (er rfl))) (zaw (fun _ bw => zaq (zav zay rfl rfl ((aq.ext bw).at 0 rfl rfl) rfl (er rfl))) (zaw (fun _ _ => zaq (zbs (r := rStr) (v := aa) (n := bq) (m := (cz + bq * rStr.sz)) zaz ti9 rfl dL rfl dH cy rfl (er rfl))) (zaw (fun _ bx => zaq (zbu zax rfl rfl zek (zbz ((ke aq bx) S) (zbz (K19 S) dM)) (er rfl))) (zdd ?_))))))
   rintro w26 Z26 bz dP ⟨-⟩ dQ
   have dR := @zhb dO Z26
   obtain ⟨bA, K21⟩ := zl aq bz
   obtain ⟨bB, dS, h⟩ := zee h
   refine zag (zce en28 rfl rfl (pPasses_w N aj cx _ Any bB dS) ?_)
   rintro _ dT bC ⟨rfl, -⟩
   obtain ⟨aQ, K22⟩ := zl bA bC
   refine zag (OpY.not (x := bB) rfl (zar (zci (!bB) rfl (fun aB => ?_) (fun aB => ?_))))
   ·
    replace h := ite_t aB h
    refine zam (zah rfl (zag (zai (v := zF) rfl (zar (zbv ?_)))))
    obtain rfl := zad h
    obtain rfl := aP _ rfl
    replace h := bl
    try dsimp only at h
    obtain rfl := zad h
    refine ⟨[zF], zrt, ⟨_, rfl, aQ.done, ?_⟩⟩
    exact zrt
   replace h := ite_f aB h
   refine zbm (zbe (zah rfl (zag (zca (z := (iw (az + 1))) rfl rfl rfl ?_))))
   refine zag (zae (v := (zI (iw (az + 1)))) rfl (zar ?_))
   have aR := aQ.pick [1] rfl rfl rfl
   have bD : vL w dT [some b1] [zab [ai, af, ab, ac, ad]] := aR.1
   have K23 := ks w aR.2
   obtain rfl := zad h
   refine zap ⟨(iw (az + 1)), rfl, ?_⟩
   exact ⟨_, (zef ⟨rfl, rfl, rfl, rfl, rfl, trivial⟩), bD, (zak (zak (zak (zak (zak (zak K16 K17) K18) K19) K21) K22) K23), trivial⟩
  replace h := ite_f aA h
  refine zcd rfl ?_
  obtain rfl := zad h
  obtain rfl := aP _ rfl
  replace h := bl
  try dsimp only at h
  refine zap ?_
  exact ⟨_, rfl, (zef ⟨rfl, rfl, trivial⟩), aO, K16, trivial⟩
 rintro _ cA ⟨u, rfl, rfl, aS, K24, -⟩
 replace h := bl
 try dsimp only at h
 refine zam (zam (zah rfl (zag (zat (q := 3) zct rfl ti24 rfl rfl rfl (zag (zav (v := ac) zbn rfl rfl (aS.at 0 rfl rfl) rfl ?_))))))
 have cB := (((bc.mono (K4 S)).mono (K15 S)).mono (K24 S))
 refine zag (zcc (v := ac) zbn rfl cB (zag (zae (v := (zI 0)) rfl (zar ?_))))
 obtain ⟨dU, bE, bF⟩ := zee h
 refine zbt (fun e w' => ∃  (u : Env), (Sum.inl ()) = dU ∧ e = upds [(1, aa), (2, (zal (some ⟨b1, 0, none⟩)))] u ∧ vL w w' [some b1] [zab [ai, af, ab, ac, ad]] ∧ Keep w.heap.size [some b1] cA [some b1] w' ∧ True) ?_ ?_
 ·
  refine zbc ?_
  refine zbx bE (fun (ss : Int) (e : Env) (w' : World) => match ss with | aC => ∃ (u : Env), e = upds [(1, aa), (2, (zal (some ⟨b1, 0, none⟩))), (79, ac), (80, (zI (p.Same.length : Int))), (81, (zI aC))] u ∧ vL w w' [some b1] [zab [ai, af, ab, ac, ad]] ∧ Keep w.heap.size [some b1] cA [some b1] w' ∧ True) ⟨_, (zef ⟨rfl, rfl, rfl, rfl, rfl, trivial⟩), aS, zbp, trivial⟩ ?_
  rintro aC oo _ w29 ⟨u, rfl, aT, K25, -⟩ h aU
  rw [tSatisfies_b4] at h
  refine zam (zah rfl (zag (zcf ((aC : Int) < (p.Same.length : Int)) rfl rfl zbg (zar (zam (zbi ((aC : Int) < (p.Same.length : Int)) rfl (fun aD => ?_) (fun aD => ?_)))))))
  ·
   replace h := ite_t aD h
   refine zbm (zam (zbc (zam (zah rfl ?_))))
   obtain ⟨aI, cC, dV, cD, -, h⟩ := zix h
   have dW := (cB.mono (K25 S))
   obtain ⟨b16, dX, c15, dY, dZ, q51, d0, d1⟩ := zcy dW cD
   obtain ⟨rfl, -⟩ := rArr2Int_open d1
   refine zag (zbs (r := rArr2Int) (v := ac) (n := cC) (m := (dX + cC * rArr2Int.sz)) zbn ti45 rfl dZ rfl dV cD rfl (zag (OpY.ldRoA (vs := [(zI aI.e0), (zI aI.e1)]) zcb rfl ti45 rfl rfl zek d0 (zag (zdw (cs := [(zI 0), (zI 0)]) ti45 rfl aT ?_)))))
   intro cE w30 bG bH
   have K26 := ks w bH
   refine zdj (zdi (vs := [(zI aI.e0), (zI aI.e1)]) ti45 rfl rfl rfl rfl (zej rfl (zej rfl zeu)) bG 0 rfl rfl (zaj rfl) ?_)
   intro w31 bI bJ
   have K27 := ks w bJ
   refine zar (zam ?_)
   obtain ⟨bK, bL, d2, cF, -, h⟩ := zix h
   have cG := (((((f6.mono (K15 S)).mono (K24 S)).mono (K25 S)).mono (K26 S)).mono (K27 S))
   obtain ⟨d3, cH, c16, d4, d5, q57, d6, d7⟩ := zcy cG cF
   obtain rfl := d7
   obtain ⟨bM, bN, d8, cI, -, h⟩ := zix h
   obtain ⟨d9, cJ, c17, ea, eb, q63, ec, ed⟩ := zcy cG cI
   obtain rfl := ed
   refine zcx 10 [] [] (fun W1 => [.det aa, .det (zal (some ⟨cE, 0, none⟩)), .det (zI aI.e0), .det (zal (some ⟨d3, (cH + bL * rStr.sz), none⟩)), .det (zS bK), .det aa, .det (zal (some ⟨cE, 1, none⟩)), .det (zI aI.e1), .det (zal (some ⟨d9, (cJ + bN * rStr.sz), none⟩)), .det (zS bM)]) mixed rfl rfl rfl (fun _ => rfl) (fun _ => rfl) ?_ ?_
   ·
    intro W1 _
    exact trivial
   intro ee bO
   obtain ⟨an, K28⟩ := zl bI bO
   refine zaw (fun _ _ => zaq (zae rfl (er rfl))) (zaw (fun _ _ => zaq (zck (i := 0) (q := 0) zcb ti3 rfl rfl (by decide) rfl (er rfl))) (zaw (fun _ bP => zaq (zav zay rfl rfl ((an.ext bP).at 0 rfl rfl) rfl (er rfl))) (zaw (fun _ _ => zaq (zbs (r := rStr) (v := aa) (n := bL) (m := (cH + bL * rStr.sz)) zaz ti9 rfl d5 rfl d2 cF rfl (er rfl))) (zaw (fun _ bQ => zaq (zbu zax rfl rfl zek (zbz ((ke an bQ) S) (zbz (K28 S) d6)) (er rfl))) (zaw (fun _ _ => zaq (zae rfl (er rfl))) (zaw (fun _ _ => zaq (zck (i := 1) (q := 1) zcb ti3 rfl rfl (by decide) rfl (er rfl))) ?_))))))
   refine zaw (fun _ bR => zaq (zav zay rfl rfl ((an.ext bR).at 0 rfl rfl) rfl (er rfl))) (zaw (fun _ _ => zaq (zbs (r := rStr) (v := aa) (n := bN) (m := (cJ + bN * rStr.sz)) zaz ti9 rfl eb rfl d8 cI rfl (er rfl))) (zaw (fun _ bS => zaq (zbu zax rfl rfl zek (zbz ((ke an bS) S) (zbz (K28 S) ec)) (er rfl))) (zdd ?_)))
   rintro ef Z37 bT eg ⟨-⟩ eh
   have ei := @zhb ee Z37
   obtain ⟨aV, K31⟩ := zl an bT
   refine zag (OpY.sNeq (x := bK) (y := bM) rfl rfl (zar (zbi (¬ bK = bM) rfl (fun aE => ?_) (fun aE => ?_))))
   ·
    replace h := ite_t aE h
    refine zam (zah rfl (zag (zai (v := zF) rfl (zar (zbv ?_)))))
    obtain rfl := zad h
    obtain rfl := aU _ rfl
    replace h := bF
    try dsimp only at h
    obtain rfl := zad h
    refine ⟨[zF], zrt, ⟨_, rfl, aV.done, ?_⟩⟩
    exact zrt
   replace h := ite_f aE h
   refine zbm (zbe (zah rfl (zag (zca (z := (iw (aC + 1))) rfl rfl rfl ?_))))
   refine zag (zae (v := (zI (iw (aC + 1)))) rfl (zar ?_))
   have aW := aV.pick [1] rfl rfl rfl
   have bU : vL w ef [some b1] [zab [ai, af, ab, ac, ad]] := aW.1
   have K32 := ks w aW.2
   obtain rfl := zad h
   refine zap ⟨(iw (aC + 1)), rfl, ?_⟩
   exact ⟨_, (zef ⟨rfl, rfl, rfl, rfl, rfl, trivial⟩), bU, (zak (zak (zak (zak (zak K25 K26) K27) K28) K31) K32), trivial⟩
  replace h := ite_f aD h
  refine zcd rfl ?_
  obtain rfl := zad h
  obtain rfl := aU _ rfl
  replace h := bF
  try dsimp only at h
  refine zap ?_
  exact ⟨_, rfl, (zef ⟨rfl, rfl, trivial⟩), aT, K25, trivial⟩
 rintro _ bV ⟨u, rfl, rfl, aX, K33, -⟩
 replace h := bF
 try dsimp only at h
 refine zam (zam (zah rfl (zag (zat (q := 4) zct rfl ti24 rfl rfl rfl (zag (zav (v := ad) zbn rfl rfl (aX.at 0 rfl rfl) rfl ?_))))))
 have cK := ((((bd.mono (K4 S)).mono (K15 S)).mono (K24 S)).mono (K33 S))
 refine zag (zcc (v := ad) zbn rfl cK (zag (zae (v := (zI 0)) rfl (zar ?_))))
 obtain ⟨ej, bW, bX⟩ := zee h
 refine zbt (fun e w' => ∃  (u : Env), (Sum.inl ()) = ej ∧ e = upds [] u ∧ vL w w' [] [] ∧ Keep w.heap.size [some b1] bV [] w' ∧ True) ?_ ?_
 ·
  refine zbc ?_
  have aY := aX.pick [] rfl rfl rfl
  have bY : vL w bV [] [] := aY.1
  have K34 := ks w aY.2
  refine zbx bW (fun (ss : Int) (e : Env) (w' : World) => match ss with | aF => ∃ (u : Env), e = upds [(1, aa), (98, ad), (99, (zI (p.Different.length : Int))), (100, (zI aF))] u ∧ vL w w' [] [] ∧ Keep w.heap.size [some b1] bV [] w' ∧ True) ⟨_, (zef ⟨rfl, rfl, rfl, rfl, trivial⟩), bY, K34, trivial⟩ ?_
  rintro aF oo _ w45 ⟨u, rfl, aZ, K35, -⟩ h a0
  rw [tSatisfies_b5] at h
  refine zam (zah rfl (zag (zcf ((aF : Int) < (p.Different.length : Int)) rfl rfl zbg (zar (zam (zbi ((aF : Int) < (p.Different.length : Int)) rfl (fun aG => ?_) (fun aG => ?_)))))))
  ·
   replace h := ite_t aG h
   refine zbm (zam (zbc (zam (zah rfl ?_))))
   obtain ⟨aJ, cL, ek, cM, -, h⟩ := zix h
   have em := (cK.mono (K35 S))
   obtain ⟨b20, en, c18, eo, ep, q69, es, et⟩ := zcy em cM
   obtain ⟨rfl, -⟩ := rArr2Int_open et
   refine zag (zbs (r := rArr2Int) (v := ad) (n := cL) (m := (en + cL * rArr2Int.sz)) zbn ti45 rfl ep rfl ek cM rfl (zag (OpY.ldRoA (vs := [(zI aJ.e0), (zI aJ.e1)]) zcb rfl ti45 rfl rfl zek es (zag (zdw (cs := [(zI 0), (zI 0)]) ti45 rfl aZ ?_)))))
   intro cN w46 bZ b0
   have K36 := ks w b0
   refine zdj (zdi (vs := [(zI aJ.e0), (zI aJ.e1)]) ti45 rfl rfl rfl rfl (zej rfl (zej rfl zeu)) bZ 0 rfl rfl (zaj rfl) ?_)
   intro w47 b2 b3
   have K37 := ks w b3
   refine zar (zam ?_)
   obtain ⟨b4, b5, eu, cO, -, h⟩ := zix h
   have cP := ((((((f6.mono (K15 S)).mono (K24 S)).mono (K33 S)).mono (K35 S)).mono (K36 S)).mono (K37 S))
   obtain ⟨ew, cQ, c19, ex, ey, q75, ez, eA⟩ := zcy cP cO
   obtain rfl := eA
   obtain ⟨b6, b7, eB, cR, -, h⟩ := zix h
   obtain ⟨eC, cS, c20, eD, eE, q81, eF, eG⟩ := zcy cP cR
   obtain rfl := eG
   refine zcx 10 [] [] (fun W1 => [.det aa, .det (zal (some ⟨cN, 0, none⟩)), .det (zI aJ.e0), .det (zal (some ⟨ew, (cQ + b5 * rStr.sz), none⟩)), .det (zS b4), .det aa, .det (zal (some ⟨cN, 1, none⟩)), .det (zI aJ.e1), .det (zal (some ⟨eC, (cS + b7 * rStr.sz), none⟩)), .det (zS b6)]) mixed rfl rfl rfl (fun _ => rfl) (fun _ => rfl) ?_ ?_
   ·
    intro W1 _
    exact trivial
   intro eH b8
   obtain ⟨ao, K38⟩ := zl b2 b8
   refine zaw (fun _ _ => zaq (zae rfl (er rfl))) (zaw (fun _ _ => zaq (zck (i := 0) (q := 0) zcb ti3 rfl rfl (by decide) rfl (er rfl))) (zaw (fun _ b9 => zaq (zav zay rfl rfl ((ao.ext b9).at 0 rfl rfl) rfl (er rfl))) (zaw (fun _ _ => zaq (zbs (r := rStr) (v := aa) (n := b5) (m := (cQ + b5 * rStr.sz)) zaz ti9 rfl ey rfl eu cO rfl (er rfl))) (zaw (fun _ ca => zaq (zbu zax rfl rfl zek (zbz ((ke ao ca) S) (zbz (K38 S) ez)) (er rfl))) (zaw (fun _ _ => zaq (zae rfl (er rfl))) (zaw (fun _ _ => zaq (zck (i := 1) (q := 1) zcb ti3 rfl rfl (by decide) rfl (er rfl))) ?_))))))
   refine zaw (fun _ cb => zaq (zav zay rfl rfl ((ao.ext cb).at 0 rfl rfl) rfl (er rfl))) (zaw (fun _ _ => zaq (zbs (r := rStr) (v := aa) (n := b7) (m := (cS + b7 * rStr.sz)) zaz ti9 rfl eE rfl eB cR rfl (er rfl))) (zaw (fun _ cc => zaq (zbu zax rfl rfl zek (zbz ((ke ao cc) S) (zbz (K38 S) eF)) (er rfl))) (zdd ?_)))
   rintro eI Z48 cd eJ ⟨-⟩ eK
   have eL := @zhb eH Z48
   obtain ⟨a1, K41⟩ := zl ao cd
   refine zag (OpY.sEql (x := b4) (y := b6) rfl rfl (zar (zbi (b4 = b6) rfl (fun aH => ?_) (fun aH => ?_))))
   ·
    replace h := ite_t aH h
    refine zam (zah rfl (zag (zai (v := zF) rfl (zar (zbv ?_)))))
    obtain rfl := zad h
    obtain rfl := a0 _ rfl
    replace h := bX
    try dsimp only at h
    obtain rfl := zad h
    refine ⟨[zF], zrt, ⟨_, rfl, a1.done, ?_⟩⟩
    exact zrt
   replace h := ite_f aH h
   refine zbm (zbe (zah rfl (zag (zca (z := (iw (aF + 1))) rfl rfl rfl ?_))))
   refine zag (zae (v := (zI (iw (aF + 1)))) rfl (zar ?_))
   have a2 := a1.pick [] rfl rfl rfl
   have ce : vL w eI [] [] := a2.1
   have K42 := ks w a2.2
   obtain rfl := zad h
   refine zap ⟨(iw (aF + 1)), rfl, ?_⟩
   exact ⟨_, (zef ⟨rfl, rfl, rfl, rfl, trivial⟩), ce, (zak (zak (zak (zak (zak K35 K36) K37) K38) K41) K42), trivial⟩
  replace h := ite_f aG h
  refine zcd rfl ?_
  obtain rfl := zad h
  obtain rfl := a0 _ rfl
  replace h := bX
  try dsimp only at h
  refine zap ?_
  exact ⟨_, rfl, (zef trivial), aZ, K35, trivial⟩
 rintro _ w60 ⟨u, rfl, rfl, cg, K43, -⟩
 replace h := bX
 try dsimp only at h
 refine zam (zah rfl (zag (zai (v := zT) rfl (zar (zbv ?_)))))
 obtain rfl := zad h
 refine ⟨[zT], zrt, ⟨_, rfl, cg.done, ?_⟩⟩
 exact zrt
theorem tclasses_w (N : Nat) (p : TProb) (aA : Value) (al : Value) (am : Value) (ah : Value) (an : Value) (w : World) (S : Nat → Prop) (dC : Rs rI (vH w S [] w) aA p.Min) (dD : Rs rI (vH w S [] w) al p.Max) (dE : Rs rTTest (vH w S [] w) am p.Tests) (bE : Rs rArr2Int (vH w S [] w) ah p.Same) (dF : Rs rArr2Int (vH w S [] w) an p.Different) (r : ((List Int) × Int)) (h : tclasses N p = some r) :
  Calls Try.prog 40 #[(zbr #[aA, al, am, ah, an])] w (Ret w (fun v w' => ∃ (bF : Option Nat) (a6 : Nat) (bG : List Value) (sp0 : List Value), .tuple #[(osv bF 0 r.1.length a6), (zI r.2)] = v ∧ NewOwn w w' [bF] [zab ([] ++ (bG ++ sp0))] ∧ Els rI (vH w None [bF] w') bG r.1 ∧ (bG ++ sp0).length = a6 * rI.sz ∧ True)) := by
 unfold tclasses at h
 have hL : vL w w [] [] := Go.X.Loc.begin0 w
 refine calls_of (l := [(zbr #[aA, al, am, ah, an])]) (rl := [.tmp 2, .tmp 3]) (n := 94) Try.func40 rfl rfl rfl (zaj rfl) ?_
 refine zam (zah rfl (zag (zdo (cs := [aA, al, am, ah, an]) rfl rfl hL ?_)))
 intro b1 w2 cZ dG
 have K4 := ks w dG
 refine zag (zai (v := zN) rfl (zag (zai (v := (zI 0)) rfl (zar (zam (zah rfl (zag (zat (q := 0) zct rfl ti22 rfl rfl rfl (zag (zav (v := aA) zan rfl rfl (cZ.at 0 rfl rfl) rfl ?_))))))))))
 have f6 := (dC.mono (K4 S))
 refine zag (zcc (v := aA) zan rfl f6 ?_)
 obtain ⟨x8, q9, h⟩ := zee h
 obtain ⟨m7, dH, dI, dJ, dK⟩ := mk1_some q9
 refine zag (zdl (r := rI) (H := (vH w None [some b1] w2)) (zc := [(zI 0)]) (x := 0) zan ti3 rfl rfl rfl rfl dH dI dJ dK cZ ?_)
 intro aa bH a7 bI bJ a8 bK
 have K10 := ks w bK
 refine zag (zai (v := (osv (some aa) 0 x8.length m7)) rfl (zar (zam (zam (zah rfl (zag (zae (v := (osv (some aa) 0 x8.length m7)) rfl ?_)))))))
 have c0 := (bI.mono (K10 None))
 refine zag (zcl (pre := []) (r := rI) (xs := x8) zan rfl (a8.at 0 rfl rfl) c0 rfl rfl (zag (zae (v := (zI 0)) rfl (zar ?_))))
 obtain ⟨dL, bL, c1⟩ := zee h
 refine zbt (fun e w' => ∃ (ao : (List Int)) (aF : List Value) (u : Env), ao = dL ∧ e = upds [(1, (zal (some ⟨b1, 0, none⟩))), (4, (osv (some aa) 0 x8.length m7))] u ∧ vL w w' [some b1, some aa] [zab [aA, al, am, ah, an], zab ([] ++ (aF ++ []))] ∧ Keep w.heap.size [some aa, some b1] bH [some b1, some aa] w' ∧ Els rI (vH w None [some b1, some aa] w') aF ao ∧ x8.length = List.length ao ∧ (aF ++ []).length = m7 * rI.sz ∧ True) ?_ ?_
 ·
  refine zbc ?_
  have a9 := a8.pick [1, 0] rfl rfl rfl
  have bM : vL w bH [some b1, some aa] [zab [aA, al, am, ah, an], zab ([] ++ (a7 ++ []))] := a9.1
  have K11 := ks w a9.2
  have dM := (c0.mono (K11 None))
  refine zbx bL (fun (ss : ((List Int) × Int)) (e : Env) (w' : World) => match ss with | (ai, aC) => ∃ (aG : List Value) (u : Env), e = upds [(1, (zal (some ⟨b1, 0, none⟩))), (4, (osv (some aa) 0 x8.length m7)), (20, (zI (x8.length : Int))), (21, (zI aC))] u ∧ vL w w' [some b1, some aa] [zab [aA, al, am, ah, an], zab ([] ++ (aG ++ []))] ∧ Keep w.heap.size [some aa, some b1] bH [some b1, some aa] w' ∧ Els rI (vH w None [some b1, some aa] w') aG ai ∧ x8.length = List.length ai ∧ (aG ++ []).length = m7 * rI.sz ∧ True) ⟨a7, _, (zef ⟨rfl, rfl, rfl, rfl, trivial⟩), bM, K11, dM, rfl, bJ, trivial⟩ ?_
  rintro ⟨ai, aC⟩ oo _ w11 ⟨aG, u, rfl, ba, K12, bb, aQ, bc, -⟩ h bN
  rw [tclasses_b1] at h
  refine zam (zah rfl (zag (zcf ((aC : Int) < (x8.length : Int)) rfl rfl zbg (zar (zam (zbi ((aC : Int) < (x8.length : Int)) rfl (fun aR => ?_) (fun aR => ?_)))))))
  ·
   replace h := ite_t aR h
   refine zbm (zam (zbc (zam (zah rfl (zag (zae (v := (zI aC)) rfl ?_))))))
   refine zag (zai (v := (zI aC)) rfl (zar (zah rfl (zag (zae (v := (osv (some aa) 0 x8.length m7)) rfl (zag (zae (v := (zI aC)) rfl (zag (zae (v := (zI aC)) rfl ?_)))))))))
   obtain ⟨x11, c2, c3, q16, c4, h⟩ := zix h
   refine zag (zbl (r := rI) (b := aa) (o := 0) (n := c2) (m := x8.length) (xs := ai) (q := (0 + c2 * rI.sz)) zan ti3 rfl aQ rfl c3 c4 rfl ?_)
   obtain ⟨c5, n11, dN, q20, c6, h⟩ := zux h
   obtain rfl := zin c3 dN
   refine zdj (zdg (pre := []) (r := rI) (vs := [(zI aC)]) (a := aC) ti3 rfl rfl rfl rfl ba 1 rfl rfl bb c4 rfl c6 ?_)
   have bO : x8.length = List.length c5 := by rw [c6, List.length_set]; exact aQ
   intro w12 bd bP bQ bR dO
   have bS : (bd ++ []).length = m7 * rI.sz := zhc bc dO
   have K13 := ks w bQ
   refine zar (zbe (zah rfl (zag (zca (z := (iw (aC + 1))) rfl rfl rfl ?_))))
   refine zag (zae (v := (zI (iw (aC + 1)))) rfl (zar ?_))
   have dP := (bR.mono (K13 None))
   obtain rfl := zad h
   refine zap ⟨(c5, (iw (aC + 1))), rfl, ?_⟩
   exact ⟨bd, _, (zef ⟨rfl, rfl, rfl, rfl, trivial⟩), bP, (zak K12 K13), dP, bO, bS, trivial⟩
  replace h := ite_f aR h
  refine zcd rfl ?_
  obtain rfl := zad h
  obtain rfl := bN _ rfl
  replace h := c1
  try dsimp only at h
  refine zap ?_
  exact ⟨ai, aG, _, rfl, (zef ⟨rfl, rfl, trivial⟩), ba, K12, bb, aQ, bc, trivial⟩
 rintro _ c7 ⟨ao, aF, u, rfl, rfl, bT, K14, bU, bV, bW, -⟩
 replace h := c1
 try dsimp only at h
 refine zam (zam (zah rfl (zag (zai (v := zT) rfl (zar ?_)))))
 obtain ⟨dQ, bX, c8⟩ := zee h
 refine zbt (fun e w' => ∃ (ab : (List Int)) (aH : List Value) (u : Env), ab = dQ ∧ e = upds [(4, (osv (some aa) 0 x8.length m7))] u ∧ vL w w' [some aa] [zab ([] ++ (aH ++ []))] ∧ Keep w.heap.size [some b1, some aa] c7 [some aa] w' ∧ Els rI (vH w None [some aa] w') aH ab ∧ x8.length = List.length ab ∧ (aH ++ []).length = m7 * rI.sz ∧ True) ?_ ?_
 ·
  refine zbc ?_
  refine zbx bX (fun (ss : ((List Int) × Bool)) (e : Env) (w' : World) => match ss with | (ap, ae) => ∃ (ay : List Value) (u : Env), e = upds [(1, (zal (some ⟨b1, 0, none⟩))), (4, (osv (some aa) 0 x8.length m7)), (6, (zac ae))] u ∧ vL w w' [some b1, some aa] [zab [aA, al, am, ah, an], zab ([] ++ (ay ++ []))] ∧ Keep w.heap.size [some b1, some aa] c7 [some b1, some aa] w' ∧ Els rI (vH w None [some b1, some aa] w') ay ap ∧ x8.length = List.length ap ∧ (ay ++ []).length = m7 * rI.sz ∧ True) ⟨aF, _, (zef ⟨rfl, rfl, rfl, trivial⟩), bT, zbp, bU, bV, bW, trivial⟩ ?_
  rintro ⟨ap, ae⟩ oo _ bY ⟨ay, u, rfl, aS, K15, be, bf, bg, -⟩ h bZ
  rw [tclasses_b2] at h
  refine zam (zam (zah rfl (zag (zae (v := (zac ae)) rfl (zar (zci ae rfl (fun aT => ?_) (fun aT => ?_)))))))
  ·
   replace h := ite_t aT h
   refine zbm (zbc (zam (zah rfl (zag (zai (v := zF) rfl ?_)))))
   refine zar (zam (zah rfl (zag (zat (q := 3) zct rfl ti24 rfl rfl rfl ?_))))
   refine zag (zav (v := ah) zbn rfl rfl (aS.at 0 rfl rfl) rfl ?_)
   have c9 := ((((bE.mono (K4 S)).mono (K10 S)).mono (K14 S)).mono (K15 S))
   refine zag (zcc (v := ah) zbn rfl c9 (zag (zae (v := (zI 0)) rfl (zar ?_))))
   obtain ⟨dR, b0, da⟩ := zee h
   refine zbt (fun e w' => ∃ (aj : (List Int)) (af : Bool) (aI : List Value) (u : Env), (aj, af) = dR ∧ e = upds [(1, (zal (some ⟨b1, 0, none⟩))), (4, (osv (some aa) 0 x8.length m7)), (6, (zac af))] u ∧ vL w w' [some b1, some aa] [zab [aA, al, am, ah, an], zab ([] ++ (aI ++ []))] ∧ Keep w.heap.size [some b1, some aa] bY [some b1, some aa] w' ∧ Els rI (vH w None [some b1, some aa] w') aI aj ∧ x8.length = List.length aj ∧ (aI ++ []).length = m7 * rI.sz ∧ True) ?_ ?_
   ·
    refine zbc ?_
    refine zbx b0 (fun (ss : ((List Int) × Bool × Int)) (e : Env) (w' : World) => match ss with | (ac, ag, aO) => ∃ (az : List Value) (u : Env), e = upds [(1, (zal (some ⟨b1, 0, none⟩))), (4, (osv (some aa) 0 x8.length m7)), (6, (zac ag)), (31, ah), (32, (zI (p.Same.length : Int))), (33, (zI aO))] u ∧ vL w w' [some b1, some aa] [zab [aA, al, am, ah, an], zab ([] ++ (az ++ []))] ∧ Keep w.heap.size [some b1, some aa] bY [some b1, some aa] w' ∧ Els rI (vH w None [some b1, some aa] w') az ac ∧ x8.length = List.length ac ∧ (az ++ []).length = m7 * rI.sz ∧ True) ⟨ay, _, (zef ⟨rfl, rfl, rfl, rfl, rfl, rfl, trivial⟩), aS, zbp, be, bf, bg, trivial⟩ ?_
    rintro ⟨ac, ag, aO⟩ oo _ w15 ⟨az, u, rfl, bh, K16, bi, ar, aU, -⟩ h b2
    rw [tclasses_b3] at h
    refine zam (zah rfl (zag (zcf ((aO : Int) < (p.Same.length : Int)) rfl rfl zbg (zar (zam (zbi ((aO : Int) < (p.Same.length : Int)) rfl (fun aV => ?_) (fun aV => ?_)))))))
    ·
     replace h := ite_t aV h
     refine zbm (zam (zbc (zam (zah rfl ?_))))
     obtain ⟨aJ, db, dS, dc, -, h⟩ := zix h
     have dT := (c9.mono (K16 S))
     obtain ⟨b11, dU, c10, dV, dW, q27, dX, dY⟩ := zcy dT dc
     obtain ⟨rfl, -⟩ := rArr2Int_open dY
     refine zag (zbs (r := rArr2Int) (v := ah) (n := db) (m := (dU + db * rArr2Int.sz)) zbn ti45 rfl dW rfl dS dc rfl (zag (OpY.ldRoA (vs := [(zI aJ.e0), (zI aJ.e1)]) zcb rfl ti45 rfl rfl zek dX (zag (zdw (cs := [(zI 0), (zI 0)]) ti45 rfl bh ?_)))))
     intro bB w16 b3 b4
     have K17 := ks w b4
     refine zdj (zdi (vs := [(zI aJ.e0), (zI aJ.e1)]) ti45 rfl rfl rfl rfl (zej rfl (zej rfl zeu)) b3 0 rfl rfl (zaj rfl) ?_)
     intro w17 b5 b6
     have K18 := ks w b6
     refine zar (zam ?_)
     obtain ⟨av, b7, dZ, d0, d1, h⟩ := zix h
     have bC := ((bi.mono (K17 None)).mono (K18 None))
     obtain ⟨d2, q33, d3, d4⟩ := zeo (pre := []) (sp := []) bC d0
     obtain rfl := d3
     obtain ⟨aw, b8, d5, d6, d7, h⟩ := zix h
     obtain ⟨d8, q40, d9, ea⟩ := zeo (pre := []) (sp := []) bC d6
     obtain rfl := d9
     refine zcx 11 [] [] (fun W1 => [.det (osv (some aa) 0 x8.length m7), .det (zal (some ⟨bB, 0, none⟩)), .det (zI aJ.e0), .det (zal (some ⟨aa, (0 + b7 * rI.sz), none⟩)), .det (zI av), .det (osv (some aa) 0 x8.length m7), .det (zal (some ⟨bB, 1, none⟩)), .det (zI aJ.e1), .det (zal (some ⟨aa, (0 + b8 * rI.sz), none⟩)), .det (zI aw), .det (zI av)]) mixed rfl rfl rfl (fun _ => rfl) (fun _ => rfl) ?_ ?_
     ·
      intro W1 _
      exact trivial
     intro eb b9
     obtain ⟨aK, K19⟩ := zl b5 b9
     refine zaw (fun _ _ => zaq (zae rfl (er rfl))) (zaw (fun _ _ => zaq (zck (i := 0) (q := 0) zcb ti3 rfl rfl (by decide) rfl (er rfl))) (zaw (fun _ ca => zaq (zav zay rfl rfl ((aK.ext ca).at 0 rfl rfl) rfl (er rfl))) (zaw (fun _ _ => zaq (zbl (r := rI) (b := aa) (o := 0) (n := b7) (m := x8.length) (xs := ac) (q := (0 + b7 * rI.sz)) zan ti3 rfl ar rfl dZ d1 rfl (er rfl))) (zaw (fun _ cb => zaq (zby zay rfl rfl ((aK.ext cb).at 2 rfl rfl) d4 (er rfl))) (zaw (fun _ _ => zaq (zae rfl (er rfl))) (zaw (fun _ _ => zaq (zck (i := 1) (q := 1) zcb ti3 rfl rfl (by decide) rfl (er rfl))) ?_))))))
     refine zaw (fun _ cc => zaq (zav zay rfl rfl ((aK.ext cc).at 0 rfl rfl) rfl (er rfl))) (zaw (fun _ _ => zaq (zbl (r := rI) (b := aa) (o := 0) (n := b8) (m := x8.length) (xs := ac) (q := (0 + b8 * rI.sz)) zan ti3 rfl ar rfl d5 d7 rfl (er rfl))) (zaw (fun _ cd => zaq (zby zay rfl rfl ((aK.ext cd).at 2 rfl rfl) ea (er rfl))) (zaw (fun _ _ => zaq (zai rfl (er rfl))) (zdd ?_))))
     rintro ec Z31 ce ed ⟨-⟩ ee
     have ef := @zhb eb Z31
     obtain ⟨bj, K20⟩ := zl aK ce
     refine zag (zai (v := (zI aw)) rfl (zar (zam (zah rfl (zag (zae (v := (zI av)) rfl (zag (zae (v := (zI aw)) rfl (zag (OpY.neq ((av : Int) ≠ aw) rfl rfl zbg (zar (zbi ((av : Int) ≠ aw) rfl (fun aW => ?_) (fun aW => ?_)))))))))))))
     ·
      replace h := ite_t aW h
      refine zam ?_
      obtain ⟨x17, cg, dd, q45, dh, h⟩ := zix h
      obtain ⟨x18, bk, bD, q49, di, h⟩ := zix h
      refine Swp.drawP [13, 15] [0, 1, 2, 3, 4, 5, 6, 7, 8, 9, 10, 11, 12, 14] [(50, (osv (some aa) 0 x8.length m7)), (51, (zal (some ⟨bB, 0, none⟩))), (52, (zI aJ.e0)), (53, (osv (some aa) 0 x8.length m7)), (54, (zal (some ⟨bB, 1, none⟩))), (55, (zI aJ.e1)), (56, (zI av)), (57, (zI aw)), (58, (zI (imin av aw))), (59, (zI av)), (60, (zI aw)), (61, (zI (imin av aw))), (62, (zal (some ⟨aa, (0 + cg * rI.sz), none⟩))), (63, (zal (some ⟨aa, (0 + bk * rI.sz), none⟩)))] mixed rfl rfl rfl rfl ?_
      intro w31 ch
      obtain ⟨aX, K21⟩ := zl bj ch
      refine ⟨?_, ?_⟩
      ·
       refine zao (i := 0) rfl rfl (zaq (zae rfl zrr)) (zao (i := 1) rfl rfl (zaq (zck (i := 0) (q := 0) zcb ti3 rfl rfl (by decide) rfl zrr)) (zao (i := 2) rfl rfl (zaq (zav (v := (zI aJ.e0)) zay rfl rfl (aX.at 0 rfl rfl) rfl zrr)) (zao (i := 3) rfl rfl (zaq (zae rfl zrr)) (zao (i := 4) rfl rfl (zaq (zck (i := 1) (q := 1) zcb ti3 rfl rfl (by decide) rfl zrr)) (zao (i := 5) rfl rfl (zaq (zav (v := (zI aJ.e1)) zay rfl rfl (aX.at 0 rfl rfl) rfl zrr)) (zao (i := 6) rfl rfl (zaq (zae rfl zrr)) ?_))))))
       refine zao (i := 7) rfl rfl (zaq (zae rfl zrr)) (zao (i := 8) rfl rfl (zaq (OpY.min (x := av) (y := aw) rfl rfl zrr)) (zao (i := 9) rfl rfl (zaq (zae rfl zrr)) (zao (i := 10) rfl rfl (zaq (zae rfl zrr)) (zao (i := 11) rfl rfl (zaq (OpY.min (x := av) (y := aw) rfl rfl zrr)) (zao (i := 12) rfl rfl (zaq (zbl (r := rI) (b := aa) (o := 0) (n := cg) (m := x8.length) (xs := ac) (q := (0 + cg * rI.sz)) zan ti3 rfl ar rfl dd dh rfl zrr)) (zao (i := 14) rfl rfl (zaq (zbl (r := rI) (b := aa) (o := 0) (n := bk) (m := x8.length) (xs := ac) (q := (0 + bk * rI.sz)) zan ti3 rfl ar rfl bD di rfl zrr)) ?_))))))
       exact zch
      obtain ⟨dj, n17, eg, q53, dk, h⟩ := zux h
      obtain rfl := zin dd eg
      have eh := (((bC.mono (K19 None)).mono (K20 None)).mono (K21 None))
      refine RlL.op0 (zdg (pre := []) (r := rI) (vs := [(zI (imin av aw))]) (a := (imin av aw)) ti3 rfl rfl rfl rfl aX 2 rfl rfl eh dh rfl dk ?_)
      have aY : x8.length = List.length dj := by rw [dk, List.length_set]; exact ar
      intro w32 ci bl cj ck ei
      have cp : (ci ++ []).length = m7 * rI.sz := zhc aU ei
      have K22 := ks w cj
      refine ⟨?_, ?_⟩
      ·
       refine zao (i := 3) rfl rfl (zaq (zae rfl zrr)) (zao (i := 4) rfl rfl (zaq (zck (i := 1) (q := 1) zcb ti3 rfl rfl (by decide) rfl zrr)) (zao (i := 5) rfl rfl (zaq (zav (v := (zI aJ.e1)) zay rfl rfl (bl.at 0 rfl rfl) rfl zrr)) (zao (i := 9) rfl rfl (zaq (zae rfl zrr)) (zao (i := 10) rfl rfl (zaq (zae rfl zrr)) (zao (i := 11) rfl rfl (zaq (OpY.min (x := av) (y := aw) rfl rfl zrr)) (zao (i := 14) rfl rfl (zaq (zbl (r := rI) (b := aa) (o := 0) (n := bk) (m := x8.length) (xs := dj) (q := (0 + bk * rI.sz)) zan ti3 rfl aY rfl bD (Nat.lt_of_lt_of_eq di (Eq.trans (Eq.symm ar) aY)) rfl zrr)) ?_))))))
       exact zch
      obtain ⟨x20, n18, ej, ek, -, h⟩ := zix h
      obtain rfl := zin bD ej
      have em := (List.getElem?_eq_some_iff.1 ek).1
      obtain ⟨dl, n19, en, q62, dm, h⟩ := zux h
      obtain rfl := zin bD en
      have eo := (ck.mono (K22 None))
      refine RlL.op0 (zdg (pre := []) (r := rI) (vs := [(zI (imin av aw))]) (a := (imin av aw)) ti3 rfl rfl rfl rfl bl 2 rfl rfl eo em rfl dm ?_)
      have cq : x8.length = List.length dl := by rw [dm, List.length_set]; exact aY
      intro ep aZ cr ct cu es
      have cv : (aZ ++ []).length = m7 * rI.sz := zhc cp es
      have K23 := ks w ct
      refine ⟨?_, ?_⟩
      ·
       exact zch
      refine RlL.fin ?_
      refine zah rfl (zag (zai (v := zT) rfl (zar (zbe (zah rfl (zag (zca (z := (iw (aO + 1))) rfl rfl rfl (zag (zae (v := (zI (iw (aO + 1)))) rfl (zar ?_))))))))))
      have bm := cr.pick [1, 2] rfl rfl rfl
      have cw : vL w ep [some b1, some aa] [zab [aA, al, am, ah, an], zab ([] ++ (aZ ++ []))] := bm.1
      have K24 := ks w bm.2
      have et := ((cu.mono (K23 None)).mono (K24 None))
      obtain rfl := zad h
      refine zap ⟨(dl, true, (iw (aO + 1))), rfl, ?_⟩
      exact ⟨aZ, _, (zef ⟨rfl, rfl, rfl, rfl, rfl, rfl, trivial⟩), cw, (zak (zak (zak (zak (zak (zak (zak (zak K16 K17) K18) K19) K20) K21) K22) K23) K24), et, cq, cv, trivial⟩
     replace h := ite_f aW h
     refine zbm (zbe (zah rfl (zag (zca (z := (iw (aO + 1))) rfl rfl rfl ?_))))
     refine zag (zae (v := (zI (iw (aO + 1)))) rfl (zar ?_))
     have bn := bj.pick [1, 2] rfl rfl rfl
     have cx : vL w ec [some b1, some aa] [zab [aA, al, am, ah, an], zab ([] ++ (az ++ []))] := bn.1
     have K25 := ks w bn.2
     have eu := (((bC.mono (K19 None)).mono (K20 None)).mono (K25 None))
     obtain rfl := zad h
     refine zap ⟨(ac, ag, (iw (aO + 1))), rfl, ?_⟩
     exact ⟨az, _, (zef ⟨rfl, rfl, rfl, rfl, rfl, rfl, trivial⟩), cx, (zak (zak (zak (zak (zak K16 K17) K18) K19) K20) K25), eu, ar, aU, trivial⟩
    replace h := ite_f aV h
    refine zcd rfl ?_
    obtain rfl := zad h
    obtain rfl := b2 _ rfl
    replace h := da
    try dsimp only at h
    refine zap ?_
    exact ⟨ac, ag, az, _, rfl, (zef ⟨rfl, rfl, rfl, trivial⟩), bh, K16, bi, ar, aU, trivial⟩
   rintro _ w34 ⟨aj, af, aI, u, rfl, rfl, cy, K26, cz, cA, cB, -⟩
   replace h := da
   try dsimp only at h
   refine zbe ?_
   obtain rfl := zad h
   refine zap ⟨(aj, af), rfl, ?_⟩
   exact ⟨aI, _, (zef ⟨rfl, rfl, rfl, trivial⟩), cy, (zak K15 K26), cz, cA, cB, trivial⟩
  replace h := ite_f aT h
  refine zcd rfl ?_
  have bo := aS.pick [1] rfl rfl rfl
  have cC : vL w bY [some aa] [zab ([] ++ (ay ++ []))] := bo.1
  have K27 := ks w bo.2
  have ew := (be.mono (K27 None))
  obtain rfl := zad h
  obtain rfl := bZ _ rfl
  replace h := c8
  try dsimp only at h
  refine zap ?_
  exact ⟨ap, ay, _, rfl, (zef zrt), cC, (zak K15 K27), ew, bf, bg, trivial⟩
 rintro _ ex ⟨ab, aH, u, rfl, rfl, bp, K28, bq, a0, ey, -⟩
 replace h := c8
 try dsimp only at h
 refine zam (zah rfl (zag (zae (v := (osv (some aa) 0 x8.length m7)) rfl (zag (zcl (pre := []) (r := rI) (xs := ab) zan rfl (bp.at 0 rfl rfl) bq rfl a0 ?_)))))
 obtain ⟨ax, ez, h⟩ := zee h
 obtain ⟨aB, eA, eB, eC, eD⟩ := mk1_some ez
 refine zag (zdl (r := rI) (H := (vH w None [some aa] ex)) (zc := [(zI 0)]) (x := 0) zan ti3 rfl rfl rfl rfl eA eB eC eD bp ?_)
 intro aq dn cD cE cF br cG
 have K29 := ks w cG
 refine zag (zai (v := (osv (some aq) 0 ax.length aB)) rfl (zag (zai (v := (zI 0)) rfl (zar (zam (zam (zah rfl (zag (zae (v := (osv (some aa) 0 x8.length m7)) rfl ?_)))))))))
 have dp := (bq.mono (K29 None))
 refine zag (zcl (pre := []) (r := rI) (xs := ab) zan rfl (br.at 1 rfl rfl) dp rfl a0 (zag (zae (v := (zI 0)) rfl (zar ?_))))
 obtain ⟨eE, cH, dq⟩ := zee h
 refine zbt (fun e w' => ∃ (ak : (List Int)) (a4 : Int) (aL : List Value) (u : Env), (ak, a4) = eE ∧ e = upds [(11, (osv (some aq) 0 ax.length aB)), (12, (zI a4))] u ∧ vL w w' [some aq] [zab ([] ++ (aL ++ []))] ∧ Keep w.heap.size [some aq, some aa] dn [some aq] w' ∧ Els rI (vH w None [some aq] w') aL ak ∧ ax.length = List.length ak ∧ (aL ++ []).length = aB * rI.sz ∧ True) ?_ ?_
 ·
  refine zbc ?_
  have eF := (cE.mono (K29 None))
  refine zbx cH (fun (ss : ((List Int) × Int × Int)) (e : Env) (w' : World) => match ss with | (ad, aM, au) => ∃ (aD : List Value) (u : Env), e = upds [(11, (osv (some aq) 0 ax.length aB)), (12, (zI aM)), (68, (osv (some aa) 0 x8.length m7)), (69, (zI (ab.length : Int))), (70, (zI au))] u ∧ vL w w' [some aq, some aa] [zab ([] ++ (aD ++ [])), zab ([] ++ (aH ++ []))] ∧ Keep w.heap.size [some aq, some aa] dn [some aq, some aa] w' ∧ Els rI (vH w None [some aq, some aa] w') aD ad ∧ ax.length = List.length ad ∧ (aD ++ []).length = aB * rI.sz ∧ True) ⟨cD, _, (zef ⟨rfl, rfl, rfl, rfl, rfl, trivial⟩), br, zbp, eF, rfl, cF, trivial⟩ ?_
  rintro ⟨ad, aM, au⟩ oo _ eG ⟨aD, u, rfl, aN, K30, aP, aE, a1, -⟩ h cI
  rw [tclasses_b4] at h
  refine zam (zah rfl (zag (zcf ((au : Int) < (ab.length : Int)) rfl rfl zbg (zar (zam (zbi ((au : Int) < (ab.length : Int)) rfl (fun a2 => ?_) (fun a2 => ?_)))))))
  ·
   replace h := ite_t a2 h
   refine zbm (zam (zbc (zam (zah rfl (zag (zae (v := (zI au)) rfl ?_))))))
   obtain ⟨a5, dr, eH, eI, eJ, h⟩ := zix h
   refine zag (zbl (r := rI) (b := aa) (o := 0) (n := dr) (m := x8.length) (xs := ab) (q := (0 + dr * rI.sz)) zan ti3 rfl a0 rfl eH eJ rfl ?_)
   have eK := (dp.mono (K30 None))
   obtain ⟨eL, q74, eM, eN⟩ := zeo (pre := []) (sp := []) eK eI
   obtain rfl := eM
   refine zag (zby (v := (zI a5)) zay rfl rfl (aN.at 1 rfl rfl) eN (zag (zai (v := (zI au)) rfl (zag (zai (v := (zI a5)) rfl (zar (zam (zah rfl (zag (zae (v := (zI a5)) rfl (zag (zae (v := (zI au)) rfl (zag (zdb ((a5 : Int) = au) rfl rfl zbg (zar (zbi ((a5 : Int) = au) rfl (fun a3 => ?_) (fun a3 => ?_)))))))))))))))))
   ·
    replace h := ite_t a3 h
    refine zam (zah rfl (zag (zae (v := (osv (some aq) 0 ax.length aB)) rfl (zag (zae (v := (zI au)) rfl (zag (zae (v := (zI aM)) rfl ?_)))))))
    obtain ⟨x25, ds, dt, q79, du, h⟩ := zix h
    refine zag (zbl (r := rI) (b := aq) (o := 0) (n := ds) (m := ax.length) (xs := ad) (q := (0 + ds * rI.sz)) zan ti3 rfl aE rfl dt du rfl ?_)
    obtain ⟨dv, n24, eO, q83, dw, h⟩ := zux h
    obtain rfl := zin dt eO
    refine zdj (zdg (pre := []) (r := rI) (vs := [(zI aM)]) (a := aM) ti3 rfl rfl rfl rfl aN 0 rfl rfl aP du rfl dw ?_)
    have cJ : ax.length = List.length dv := by rw [dw, List.length_set]; exact aE
    intro w38 bu cK cL cM eP
    have cN : (bu ++ []).length = aB * rI.sz := zhc a1 eP
    have K31 := ks w cL
    refine zar (zah rfl (zag (zae (v := (zI aM)) rfl ?_)))
    refine zag (zca (z := (iw (aM + 1))) rfl rfl rfl (zag (zai (v := (zI (iw (aM + 1)))) rfl (zar (zbe (zah rfl (zag (zca (z := (iw (au + 1))) rfl rfl rfl (zag (zae (v := (zI (iw (au + 1)))) rfl (zar ?_)))))))))))
    have eQ := (cM.mono (K31 None))
    obtain rfl := zad h
    refine zap ⟨(dv, (iw (aM + 1)), (iw (au + 1))), rfl, ?_⟩
    exact ⟨bu, _, (zef ⟨rfl, rfl, rfl, rfl, rfl, trivial⟩), cK, (zak K30 K31), eQ, cJ, cN, trivial⟩
   replace h := ite_f a3 h
   refine zah rfl (zag (zae (v := (osv (some aq) 0 ax.length aB)) rfl (zag (zae (v := (zI au)) rfl (zag (zae (v := (osv (some aq) 0 ax.length aB)) rfl (zag (zae (v := (zI a5)) rfl ?_))))))))
   obtain ⟨cO, dx, eR, eS, eT, h⟩ := zix h
   refine zag (zbl (r := rI) (b := aq) (o := 0) (n := dx) (m := ax.length) (xs := ad) (q := (0 + dx * rI.sz)) zan ti3 rfl aE rfl eR eT rfl ?_)
   obtain ⟨eU, q90, eV, eW⟩ := zeo (pre := []) (sp := []) aP eS
   obtain rfl := eV
   refine zag (zby (v := (zI cO)) zay rfl rfl (aN.at 0 rfl rfl) eW ?_)
   obtain ⟨x28, dy, dz, q95, dA, h⟩ := zix h
   refine zag (zbl (r := rI) (b := aq) (o := 0) (n := dy) (m := ax.length) (xs := ad) (q := (0 + dy * rI.sz)) zan ti3 rfl aE rfl dz dA rfl ?_)
   obtain ⟨dB, n27, eX, q99, bw, h⟩ := zux h
   obtain rfl := zin dz eX
   refine zdj (zdg (pre := []) (r := rI) (vs := [(zI cO)]) (a := cO) ti3 rfl rfl rfl rfl aN 0 rfl rfl aP dA rfl bw ?_)
   have cP : ax.length = List.length dB := by rw [bw, List.length_set]; exact aE
   intro w39 bx cQ cR cS cT
   have cU : (bx ++ []).length = aB * rI.sz := zhc a1 cT
   have K32 := ks w cR
   refine zar (zbe (zah rfl (zag (zca (z := (iw (au + 1))) rfl rfl rfl ?_))))
   refine zag (zae (v := (zI (iw (au + 1)))) rfl (zar ?_))
   have eY := (cS.mono (K32 None))
   obtain rfl := zad h
   refine zap ⟨(dB, aM, (iw (au + 1))), rfl, ?_⟩
   exact ⟨bx, _, (zef ⟨rfl, rfl, rfl, rfl, rfl, trivial⟩), cQ, (zak K30 K32), eY, cP, cU, trivial⟩
  replace h := ite_f a2 h
  refine zcd rfl ?_
  have bz := aN.pick [0] rfl rfl rfl
  have cV : vL w eG [some aq] [zab ([] ++ (aD ++ []))] := bz.1
  have K33 := ks w bz.2
  have eZ := (aP.mono (K33 None))
  obtain rfl := zad h
  obtain rfl := cI _ rfl
  replace h := dq
  try dsimp only at h
  refine zap ?_
  exact ⟨ad, aM, aD, _, rfl, (zef ⟨rfl, rfl, trivial⟩), cV, (zak K30 K33), eZ, aE, a1, trivial⟩
 rintro _ w40 ⟨ak, a4, aL, u, rfl, rfl, bA, K34, cW, cX, cY, -⟩
 replace h := dq
 try dsimp only at h
 refine zam (zah rfl (zag (zae (v := (osv (some aq) 0 ax.length aB)) rfl (zag (zae (v := (zI a4)) rfl (zag (zai (v := (osv (some aq) 0 ax.length aB)) rfl (zag (zai (v := (zI a4)) rfl (zar (zbv ?_)))))))))))
 obtain rfl := zad h
 refine ⟨[(osv (some aq) 0 ax.length aB), (zI a4)], ⟨rfl, rfl, trivial⟩, ⟨_, rfl, bA.done, ?_⟩⟩
 exact ⟨some aq, aB, aL, [], (by rw [← cX]; rfl), (bA.newOwn [0] rfl rfl rfl), (cW.mono (zdy [0] rfl)), cY, trivial⟩
theorem tClasses_w (N : Nat) (p : TProb) (aA : Value) (ag : Value) (ah : Value) (ai : Value) (aj : Value) (w : World) (S : Nat → Prop) (bO : Rs rI (vH w S [] w) aA p.Min) (aU : Rs rI (vH w S [] w) ag p.Max) (aV : Rs rTTest (vH w S [] w) ah p.Tests) (aW : Rs rArr2Int (vH w S [] w) ai p.Same) (aX : Rs rArr2Int (vH w S [] w) aj p.Different) (r : (List (List Int))) (h : tClasses N p = some r) :
  Calls Try.prog 20 #[(zbr #[aA, ag, ah, ai, aj])] w (Ret w (fun v w' => ∃ (aY : Option Nat) (aF : Nat) (aZ : List Value) (sp0 : List Value), (osv aY 0 r.length aF) = v ∧ NewOwn w w' [aY] [zab ([] ++ (aZ ++ sp0))] ∧ Els (rSl rI) (vH w None [aY] w') aZ r ∧ (aZ ++ sp0).length = aF * (rSl rI).sz ∧ True)) := by
 unfold tClasses at h
 have hL : vL w w [] [] := Go.X.Loc.begin0 w
 refine calls_of (l := [(zbr #[aA, ag, ah, ai, aj])]) (rl := [.tmp 2]) (n := 34) Try.func20 rfl rfl rfl (zaj rfl) ?_
 refine zam (zah rfl (zag (zdo (cs := [aA, ag, ah, ai, aj]) rfl rfl hL ?_)))
 intro b1 w2 a0 bP
 have K4 := ks w bP
 refine zag (zai (v := zN) rfl (zar (zam (zah rfl (zag (zcr (vs := [aA, ag, ah, ai, aj]) zct rfl ti31 rfl (a0.at 0 rfl rfl) rfl rfl ?_))))))
 obtain ⟨r6, q7, h⟩ := zee h
 have bQ := (bO.mono (K4 S))
 have bR := (aU.mono (K4 S))
 have bS := (aV.mono (K4 S))
 have bT := (aW.mono (K4 S))
 have bU := (aX.mono (K4 S))
 refine zag (zce en40 rfl rfl (tclasses_w N p aA ag ah ai aj _ Any (bQ.mono vw_any) (bR.mono vw_any) (bS.mono vw_any) (bT.mono vw_any) (bU.mono vw_any) r6 q7) ?_)
 rintro _ w10 a1 ⟨ac, ak, al, ae, rfl, a2, aB, bV, -⟩
 replace aB := aB.mono (zbw (S := None) a0 [ac])
 have a3 := a0.adoptL a1 a2
 have a4 := a3.1
 refine zag (zae (v := (Value.tuple #[(osv ac 0 r6.1.length ak), (zI r6.2)])) rfl (zag (zcm (vs := [(osv ac 0 r6.1.length ak), (zI r6.2)]) (v := (osv ac 0 r6.1.length ak)) rfl rfl (zag (zcm (vs := [(osv ac 0 r6.1.length ak), (zI r6.2)]) (v := (zI r6.2)) rfl rfl (zag (zai (v := (osv ac 0 r6.1.length ak)) rfl (zag (zai (v := (zI r6.2)) rfl (zar (zam (zah rfl (zag (zae (v := (zI r6.2)) rfl ?_))))))))))))))
 obtain ⟨ao, bW, h⟩ := zee h
 obtain ⟨aq, bX, bY, bZ, b2⟩ := mk1_some bW
 refine zag (OpY.mkDeep (D := dkRow22x) (zc := [zN]) (x := []) zda ti22 rfl rfl ⟨_, none, zab [], rfl, rfl, rfl, DS.nil⟩ rfl rfl bX bY bZ b2 a4 ?_)
 intro aa a5 aC FB10 FC10 a6 a7 aG a8
 have K10 := ks w a8
 refine zag (zai (v := (osv (some aa) 0 ao.length aq)) rfl (zar (zam (zam (zah rfl (zag (zae (v := (osv ac 0 r6.1.length ak)) rfl ?_)))))))
 have bA := (aB.mono (K10 None))
 refine zag (zcl (pre := []) (r := rI) (xs := r6.1) zan rfl (aG.at 1 rfl rfl) bA rfl rfl (zag (zae (v := (zI 0)) rfl (zar ?_))))
 obtain ⟨b3, a9, bB⟩ := zee h
 refine zbt (fun e w' => ∃ (an : (List (List Int))) (am : List Value) (FB11 : List (Option Nat)) (FC11 : List Cont) (u : Env), an = b3 ∧ e = upds [(5, (osv (some aa) 0 ao.length aq))] u ∧ vL w w' (some aa :: FB11) (zab ([] ++ (am ++ [])) :: FC11) ∧ Keep w.heap.size (some aa :: ac :: some b1 :: FB10) a5 (some aa :: FB11) w' ∧ DEls dkRow22x am FB11 FC11 an ∧ ao.length = List.length an ∧ (am ++ []).length = aq * (rSl rI).sz ∧ True) ?_ ?_
 ·
  refine zbc ?_
  have aH := Loc.pickT (Op := [some aa, ac, some b1]) (Cp := [zab ([] ++ (aC ++ [])), zab ([] ++ (al ++ ae)), zab [aA, ag, ah, ai, aj]]) (FB := FB10) (FC := FC10) aG [0, 1] rfl rfl rfl rfl
  have ba : vL w a5 (some aa :: ac :: FB10) (zab ([] ++ (aC ++ [])) :: zab ([] ++ (al ++ ae)) :: FC10) := aH.1
  have K11 := ks w aH.2
  refine zbx a9 (fun (ss : ((List (List Int)) × Int)) (e : Env) (w' : World) => match ss with | (ab, ad) => ∃ (af : List Value) (FB12 : List (Option Nat)) (FC12 : List Cont) (u : Env), e = upds [(5, (osv (some aa) 0 ao.length aq)), (15, (osv ac 0 r6.1.length ak)), (16, (zI (r6.1.length : Int))), (17, (zI ad))] u ∧ vL w w' (some aa :: ac :: FB12) (zab ([] ++ (af ++ [])) :: zab ([] ++ (al ++ ae)) :: FC12) ∧ Keep w.heap.size (some aa :: ac :: some b1 :: FB10) a5 (some aa :: ac :: FB12) w' ∧ DEls dkRow22x af FB12 FC12 ab ∧ ao.length = List.length ab ∧ (af ++ []).length = aq * (rSl rI).sz ∧ True) ⟨aC, FB10, FC10, _, (zef ⟨rfl, rfl, rfl, rfl, trivial⟩), ba, K11, a6, rfl, a7, trivial⟩ ?_
  rintro ⟨ab, ad⟩ oo _ bC ⟨af, FB12, FC12, u, rfl, ar, K12, aD, au, aI, -⟩ h bb
  rw [tClasses_b1] at h
  refine zam (zah rfl (zag (zcf ((ad : Int) < (r6.1.length : Int)) rfl rfl zbg (zar (zam (zbi ((ad : Int) < (r6.1.length : Int)) rfl (fun aE => ?_) (fun aE => ?_)))))))
  ·
   replace h := ite_t aE h
   refine zbm (zam (zbc (zam (zah rfl (zag (zae (v := (zI ad)) rfl ?_))))))
   obtain ⟨aS, bD, b4, bE, b5, h⟩ := zix h
   have bF := (bA.mono (K12 None))
   obtain ⟨b6, aJ⟩ := ar.row_some 1 rfl rfl (zev (pre := []) bF bE (Nat.lt_of_sub_eq_succ rfl))
   refine zag (zbl (r := rI) (b := b6) (o := 0) (n := bD) (m := r6.1.length) (xs := r6.1) (q := (0 + bD * rI.sz)) zan ti3 (zen aJ) rfl rfl b4 b5 rfl ?_)
   obtain ⟨b7, q19, b8, b9⟩ := zeo (pre := []) (sp := ae) bF bE
   obtain rfl := b8
   refine zag (zby (v := (zI aS)) zay rfl rfl (zer aJ (ar.at 1 rfl rfl)) b9 (zag (zai (v := (zI ad)) rfl (zag (zai (v := (zI aS)) rfl (zar (zah rfl (zag (zae (v := (osv (some aa) 0 ao.length aq)) rfl (zag (zae (v := (zI aS)) rfl (zag (zae (v := (osv (some aa) 0 ao.length aq)) rfl (zag (zae (v := (zI aS)) rfl ?_)))))))))))))))
   obtain ⟨bc, ap, bG, ca, cb, h⟩ := zix h
   refine zag (zbl (r := (rSl rI)) (b := aa) (o := 0) (n := ap) (m := ao.length) (xs := ab) (q := (0 + ap * (rSl rI).sz)) zda ti22 rfl au rfl bG cb rfl ?_)
   obtain ⟨cc, cd, c10, ce, cg, ch, ci⟩ := DEls.elem (sp := []) aD ca
   obtain ⟨v10, bH, k10, rfl, rfl, rfl, cj⟩ := ce
   obtain ⟨az, aK, aL, rfl, rfl, bd, be⟩ := cj
   have ck : (FB12)[(ap * 1 + 0)]? = some bH := ch 0 _ rfl
   have cp : (FC12)[(ap * 1 + 0)]? = some (zab ([] ++ (aK ++ aL))) := ci 0 _ rfl
   refine zag (zby (v := (osv bH 0 bc.length az)) zan rfl rfl (ar.at 0 rfl rfl) cg (zag (zae (v := (zI ad)) rfl ?_)))
   have aM : Els rI (vH w None (some aa :: ac :: FB12) bC) [(zI ad)] [ad] := (zcq (a := [(zI ad)]) rfl zcn)
   refine zag (zco (r := rI) (vs := [(zI ad)]) (css := [[(zI ad)]]) (xs := [ad]) zan ti3 (zaj rfl) rfl rfl ⟨rfl, rfl, trivial⟩ (zaj rfl) aM rfl ar ?_)
   intro bI w13 cq aN bf
   have K13 := ks w bf
   obtain ⟨bJ, cr, h⟩ := zee h
   obtain ⟨ct, cu, cv⟩ := zep cr
   have bK := (aM.mono (K13 None))
   refine zag (OpY.apDeep (r := rI) (Op := [some bI, some aa, ac]) (Cp := [zab ([] ++ ([(zI ad)] ++ [])), zab ([] ++ (af ++ [])), zab ([] ++ (al ++ ae))]) (FB := FB12) (FC := FC12) (cs := aK) (sp := aL) (xs := bc) (ys := [ad]) (Y := bJ) (n := List.length bc) (cap := az) (j := (ap * 1 + 0)) zan ti3 rfl rfl rfl rfl aN rfl ck cp be rfl bd (zdu (pre := []) (o := 0) (n := 1) (cap := 1) (aN.at 0 rfl rfl) bK rfl rfl rfl) (zcj (fun _ _ _ _ h => h) bK) ct cu cv ?_)
   intro av bL aw ax w14 bg bh bi bj
   have K14 := ks w bj
   obtain ⟨x15, aT, bk, cw, cx, h⟩ := zix h
   refine zag (zbl (r := (rSl rI)) (b := aa) (o := 0) (n := aT) (m := ao.length) (xs := ab) (q := (0 + aT * (rSl rI).sz)) zda ti22 rfl au rfl bk cx rfl ?_)
   obtain ⟨bM, n13, cy, q42, bN, h⟩ := zux h
   obtain rfl := zin bk cy
   refine zdj (OpY.stDeepS (D := dkRow22x) (sp := []) (n := aT) (off := 0) (a' := bJ) ti22 rfl rfl rfl (zes (zem _ _ _ _)) (zem _ _ _ _) bi 1 rfl rfl aD cw rfl bN (zaj rfl) (f := 0) (j := (ap * 1 + 0)) (ob := av) (k := zab ([] ++ (ax ++ aw))) (zaj rfl) (show aT * 1 + 0 = (ap * 1 + 0) by rw [zin bk bG]) (fun vs bs c hr => by obtain ⟨v0, b0, k0, rfl, rfl, rfl, d0⟩ := hr; exact ⟨_, _, _, rfl, rfl, rfl, ⟨_, _, _, rfl, rfl, bh, bg⟩⟩) ?_)
   have bl : ao.length = List.length bM := by rw [bN, List.length_set]; exact au
   intro cz ay bm bn bo cA
   have bp : (ay ++ []).length = aq * (rSl rI).sz := zhc aI cA
   have K15 := ks w bn
   refine zar (zbe (zah rfl (zag (zca (z := (iw (ad + 1))) rfl rfl rfl ?_))))
   refine zag (zae (v := (zI (iw (ad + 1)))) rfl (zar ?_))
   have aO := Loc.pickT (Op := [some bI, some aa, ac]) (Cp := [zab ([] ++ ([(zI ad)] ++ [])), zab ([] ++ (ay ++ [])), zab ([] ++ (al ++ ae))]) (FB := (List.set FB12 (ap * 1 + 0) av)) (FC := (List.set FC12 (ap * 1 + 0) (zab ([] ++ (ax ++ aw))))) bm [1, 2] rfl rfl rfl rfl
   have bq : vL w cz (some aa :: ac :: (List.set FB12 (ap * 1 + 0) av)) (zab ([] ++ (ay ++ [])) :: zab ([] ++ (al ++ ae)) :: (List.set FC12 (ap * 1 + 0) (zab ([] ++ (ax ++ aw))))) := aO.1
   have K16 := ks w aO.2
   obtain rfl := zad h
   refine zap ⟨(bM, (iw (ad + 1))), rfl, ?_⟩
   exact ⟨ay, (List.set FB12 (ap * 1 + 0) av), (List.set FC12 (ap * 1 + 0) (zab ([] ++ (ax ++ aw)))), _, (zef ⟨rfl, rfl, rfl, rfl, trivial⟩), bq, (zak (zak (zak (zak K12 K13) K14) K15) K16), bo, bl, bp, trivial⟩
  replace h := ite_f aE h
  refine zcd rfl ?_
  have aP := Loc.pickT (Op := [some aa, ac]) (Cp := [zab ([] ++ (af ++ [])), zab ([] ++ (al ++ ae))]) (FB := FB12) (FC := FC12) ar [0] rfl rfl rfl rfl
  have br : vL w bC (some aa :: FB12) (zab ([] ++ (af ++ [])) :: FC12) := aP.1
  have K17 := ks w aP.2
  obtain rfl := zad h
  obtain rfl := bb _ rfl
  replace h := bB
  try dsimp only at h
  refine zap ?_
  exact ⟨ab, af, FB12, FC12, _, rfl, (zef zrt), br, (zak K12 K17), aD, au, aI, trivial⟩
 rintro _ cB ⟨an, am, FB11, FC11, u, rfl, rfl, bu, K18, bw, bx, bz, -⟩
 replace h := bB
 try dsimp only at h
 refine zam (zah rfl (zag (zae (v := (osv (some aa) 0 ao.length aq)) rfl (zag (zai (v := (osv (some aa) 0 ao.length aq)) rfl (zar ?_))))))
 have aQ := Loc.settle (S := None) (Op := [some aa]) (Cp := [zab ([] ++ (am ++ []))]) (FB := FB11) (FC := FC11) bu rfl bw
 have cC := aQ.1
 have aR : vL w cB [some aa] [zab ([] ++ (am ++ []))] := aQ.2.1
 refine zbv ?_
 obtain rfl := zad h
 refine ⟨[(osv (some aa) 0 ao.length aq)], zrt, ⟨_, rfl, aR.done, ?_⟩⟩
 exact ⟨some aa, aq, am, [], (by rw [← bx]; rfl), (aR.newOwn [0] rfl rfl rfl), (cC.mono (zdy [0] rfl)), bz, trivial⟩
theorem indexOf_w (N : Nat) (s : (List Int)) (pb : Int) (ab : Value) (w : World) (S : Nat → Prop) (ak : Rs rI (vH w S [] w) ab s) (r : Int) (h : indexOf N s pb = some r) :
  Calls Try.prog 71 #[ab, (zI pb)] w (Ret w (fun v w' => (zI r) = v ∧ True)) := by
 unfold indexOf at h
 have hL : vL w w [] [] := Go.X.Loc.begin0 w
 refine calls_of (l := [ab, (zI pb)]) (rl := [.tmp 4]) (n := 19) Try.func71 rfl rfl rfl (zaj rfl) ?_
 refine zam (zah rfl (zag (zai (v := (zI 0)) rfl (zar (zam (zam (zah rfl (zag (zae (v := ab) rfl (zag (zcc (v := ab) zan rfl ak (zag (zae (v := (zI 0)) rfl (zar ?_))))))))))))))
 obtain ⟨an, ag, ah⟩ := zee h
 refine zbt (fun e w' => ∃  (u : Env), (Sum.inl ()) = an ∧ e = upds [] u ∧ vL w w' [] [] ∧ Keep w.heap.size [] w [] w' ∧ True) ?_ ?_
 ·
  refine zbc ?_
  refine zbx ag (fun (ss : Int) (e : Env) (w' : World) => match ss with | aa => ∃ (u : Env), e = upds [(0, ab), (1, (zI pb)), (7, (zI (s.length : Int))), (8, (zI aa))] u ∧ vL w w' [] [] ∧ Keep w.heap.size [] w [] w' ∧ True) ⟨_, (zef ⟨rfl, rfl, rfl, rfl, trivial⟩), hL, zbp, trivial⟩ ?_
  rintro aa oo _ w10 ⟨u, rfl, ac, K10, -⟩ h af
  rw [indexOf_b1] at h
  refine zam (zah rfl (zag (zcf ((aa : Int) < (s.length : Int)) rfl rfl zbg (zar (zam (zbi ((aa : Int) < (s.length : Int)) rfl (fun ad => ?_) (fun ad => ?_)))))))
  ·
   replace h := ite_t ad h
   refine zbm (zam (zbc (zam (zah rfl (zag (zae (v := (zI aa)) rfl ?_))))))
   refine zag (zai (v := (zI aa)) rfl (zar (zam (zah rfl (zag (zae (v := (zI pb)) rfl (zag (zae (v := ab) rfl (zag (zae (v := (zI aa)) rfl ?_))))))))))
   obtain ⟨ai, al, ao, am, -, h⟩ := zix h
   have ap := (ak.mono (K10 S))
   obtain ⟨b10, aq, c10, ar, au, q14, av, aw⟩ := zcy ap am
   obtain rfl := aw
   refine zag (zbs (r := rI) (v := ab) (n := al) (m := (aq + al * rI.sz)) zan ti3 rfl au rfl ao am rfl (zag (zbu (v := (zI ai)) zay rfl rfl zek av (zag (zdb ((pb : Int) = ai) rfl rfl zbg (zar (zbi ((pb : Int) = ai) rfl (fun ae => ?_) (fun ae => ?_))))))))
   ·
    replace h := ite_t ae h
    refine zam (zah rfl (zag (zae (v := (zI aa)) rfl (zag (zai (v := (zI aa)) rfl (zar (zbv ?_)))))))
    obtain rfl := zad h
    obtain rfl := af _ rfl
    replace h := ah
    try dsimp only at h
    obtain rfl := zad h
    refine ⟨[(zI aa)], zrt, ⟨_, rfl, ac.done, ?_⟩⟩
    exact zrt
   replace h := ite_f ae h
   refine zbm (zbe (zah rfl (zag (zca (z := (iw (aa + 1))) rfl rfl rfl ?_))))
   refine zag (zae (v := (zI (iw (aa + 1)))) rfl (zar ?_))
   obtain rfl := zad h
   refine zap ⟨(iw (aa + 1)), rfl, ?_⟩
   exact ⟨_, (zef ⟨rfl, rfl, rfl, rfl, trivial⟩), ac, K10, trivial⟩
  replace h := ite_f ad h
  refine zcd rfl ?_
  obtain rfl := zad h
  obtain rfl := af _ rfl
  replace h := ah
  try dsimp only at h
  refine zap ?_
  exact ⟨_, rfl, (zef trivial), ac, K10, trivial⟩
 rintro _ w11 ⟨u, rfl, rfl, aj, K11, -⟩
 replace h := ah
 try dsimp only at h
 refine zam (zah rfl (zag (zai (v := (zI (-1))) rfl (zar (zbv ?_)))))
 obtain rfl := zad h
 refine ⟨[(zI (-1))], zrt, ⟨_, rfl, aj.done, ?_⟩⟩
 exact zrt
theorem containsOf_w (N : Nat) (s : (List Int)) (pb : Int) (s_v : Value) (w : World) (S : Nat → Prop) (s_h : Rs rI (vH w S [] w) s_v s) (r : Bool) (h : containsOf N s pb = some r) :
  Calls Try.prog 59 #[s_v, (zI pb)] w (Ret w (fun v w' => (zac r) = v ∧ True)) := by
 unfold containsOf at h
 have hL : vL w w [] [] := Go.X.Loc.begin0 w
 refine calls_of (l := [s_v, (zI pb)]) (rl := [.tmp 4]) (n := 9) Try.func59 rfl rfl rfl (zaj rfl) ?_
 refine zam (zah rfl (zag (zai (v := zF) rfl (zar (zam (zah rfl (zag (zae (v := s_v) rfl (zag (zae (v := (zI pb)) rfl ?_))))))))))
 obtain ⟨r1, q2, h⟩ := zee h
 refine zag (zce en71 rfl rfl (indexOf_w N s pb s_v _ Any (s_h.mono vw_any) r1 q2) ?_)
 rintro _ w4 hE7 ⟨rfl, -⟩
 have hL5 := hL.ext hE7
 refine zag (OpY.geq ((r1 : Int) ≥ 0) rfl rfl zbg (zag (zai (v := (zac (decide ((r1 : Int) ≥ 0)))) rfl (zar (zbv ?_)))))
 obtain rfl := zad h
 refine ⟨[(zac (decide ((r1 : Int) ≥ 0)))], zrt, ⟨_, rfl, hL5.done, ?_⟩⟩
 exact zrt
theorem cloneTest_w (N : Nat) (s : (List TTest)) (ab : Value) (w : World) (S : Nat → Prop) (af : Rs rTTest (vH w S [] w) ab s) (r : (List TTest)) (h : cloneTest N s = some r) :
  Calls Try.prog 60 #[ab] w (Ret w (fun v w' => ∃ (ag : Option Nat) (ad : Nat) (ah : List Value) (sp0 : List Value), (zO ag r ad) = v ∧ NewOwn w w' [ag] [zab ([] ++ (ah ++ sp0))] ∧ Els rTTest (vH w None [ag] w') ah r ∧ (ah ++ sp0).length = ad * rTTest.sz ∧ True)) := by
 unfold cloneTest at h
 have hL : vL w w [] [] := Go.X.Loc.begin0 w
 refine calls_of (l := [ab]) (rl := [.tmp 2]) (n := 8) Try.func60 rfl rfl rfl (zaj rfl) ?_
 refine zam (zah rfl (zag (zai (v := zN) rfl (zar (zam (zam (zah rfl (zag (zae (v := ab) rfl (zag (OpY.eqlNil (v := ab) zbh rfl af.isSlice rfl (zar (zci (isNil ab) rfl (fun ar => ?_) (fun ar => ?_))))))))))))))
 ·
  have hnil := (Sl.of_isNil af ar).1
  replace h : some [] = some r := by rw [hnil] at h; simpa [apnd] using h
  refine zam (zah rfl (zag (zai (v := zN) rfl (zar ?_))))
  have av := hL.addNil
  have au : vL w w [none] [zab ([] ++ ([] ++ []))] := av.1
  have aw : Els rTTest (vH w None [none] w) [] [] := zcn
  refine zbv ?_
  obtain rfl := zad h
  refine ⟨[(osv none 0 (List.length ([] : (List TTest))) 0)], zrt, ⟨_, rfl, au.done, ?_⟩⟩
  exact ⟨none, 0, [], [], rfl, (au.newOwn [0] rfl rfl rfl), (aw.mono (zdy [0] rfl)), (show ([] ++ [] : List Value).length = 0 * rTTest.sz by simp), trivial⟩
 refine zbm (zam (zah rfl (zag (zdr zbh ti44 hL ?_))))
 intro b7 ax ai aj
 have ak : Els rTTest (vH w None [] w) [] [] := zcn
 have K10 := ks w aj
 refine zag (zae (v := ab) rfl ?_)
 obtain ⟨al, ay, h⟩ := zee h
 obtain ⟨az, aA, aB⟩ := zep ay
 have aC := (af.mono (K10 S))
 obtain ⟨aD, aE, aF⟩ := Rs.src aC
 have aG := (ak.mono (K10 None))
 refine zag (zcz (r := rTTest) (H := (vH w None [some b7] ax)) (cs := []) (sp := []) (xs := ([] : (List TTest))) (ys := s) (Y := al) (n := (List.length ([] : (List TTest)))) (cap := 0) (i := 0) zbh ti44 rfl rfl rfl rfl ai rfl rfl aG rfl (show ([] ++ [] : List Value).length = 0 * rTTest.sz by simp) aE (zcj (fun _ _ _ _ h => h) aF) az aA aB ?_)
 intro ac aa am an w11 ao ap ae aq
 have K11 := ks w aq
 refine zag (zai (v := (zO ac al aa)) rfl (zar (zbv ?_)))
 obtain rfl := zad h
 refine ⟨[(zO ac al aa)], zrt, ⟨_, rfl, ae.done, ?_⟩⟩
 have aH := (ao.mono (K11 None))
 exact ⟨ac, aa, an, am, rfl, (ae.newOwn [0] rfl rfl rfl), (aH.mono (zdy [0] rfl)), ap, trivial⟩
theorem tgathered_w (N : Nat) (p : TProb) (ar : Value) (ah : Value) (ai : Value) (al : Value) (aj : Value) (w : World) (S : Nat → Prop) (hH : Rs rI (vH w S [] w) ar p.Min) (dr : Rs rI (vH w S [] w) ah p.Max) (ds : Rs rTTest (vH w S [] w) ai p.Tests) (dt : Rs rArr2Int (vH w S [] w) al p.Same) (du : Rs rArr2Int (vH w S [] w) aj p.Different) (r : ((List TClass) × (List Int) × Bool)) (h : tgathered N p = some r) :
  Calls Try.prog 31 #[(zbr #[ar, ah, ai, al, aj])] w (Ret w (fun v w' => ∃ (c2 : Option Nat) (bZ : Nat) (dv : List Value) (sp0 : List Value) (c3 : Option Nat) (b2 : Nat) (dw : List Value) (gX : List Value), .tuple #[(osv c2 0 r.1.length bZ), (osv c3 0 r.2.1.length b2), (zac r.2.2)] = v ∧ NewOwn w w' [c2, c3] [zab ([] ++ (dv ++ sp0)), zab ([] ++ (dw ++ gX))] ∧ Els rTClass (vH w None [c2, c3] w') dv r.1 ∧ (dv ++ sp0).length = bZ * rTClass.sz ∧ Els rI (vH w None [c2, c3] w') dw r.2.1 ∧ (dw ++ gX).length = b2 * rI.sz ∧ True)) := by
 unfold tgathered at h
 have hL : vL w w [] [] := Go.X.Loc.begin0 w
 refine calls_of (l := [(zbr #[ar, ah, ai, al, aj])]) (rl := [.tmp 2, .tmp 3, .tmp 4]) (n := 155) Try.func31 rfl rfl rfl (zaj rfl) ?_
 refine zam (zah rfl (zag (zdo (cs := [ar, ah, ai, al, aj]) rfl rfl hL ?_)))
 intro b1 w2 dx hI
 have K4 := ks w hI
 refine zag (zai (v := zN) rfl (zag (zai (v := zN) rfl (zag (zai (v := zF) rfl (zar (zam (zah rfl (zag (zcr (vs := [ar, ah, ai, al, aj]) zct rfl ti31 rfl (dx.at 0 rfl rfl) rfl rfl ?_))))))))))
 obtain ⟨r6, q7, h⟩ := zee h
 have gY := (hH.mono (K4 S))
 have gZ := (dr.mono (K4 S))
 have g0 := (ds.mono (K4 S))
 have hJ := (dt.mono (K4 S))
 have g1 := (du.mono (K4 S))
 refine zag (zce en40 rfl rfl (tclasses_w N p ar ah ai al aj _ Any (gY.mono vw_any) (gZ.mono vw_any) (g0.mono vw_any) (hJ.mono vw_any) (g1.mono vw_any) r6 q7) ?_)
 rintro _ w10 dy ⟨ac, af, ae, ad, rfl, dz, bu, b3, -⟩
 replace bu := bu.mono (zbw (S := None) dx [ac])
 have b4 := dx.adoptL dy dz
 have dA := b4.1
 have K10 := ks w b4.2
 refine zag (zae (v := (Value.tuple #[(osv ac 0 r6.1.length af), (zI r6.2)])) rfl (zag (zcm (vs := [(osv ac 0 r6.1.length af), (zI r6.2)]) (v := (osv ac 0 r6.1.length af)) rfl rfl (zag (zcm (vs := [(osv ac 0 r6.1.length af), (zI r6.2)]) (v := (zI r6.2)) rfl rfl (zag (zai (v := (osv ac 0 r6.1.length af)) rfl (zag (zai (v := (zI r6.2)) rfl (zar (zam (zah rfl (zag (zae (v := (zI r6.2)) rfl ?_))))))))))))))
 obtain ⟨ab, hM, h⟩ := zee h
 obtain ⟨ak, hN, hP, hQ, hR⟩ := mk1_some hM
 refine zag (OpY.mkDeep (D := dkTClass) (zc := [(zI 0), (zI 0), zN, zN, zN]) (x := (TClass.mk 0 0 [] [] [])) zas ti56 rfl rfl ⟨_, none, zab [], _, none, zab [], rfl, rfl, rfl, DS.nil, DS.nil, rfl⟩ rfl rfl hN hP hQ hR dA ?_)
 intro aa dB bw FB10 FC10 dC dD dE dF
 have K11 := ks w dF
 refine zag (zai (v := (osv (some aa) 0 ab.length ak)) rfl (zar (zam (zam (zah rfl (zag (zae (v := (osv (some aa) 0 ab.length ak)) rfl (zag (OpY.lenDeep (xs := ab) zas rfl rfl (zag (zae (v := (zI 0)) rfl (zar ?_))))))))))))
 obtain ⟨hS, dG, g2⟩ := zee h
 refine zbt (fun e w' => ∃ (c4 : (List TClass)) (aO : List Value) (FB11 : List (Option Nat)) (FC11 : List Cont) (u : Env), c4 = hS ∧ e = upds [(1, (zal (some ⟨b1, 0, none⟩))), (5, (osv ac 0 r6.1.length af)), (7, (osv (some aa) 0 ab.length ak))] u ∧ vL w w' (some b1 :: ac :: some aa :: FB11) (zab [ar, ah, ai, al, aj] :: zab ([] ++ (ae ++ ad)) :: zab ([] ++ (aO ++ [])) :: FC11) ∧ Keep w.heap.size (some aa :: ac :: some b1 :: FB10) dB (some b1 :: ac :: some aa :: FB11) w' ∧ DEls dkTClass aO FB11 FC11 c4 ∧ ab.length = List.length c4 ∧ (aO ++ []).length = ak * rTClass.sz ∧ True) ?_ ?_
 ·
  refine zbc ?_
  have b5 := Loc.pickT (Op := [some aa, ac, some b1]) (Cp := [zab ([] ++ (bw ++ [])), zab ([] ++ (ae ++ ad)), zab [ar, ah, ai, al, aj]]) (FB := FB10) (FC := FC10) dE [2, 1, 0] rfl rfl rfl rfl
  have dH : vL w dB (some b1 :: ac :: some aa :: FB10) (zab [ar, ah, ai, al, aj] :: zab ([] ++ (ae ++ ad)) :: zab ([] ++ (bw ++ [])) :: FC10) := b5.1
  have K12 := ks w b5.2
  refine zbx dG (fun (ss : ((List TClass) × Int)) (e : Env) (w' : World) => match ss with | (b6, aZ) => ∃ (aP : List Value) (FB12 : List (Option Nat)) (FC12 : List Cont) (u : Env), e = upds [(1, (zal (some ⟨b1, 0, none⟩))), (5, (osv ac 0 r6.1.length af)), (7, (osv (some aa) 0 ab.length ak)), (26, (zI (ab.length : Int))), (27, (zI aZ))] u ∧ vL w w' (some b1 :: ac :: some aa :: FB12) (zab [ar, ah, ai, al, aj] :: zab ([] ++ (ae ++ ad)) :: zab ([] ++ (aP ++ [])) :: FC12) ∧ Keep w.heap.size (some aa :: ac :: some b1 :: FB10) dB (some b1 :: ac :: some aa :: FB12) w' ∧ DEls dkTClass aP FB12 FC12 b6 ∧ ab.length = List.length b6 ∧ (aP ++ []).length = ak * rTClass.sz ∧ True) ⟨bw, FB10, FC10, _, (zef ⟨rfl, rfl, rfl, rfl, rfl, trivial⟩), dH, K12, dC, rfl, dD, trivial⟩ ?_
  rintro ⟨b6, aZ⟩ oo _ w12 ⟨aP, FB12, FC12, u, rfl, b7, K13, b8, bx, b9, -⟩ h dI
  rw [tgathered_b1] at h
  refine zam (zah rfl (zag (zcf ((aZ : Int) < (ab.length : Int)) rfl rfl zbg (zar (zam (zbi ((aZ : Int) < (ab.length : Int)) rfl (fun bz => ?_) (fun bz => ?_)))))))
  ·
   replace h := ite_t bz h
   refine zbm (zam (zbc (zam (zah rfl (zag (zae (v := (zI aZ)) rfl ?_))))))
   refine zag (zai (v := (zI aZ)) rfl (zar (zah rfl (zag (zae (v := (osv (some aa) 0 ab.length ak)) rfl (zag (zae (v := (zI aZ)) rfl ?_)))))))
   obtain ⟨c5, c6, g3, hT, hU, h⟩ := zix h
   refine zag (zbl (r := rTClass) (b := aa) (o := 0) (n := c6) (m := ab.length) (xs := b6) (q := (0 + c6 * rTClass.sz)) zas ti56 rfl bx rfl g3 hU rfl (zag (zat (q := ((0 + c6 * rTClass.sz) + 1)) zbq rfl ti3 rfl rfl rfl ?_)))
   obtain ⟨g4, n11, hV, q21, g5, h⟩ := zux h
   obtain rfl := zin g3 hV
   refine zdj (OpY.stDeep (D := dkTClass) (sp := []) (n := c6) (off := 1) (a' := (TClass.mk c5.low 16 c5.tests c5.words c5.apart)) ti3 rfl rfl rfl rfl rfl b7 2 rfl rfl b8 hT rfl g5 (zaj rfl) (fun vs bs c hr => by obtain ⟨v0, b0, k0, v1, b1, k1, rfl, rfl, rfl, d0, d1, w0⟩ := hr; exact ⟨_, _, _, _, _, _, rfl, rfl, rfl, d0, d1, w0⟩) ?_)
   have dJ : ab.length = List.length g4 := by rw [g5, List.length_set]; exact bx
   intro w13 ca dK dL dM hW
   have dN : (ca ++ []).length = ak * rTClass.sz := zhc b9 hW
   have K14 := ks w dL
   refine zar (zbe (zah rfl (zag (zca (z := (iw (aZ + 1))) rfl rfl rfl ?_))))
   refine zag (zae (v := (zI (iw (aZ + 1)))) rfl (zar ?_))
   obtain rfl := zad h
   refine zap ⟨(g4, (iw (aZ + 1))), rfl, ?_⟩
   exact ⟨ca, FB12, FC12, _, (zef ⟨rfl, rfl, rfl, rfl, rfl, trivial⟩), dK, (zak K13 K14), dM, dJ, dN, trivial⟩
  replace h := ite_f bz h
  refine zcd rfl ?_
  obtain rfl := zad h
  obtain rfl := dI _ rfl
  replace h := g2
  try dsimp only at h
  refine zap ?_
  exact ⟨b6, aP, FB12, FC12, _, rfl, (zef ⟨rfl, rfl, rfl, trivial⟩), b7, K13, b8, bx, b9, trivial⟩
 rintro _ g6 ⟨c4, aO, FB11, FC11, u, rfl, rfl, cb, K15, dO, dP, dQ, -⟩
 replace h := g2
 try dsimp only at h
 refine zam (zam (zah rfl (zag (zae (v := (osv ac 0 r6.1.length af)) rfl ?_))))
 have cc := ((bu.mono (K11 None)).mono (K15 None))
 refine zag (zcl (pre := []) (r := rI) (xs := r6.1) zan rfl (cb.at 1 rfl rfl) cc rfl rfl (zag (zae (v := (zI 0)) rfl (zar ?_))))
 obtain ⟨hX, dR, g7⟩ := zee h
 refine zbt (fun e w' => ∃ (c7 : (List TClass)) (aQ : List Value) (FB13 : List (Option Nat)) (FC13 : List Cont) (u : Env), c7 = hX ∧ e = upds [(1, (zal (some ⟨b1, 0, none⟩))), (5, (osv ac 0 r6.1.length af)), (7, (osv (some aa) 0 ab.length ak))] u ∧ vL w w' (some b1 :: ac :: some aa :: FB13) (zab [ar, ah, ai, al, aj] :: zab ([] ++ (ae ++ ad)) :: zab ([] ++ (aQ ++ [])) :: FC13) ∧ Keep w.heap.size (some b1 :: ac :: some aa :: FB11) g6 (some b1 :: ac :: some aa :: FB13) w' ∧ DEls dkTClass aQ FB13 FC13 c7 ∧ ab.length = List.length c7 ∧ (aQ ++ []).length = ak * rTClass.sz ∧ True) ?_ ?_
 ·
  refine zbc ?_
  refine zbx dR (fun (ss : ((List TClass) × Int)) (e : Env) (w' : World) => match ss with | (bp, aR) => ∃ (aS : List Value) (FB14 : List (Option Nat)) (FC14 : List Cont) (u : Env), e = upds [(1, (zal (some ⟨b1, 0, none⟩))), (5, (osv ac 0 r6.1.length af)), (7, (osv (some aa) 0 ab.length ak)), (35, (osv ac 0 r6.1.length af)), (36, (zI (r6.1.length : Int))), (37, (zI aR))] u ∧ vL w w' (some b1 :: ac :: some aa :: FB14) (zab [ar, ah, ai, al, aj] :: zab ([] ++ (ae ++ ad)) :: zab ([] ++ (aS ++ [])) :: FC14) ∧ Keep w.heap.size (some b1 :: ac :: some aa :: FB11) g6 (some b1 :: ac :: some aa :: FB14) w' ∧ DEls dkTClass aS FB14 FC14 bp ∧ ab.length = List.length bp ∧ (aS ++ []).length = ak * rTClass.sz ∧ True) ⟨aO, FB11, FC11, _, (zef ⟨rfl, rfl, rfl, rfl, rfl, rfl, trivial⟩), cb, zbp, dO, dP, dQ, trivial⟩ ?_
  rintro ⟨bp, aR⟩ oo _ w15 ⟨aS, FB14, FC14, u, rfl, a2, K16, a3, au, cd, -⟩ h dS
  rw [tgathered_b2] at h
  refine zam (zah rfl (zag (zcf ((aR : Int) < (r6.1.length : Int)) rfl rfl zbg (zar (zam (zbi ((aR : Int) < (r6.1.length : Int)) rfl (fun bA => ?_) (fun bA => ?_)))))))
  ·
   replace h := ite_t bA h
   refine zbm (zam (zbc (zam (zah rfl (zag (zae (v := (zI aR)) rfl ?_))))))
   obtain ⟨bU, g8, hY, g9, hZ, h⟩ := zix h
   have ha := (cc.mono (K16 None))
   obtain ⟨h0, ce⟩ := a2.row_some 1 rfl rfl (zev (pre := []) ha g9 (Nat.lt_of_sub_eq_succ rfl))
   refine zag (zbl (r := rI) (b := h0) (o := 0) (n := g8) (m := r6.1.length) (xs := r6.1) (q := (0 + g8 * rI.sz)) zan ti3 (zen ce) rfl rfl hY hZ rfl ?_)
   obtain ⟨h1, q28, h2, h3⟩ := zeo (pre := []) (sp := ad) ha g9
   obtain rfl := h2
   refine zag (zby (v := (zI bU)) zay rfl rfl (zer ce (a2.at 1 rfl rfl)) h3 (zag (zai (v := (zI aR)) rfl (zag (zai (v := (zI bU)) rfl (zar ?_))))))
   obtain ⟨bV, cg, h4, h5, h6, h⟩ := zix h
   obtain ⟨h7, h8, c10, h9, ia, q37, q38⟩ := DEls.elem (sp := []) a3 h5
   obtain ⟨v10, b12, k10, v11, b13, k11, rfl, rfl, rfl, d10, d11, q39⟩ := h9
   have ib := elem_part (us := [(zI bV.low)]) (q := 0) ia rfl
   obtain ⟨ch, dT, ic, hc, -, h⟩ := zix h
   have ie := ((((gY.mono (K10 S)).mono (K11 S)).mono (K15 S)).mono (K16 S))
   obtain ⟨ig, hd, c11, ih, ii, q45, ij, ik⟩ := zcy ie hc
   obtain rfl := ik
   obtain ⟨bB, bq, he, il, hf, h⟩ := zix h
   obtain ⟨im, io, c12, ip, iq, q53, q54⟩ := DEls.elem (sp := []) a3 il
   obtain ⟨v12, b15, k12, v13, b16, k13, rfl, rfl, rfl, d12, d13, q55⟩ := ip
   have ir := elem_part (us := [(zI bB.high)]) (q := 1) iq rfl
   obtain ⟨bW, ci, hg, dU, -, h⟩ := zix h
   have it := ((((gZ.mono (K10 S)).mono (K11 S)).mono (K15 S)).mono (K16 S))
   obtain ⟨iu, dV, c13, iv, hh, q61, ix, iy⟩ := zcy it dU
   obtain rfl := iy
   obtain ⟨c8, br, dW, iz, hj, h⟩ := zix h
   obtain ⟨x21, aT, cj, q69, dX, h⟩ := zix h
   refine Swp.drawP [28, 31] [0, 1, 2, 3, 4, 5, 6, 7, 8, 9, 10, 11, 12, 13, 14, 15, 16, 17, 18, 19, 20, 21, 22, 23, 24, 25, 26, 27, 29, 30] [(42, (osv (some aa) 0 ab.length ak)), (43, (zI bU)), (44, (osv (some aa) 0 ab.length ak)), (45, (zI bU)), (46, (osv (some aa) 0 ab.length ak)), (47, (zI bU)), (48, (zal (some ⟨aa, (0 + cg * rTClass.sz), none⟩))), (49, (zal (some ⟨aa, ((0 + cg * rTClass.sz) + 0), none⟩))), (50, (zI bV.low)), (51, (zal (some ⟨b1, 0, none⟩))), (52, ar), (53, (zI aR)), (54, (zal (some ⟨ig, (hd + dT * rI.sz), none⟩))), (55, (zI ch)), (56, (zI (imax bV.low ch))), (57, (osv (some aa) 0 ab.length ak)), (58, (zI bU)), (59, (zal (some ⟨aa, (0 + bq * rTClass.sz), none⟩))), (60, (zal (some ⟨aa, ((0 + bq * rTClass.sz) + 1), none⟩))), (61, (zI bB.high)), (62, (zal (some ⟨b1, 1, none⟩))), (63, ah), (64, (zI aR)), (65, (zal (some ⟨iu, (dV + ci * rI.sz), none⟩))), (66, (zI bW)), (67, (zI (imin bB.high bW))), (68, (zal (some ⟨aa, (0 + br * rTClass.sz), none⟩))), (69, (zal (some ⟨aa, ((0 + br * rTClass.sz) + 0), none⟩))), (70, (zal (some ⟨aa, (0 + aT * rTClass.sz), none⟩))), (71, (zal (some ⟨aa, ((0 + aT * rTClass.sz) + 1), none⟩)))] mixed rfl rfl rfl rfl ?_
   intro w16 dY
   obtain ⟨aU, K17⟩ := zl a2 dY
   refine ⟨?_, ?_⟩
   ·
    refine zao (i := 0) rfl rfl (zaq (zae rfl zrr)) (zao (i := 1) rfl rfl (zaq (zae rfl zrr)) (zao (i := 2) rfl rfl (zaq (zae rfl zrr)) (zao (i := 3) rfl rfl (zaq (zae rfl zrr)) (zao (i := 4) rfl rfl (zaq (zae rfl zrr)) (zao (i := 5) rfl rfl (zaq (zae rfl zrr)) (zao (i := 6) rfl rfl (zaq (zbl (r := rTClass) (b := aa) (o := 0) (n := cg) (m := ab.length) (xs := bp) (q := (0 + cg * rTClass.sz)) zas ti56 rfl au rfl h4 h6 rfl zrr)) ?_))))))
    refine zao (i := 7) rfl rfl (zaq (zat (q := ((0 + cg * rTClass.sz) + 0)) zbq rfl ti3 rfl rfl rfl zrr)) (zao (i := 8) rfl rfl (zaq (zby (v := (zI bV.low)) zay rfl rfl (aU.at 2 rfl rfl) ib zrr)) (zao (i := 9) rfl rfl (zaq (zat (q := 0) zct rfl ti22 rfl rfl rfl zrr)) (zao (i := 10) rfl rfl (zaq (zav (v := ar) zan rfl rfl (aU.at 0 rfl rfl) rfl zrr)) (zao (i := 11) rfl rfl (zaq (zae rfl zrr)) (zao (i := 12) rfl rfl (zaq (zbs (r := rI) (v := ar) (n := dT) (m := (hd + dT * rI.sz)) zan ti3 rfl ii rfl ic hc rfl zrr)) (zao (i := 13) rfl rfl (zaq (zbu (v := (zI ch)) zay rfl rfl zek (zbz (K17 S) ij) zrr)) ?_))))))
    refine zao (i := 14) rfl rfl (zaq (OpY.max (x := bV.low) (y := ch) rfl rfl zrr)) (zao (i := 15) rfl rfl (zaq (zae rfl zrr)) (zao (i := 16) rfl rfl (zaq (zae rfl zrr)) (zao (i := 17) rfl rfl (zaq (zbl (r := rTClass) (b := aa) (o := 0) (n := bq) (m := ab.length) (xs := bp) (q := (0 + bq * rTClass.sz)) zas ti56 rfl au rfl he hf rfl zrr)) (zao (i := 18) rfl rfl (zaq (zat (q := ((0 + bq * rTClass.sz) + 1)) zbq rfl ti3 rfl rfl rfl zrr)) (zao (i := 19) rfl rfl (zaq (zby (v := (zI bB.high)) zay rfl rfl (aU.at 2 rfl rfl) ir zrr)) (zao (i := 20) rfl rfl (zaq (zat (q := 1) zct rfl ti22 rfl rfl rfl zrr)) ?_))))))
    refine zao (i := 21) rfl rfl (zaq (zav (v := ah) zan rfl rfl (aU.at 0 rfl rfl) rfl zrr)) (zao (i := 22) rfl rfl (zaq (zae rfl zrr)) (zao (i := 23) rfl rfl (zaq (zbs (r := rI) (v := ah) (n := ci) (m := (dV + ci * rI.sz)) zan ti3 rfl hh rfl hg dU rfl zrr)) (zao (i := 24) rfl rfl (zaq (zbu (v := (zI bW)) zay rfl rfl zek (zbz (K17 S) ix) zrr)) (zao (i := 25) rfl rfl (zaq (OpY.min (x := bB.high) (y := bW) rfl rfl zrr)) (zao (i := 26) rfl rfl (zaq (zbl (r := rTClass) (b := aa) (o := 0) (n := br) (m := ab.length) (xs := bp) (q := (0 + br * rTClass.sz)) zas ti56 rfl au rfl dW hj rfl zrr)) (zao (i := 27) rfl rfl (zaq (zat (q := ((0 + br * rTClass.sz) + 0)) zbq rfl ti3 rfl rfl rfl zrr)) ?_))))))
    refine zao (i := 29) rfl rfl (zaq (zbl (r := rTClass) (b := aa) (o := 0) (n := aT) (m := ab.length) (xs := bp) (q := (0 + aT * rTClass.sz)) zas ti56 rfl au rfl cj dX rfl zrr)) (zao (i := 30) rfl rfl (zaq (zat (q := ((0 + aT * rTClass.sz) + 1)) zbq rfl ti3 rfl rfl rfl zrr)) ?_)
    exact zch
   obtain ⟨c9, n19, iA, q73, hk, h⟩ := zux h
   obtain rfl := zin dW iA
   refine RlL.op0 (OpY.stDeep (D := dkTClass) (sp := []) (n := br) (off := 0) (a' := (TClass.mk (imax bV.low ch) c8.high c8.tests c8.words c8.apart)) ti3 rfl rfl rfl rfl rfl aU 2 rfl rfl a3 iz rfl hk (zaj rfl) (fun vs bs c hr => by obtain ⟨v0, b0, k0, v1, b1, k1, rfl, rfl, rfl, d0, d1, w0⟩ := hr; exact ⟨_, _, _, _, _, _, rfl, rfl, rfl, d0, d1, w0⟩) ?_)
   have az : ab.length = List.length c9 := by rw [hk, List.length_set]; exact au
   intro w17 dZ ck d2 d3 iB
   have d4 : (dZ ++ []).length = ak * rTClass.sz := zhc cd iB
   have K18 := ks w d2
   refine ⟨?_, ?_⟩
   ·
    refine zao (i := 2) rfl rfl (zaq (zae rfl zrr)) (zao (i := 3) rfl rfl (zaq (zae rfl zrr)) (zao (i := 15) rfl rfl (zaq (zae rfl zrr)) (zao (i := 16) rfl rfl (zaq (zae rfl zrr)) (zao (i := 17) rfl rfl (zaq (zbl (r := rTClass) (b := aa) (o := 0) (n := bq) (m := ab.length) (xs := c9) (q := (0 + bq * rTClass.sz)) zas ti56 rfl az rfl he (Nat.lt_of_lt_of_eq hf (Eq.trans (Eq.symm au) az)) rfl zrr)) (zao (i := 18) rfl rfl (zaq (zat (q := ((0 + bq * rTClass.sz) + 1)) zbq rfl ti3 rfl rfl rfl zrr)) (zao (i := 20) rfl rfl (zaq (zat (q := 1) zct rfl ti22 rfl rfl rfl zrr)) ?_))))))
    refine zao (i := 21) rfl rfl (zaq (zav (v := ah) zan rfl rfl (ck.at 0 rfl rfl) rfl zrr)) (zao (i := 22) rfl rfl (zaq (zae rfl zrr)) (zao (i := 23) rfl rfl (zaq (zbs (r := rI) (v := ah) (n := ci) (m := (dV + ci * rI.sz)) zan ti3 rfl hh rfl hg dU rfl zrr)) (zao (i := 25) rfl rfl (zaq (OpY.min (x := bB.high) (y := bW) rfl rfl zrr)) (zao (i := 26) rfl rfl (zaq (zbl (r := rTClass) (b := aa) (o := 0) (n := br) (m := ab.length) (xs := c9) (q := (0 + br * rTClass.sz)) zas ti56 rfl az rfl dW (Nat.lt_of_lt_of_eq hj (Eq.trans (Eq.symm au) az)) rfl zrr)) (zao (i := 29) rfl rfl (zaq (zbl (r := rTClass) (b := aa) (o := 0) (n := aT) (m := ab.length) (xs := c9) (q := (0 + aT * rTClass.sz)) zas ti56 rfl az rfl cj (Nat.lt_of_lt_of_eq dX (Eq.trans (Eq.symm au) az)) rfl zrr)) (zao (i := 30) rfl rfl (zaq (zat (q := ((0 + aT * rTClass.sz) + 1)) zbq rfl ti3 rfl rfl rfl zrr)) ?_))))))
    exact zch
   obtain ⟨da, n20, iC, iD, -, h⟩ := zix h
   obtain rfl := zin cj iC
   obtain ⟨d5, n21, iE, q81, hl, h⟩ := zux h
   obtain rfl := zin cj iE
   refine RlL.op0 (OpY.stDeep (D := dkTClass) (sp := []) (n := aT) (off := 1) (a' := (TClass.mk da.low (imin bB.high bW) da.tests da.words da.apart)) ti3 rfl rfl rfl rfl rfl ck 2 rfl rfl d3 iD rfl hl (zaj rfl) (fun vs bs c hr => by obtain ⟨v0, b0, k0, v1, b1, k1, rfl, rfl, rfl, d0, d1, w0⟩ := hr; exact ⟨_, _, _, _, _, _, rfl, rfl, rfl, d0, d1, w0⟩) ?_)
   have bC : ab.length = List.length d5 := by rw [hl, List.length_set]; exact az
   intro w18 cp d6 d7 d8 iF
   have d9 : (cp ++ []).length = ak * rTClass.sz := zhc d4 iF
   have K19 := ks w d7
   refine ⟨?_, ?_⟩
   ·
    refine zao (i := 29) rfl rfl (zaq (zbl (r := rTClass) (b := aa) (o := 0) (n := aT) (m := ab.length) (xs := d5) (q := (0 + aT * rTClass.sz)) zas ti56 rfl bC rfl cj (Nat.lt_of_lt_of_eq dX (Eq.trans (Eq.symm au) bC)) rfl zrr)) ?_
    exact zch
   refine RlL.fin ?_
   refine zbe (zah rfl (zag (zca (z := (iw (aR + 1))) rfl rfl rfl ?_)))
   refine zag (zae (v := (zI (iw (aR + 1)))) rfl (zar ?_))
   obtain rfl := zad h
   refine zap ⟨(d5, (iw (aR + 1))), rfl, ?_⟩
   exact ⟨cp, FB14, FC14, _, (zef ⟨rfl, rfl, rfl, rfl, rfl, rfl, trivial⟩), d6, (zak (zak (zak K16 K17) K18) K19), d8, bC, d9, trivial⟩
  replace h := ite_f bA h
  refine zcd rfl ?_
  obtain rfl := zad h
  obtain rfl := dS _ rfl
  replace h := g7
  try dsimp only at h
  refine zap ?_
  exact ⟨bp, aS, FB14, FC14, _, rfl, (zef ⟨rfl, rfl, rfl, trivial⟩), a2, K16, a3, au, cd, trivial⟩
 rintro _ hm ⟨c7, aQ, FB13, FC13, u, rfl, rfl, cq, K20, ea, eb, ec, -⟩
 replace h := g7
 try dsimp only at h
 refine zam (zam (zah rfl (zag (zat (q := 2) zct rfl ti23 rfl rfl rfl (zag (zav (v := ai) zbh rfl rfl (cq.at 0 rfl rfl) rfl ?_))))))
 have hn := ((((g0.mono (K10 S)).mono (K11 S)).mono (K15 S)).mono (K20 S))
 refine zag (zcc (v := ai) zbh rfl hn (zag (zae (v := (zI 0)) rfl (zar ?_))))
 obtain ⟨iG, ed, ho⟩ := zee h
 refine zbt (fun e w' => ∃ (db : (List TClass)) (aA : List Value) (FB15 : List (Option Nat)) (FC15 : List Cont) (u : Env), db = iG ∧ e = upds [(1, (zal (some ⟨b1, 0, none⟩))), (5, (osv ac 0 r6.1.length af)), (7, (osv (some aa) 0 ab.length ak))] u ∧ vL w w' (some b1 :: ac :: some aa :: FB15) (zab [ar, ah, ai, al, aj] :: zab ([] ++ (ae ++ ad)) :: zab ([] ++ (aA ++ [])) :: FC15) ∧ Keep w.heap.size (some b1 :: ac :: some aa :: FB13) hm (some b1 :: ac :: some aa :: FB15) w' ∧ DEls dkTClass aA FB15 FC15 db ∧ ab.length = List.length db ∧ (aA ++ []).length = ak * rTClass.sz ∧ True) ?_ ?_
 ·
  refine zbc ?_
  refine zbx ed (fun (ss : ((List TClass) × Int)) (e : Env) (w' : World) => match ss with | (a0, bD) => ∃ (aI : List Value) (FB16 : List (Option Nat)) (FC16 : List Cont) (u : Env), e = upds [(1, (zal (some ⟨b1, 0, none⟩))), (5, (osv ac 0 r6.1.length af)), (7, (osv (some aa) 0 ab.length ak)), (74, ai), (75, (zI (p.Tests.length : Int))), (76, (zI bD))] u ∧ vL w w' (some b1 :: ac :: some aa :: FB16) (zab [ar, ah, ai, al, aj] :: zab ([] ++ (ae ++ ad)) :: zab ([] ++ (aI ++ [])) :: FC16) ∧ Keep w.heap.size (some b1 :: ac :: some aa :: FB13) hm (some b1 :: ac :: some aa :: FB16) w' ∧ DEls dkTClass aI FB16 FC16 a0 ∧ ab.length = List.length a0 ∧ (aI ++ []).length = ak * rTClass.sz ∧ True) ⟨aQ, FB13, FC13, _, (zef ⟨rfl, rfl, rfl, rfl, rfl, rfl, trivial⟩), cq, zbp, ea, eb, ec, trivial⟩ ?_
  rintro ⟨a0, bD⟩ oo _ w20 ⟨aI, FB16, FC16, u, rfl, cr, K21, bE, aw, ct, -⟩ h ee
  rw [tgathered_b3] at h
  refine zam (zah rfl (zag (zcf ((bD : Int) < (p.Tests.length : Int)) rfl rfl zbg (zar (zam (zbi ((bD : Int) < (p.Tests.length : Int)) rfl (fun bF => ?_) (fun bF => ?_)))))))
  ·
   replace h := ite_t bF h
   refine zbm (zam (zbc (zam (zah rfl ?_))))
   obtain ⟨ag, hp, iH, ht, -, h⟩ := zix h
   have iI := (hn.mono (K21 S))
   obtain ⟨b18, iJ, c14, iK, iL, q88, iM, iN⟩ := zcy iI ht
   obtain ⟨rfl, -⟩ := rTTest_open iN
   refine zag (zbs (r := rTTest) (v := ai) (n := hp) (m := (iJ + hp * rTTest.sz)) zbh ti44 rfl iL rfl iH ht rfl (zag (OpY.ldRoA (vs := [(zI ag.Var), (zI ag.Kind), (zac ag.Negated), (zS ag.Text)]) zbd rfl ti44 rfl rfl zek iM (zag (zdw (cs := [(zI 0), (zI 0), zF, (zaf (s8 []))]) ti44 rfl cr ?_)))))
   intro ef w21 eg eh
   have K22 := ks w eh
   refine zdj (zdi (vs := [(zI ag.Var), (zI ag.Kind), (zac ag.Negated), (zS ag.Text)]) ti44 rfl rfl rfl rfl (zej rfl (zej rfl (zej rfl (zej rfl zeu)))) eg 0 rfl rfl (zaj rfl) ?_)
   intro w22 a4 ei
   have K23 := ks w ei
   refine zar (zam (zah rfl (zag (zae (v := (osv ac 0 r6.1.length af)) rfl ?_))))
   refine zag (zat (q := 0) zbd rfl ti3 rfl rfl rfl (zag (zav (v := (zI ag.Var)) zay rfl rfl (a4.at 0 rfl rfl) rfl ?_)))
   obtain ⟨dc, hu, iO, hv, iP, h⟩ := zix h
   have hw := ((((cc.mono (K20 None)).mono (K21 None)).mono (K22 None)).mono (K23 None))
   obtain ⟨iQ, cu⟩ := a4.row_some 2 rfl rfl (zev (pre := []) hw hv (Nat.lt_of_sub_eq_succ rfl))
   refine zag (zbl (r := rI) (b := iQ) (o := 0) (n := hu) (m := r6.1.length) (xs := r6.1) (q := (0 + hu * rI.sz)) zan ti3 (zen cu) rfl rfl iO iP rfl ?_)
   obtain ⟨iR, q94, iS, iT⟩ := zeo (pre := []) (sp := ad) hw hv
   obtain rfl := iS
   refine zag (zby (v := (zI dc)) zay rfl rfl (zer cu (a4.at 2 rfl rfl)) iT (zag (zai (v := (zI dc)) rfl (zar ?_))))
   obtain ⟨bX, aq, dd, iU, bG, h⟩ := zix h
   obtain ⟨iV, iW, c15, ej, ek, em, en⟩ := DEls.elem (sp := []) bE iU
   obtain ⟨v14, cv, k14, v15, b22, k15, rfl, rfl, rfl, iX, d15, iY⟩ := ej
   obtain ⟨ax, cw, cx, rfl, rfl, eo, ep⟩ := iX
   have es : (FB16)[(aq * 2 + 0)]? = some cv := em 0 _ rfl
   have et : (FC16)[(aq * 2 + 0)]? = some (zab ([] ++ (cw ++ cx))) := en 0 _ rfl
   have cy := elem_part (us := [(osv cv 0 bX.tests.length ax)]) (q := 2) ek rfl
   obtain ⟨dh, aB, aJ, eu, a5, h⟩ := zix h
   refine Swp.drawP [8, 9, 12] [0, 1, 2, 3, 4, 5, 6, 7, 10, 11] [(85, (osv (some aa) 0 ab.length ak)), (86, (zI dc)), (87, (osv (some aa) 0 ab.length ak)), (88, (zI dc)), (89, (zal (some ⟨aa, (0 + aq * rTClass.sz), none⟩))), (90, (zal (some ⟨aa, ((0 + aq * rTClass.sz) + 2), none⟩))), (91, (osv cv 0 bX.tests.length ax)), (92, (zbr #[(zI ag.Var), (zI ag.Kind), (zac ag.Negated), (zS ag.Text)])), (95, (zal (some ⟨aa, (0 + aB * rTClass.sz), none⟩))), (96, (zal (some ⟨aa, ((0 + aB * rTClass.sz) + 2), none⟩)))] mixed rfl rfl rfl rfl ?_
   intro iZ ew
   obtain ⟨bH, K24⟩ := zl a4 ew
   refine ⟨?_, ?_⟩
   ·
    refine zao (i := 0) rfl rfl (zaq (zae rfl zrr)) (zao (i := 1) rfl rfl (zaq (zae rfl zrr)) (zao (i := 2) rfl rfl (zaq (zae rfl zrr)) (zao (i := 3) rfl rfl (zaq (zae rfl zrr)) (zao (i := 4) rfl rfl (zaq (zbl (r := rTClass) (b := aa) (o := 0) (n := aq) (m := ab.length) (xs := a0) (q := (0 + aq * rTClass.sz)) zas ti56 rfl aw rfl dd bG rfl zrr)) (zao (i := 5) rfl rfl (zaq (zat (q := ((0 + aq * rTClass.sz) + 2)) zbq rfl ti23 rfl rfl rfl zrr)) (zao (i := 6) rfl rfl (zaq (zby (v := (osv cv 0 bX.tests.length ax)) zbh rfl rfl (bH.at 3 rfl rfl) cy zrr)) ?_))))))
    refine zao (i := 7) rfl rfl (zaq (zcr (vs := [(zI ag.Var), (zI ag.Kind), (zac ag.Negated), (zS ag.Text)]) zbd rfl ti44 rfl (bH.at 0 rfl rfl) rfl rfl zrr)) (zao (i := 10) rfl rfl (zaq (zbl (r := rTClass) (b := aa) (o := 0) (n := aB) (m := ab.length) (xs := a0) (q := (0 + aB * rTClass.sz)) zas ti56 rfl aw rfl aJ a5 rfl zrr)) (zao (i := 11) rfl rfl (zaq (zat (q := ((0 + aB * rTClass.sz) + 2)) zbq rfl ti23 rfl rfl rfl zrr)) ?_))
    exact zch
   have cz : Els rTTest (vH w None (some ef :: some b1 :: ac :: some aa :: FB16) iZ) [(zI ag.Var), (zI ag.Kind), (zac ag.Negated), (zS ag.Text)] [ag] := (zcq (a := [(zI ag.Var), (zI ag.Kind), (zac ag.Negated), (zS ag.Text)]) (rTTest_close ⟨rfl, trivial⟩) zcn)
   refine RlL.op (zco (r := rTTest) (vs := [(zbr #[(zI ag.Var), (zI ag.Kind), (zac ag.Negated), (zS ag.Text)])]) (css := [[(zI ag.Var), (zI ag.Kind), (zac ag.Negated), (zS ag.Text)]]) (xs := [ag]) zbh ti44 (zaj rfl) rfl rfl ⟨rfl, rfl, trivial⟩ (zaj rfl) cz rfl bH ?_)
   intro hx w24 i0 bI ex
   have K25 := ks w ex
   refine ⟨?_, ?_⟩
   ·
    refine zao (i := 0) rfl rfl (zaq (zae rfl zrr)) (zao (i := 1) rfl rfl (zaq (zae rfl zrr)) (zao (i := 2) rfl rfl (zaq (zae rfl zrr)) (zao (i := 3) rfl rfl (zaq (zae rfl zrr)) (zao (i := 4) rfl rfl (zaq (zbl (r := rTClass) (b := aa) (o := 0) (n := aq) (m := ab.length) (xs := a0) (q := (0 + aq * rTClass.sz)) zas ti56 rfl aw rfl dd bG rfl zrr)) (zao (i := 5) rfl rfl (zaq (zat (q := ((0 + aq * rTClass.sz) + 2)) zbq rfl ti23 rfl rfl rfl zrr)) (zao (i := 6) rfl rfl (zaq (zby (v := (osv cv 0 bX.tests.length ax)) zbh rfl rfl (bI.at 4 rfl rfl) cy zrr)) ?_))))))
    refine zao (i := 10) rfl rfl (zaq (zbl (r := rTClass) (b := aa) (o := 0) (n := aB) (m := ab.length) (xs := a0) (q := (0 + aB * rTClass.sz)) zas ti56 rfl aw rfl aJ a5 rfl zrr)) (zao (i := 11) rfl rfl (zaq (zat (q := ((0 + aB * rTClass.sz) + 2)) zbq rfl ti23 rfl rfl rfl zrr)) ?_)
    exact zch
   obtain ⟨hy, ey, h⟩ := zee h
   obtain ⟨ez, eA, eB⟩ := zep ey
   have hz := (cz.mono (K25 None))
   refine RlL.op (OpY.apDeep (r := rTTest) (Op := [some hx, some ef, some b1, ac, some aa]) (Cp := [zab ([] ++ ([(zI ag.Var), (zI ag.Kind), (zac ag.Negated), (zS ag.Text)] ++ [])), zab [(zI ag.Var), (zI ag.Kind), (zac ag.Negated), (zS ag.Text)], zab [ar, ah, ai, al, aj], zab ([] ++ (ae ++ ad)), zab ([] ++ (aI ++ []))]) (FB := FB16) (FC := FC16) (cs := cw) (sp := cx) (xs := bX.tests) (ys := [ag]) (Y := hy) (n := List.length bX.tests) (cap := ax) (j := (aq * 2 + 0)) zbh ti44 rfl rfl rfl rfl bI rfl es et ep rfl eo (zdu (pre := []) (o := 0) (n := 1) (cap := 1) (bI.at 0 rfl rfl) hz rfl rfl rfl) (zcj (fun _ _ _ _ h => h) hz) ez eA eB ?_)
   intro a6 hA a7 a8 w25 eC eD eE eF
   have K26 := ks w eF
   refine ⟨?_, ?_⟩
   ·
    refine zao (i := 0) rfl rfl (zaq (zae rfl zrr)) (zao (i := 1) rfl rfl (zaq (zae rfl zrr)) (zao (i := 2) rfl rfl (zaq (zae rfl zrr)) (zao (i := 3) rfl rfl (zaq (zae rfl zrr)) (zao (i := 4) rfl rfl (zaq (zbl (r := rTClass) (b := aa) (o := 0) (n := aq) (m := ab.length) (xs := a0) (q := (0 + aq * rTClass.sz)) zas ti56 rfl aw rfl dd bG rfl zrr)) (zao (i := 5) rfl rfl (zaq (zat (q := ((0 + aq * rTClass.sz) + 2)) zbq rfl ti23 rfl rfl rfl zrr)) (zao (i := 10) rfl rfl (zaq (zbl (r := rTClass) (b := aa) (o := 0) (n := aB) (m := ab.length) (xs := a0) (q := (0 + aB * rTClass.sz)) zas ti56 rfl aw rfl aJ a5 rfl zrr)) ?_))))))
    refine zao (i := 11) rfl rfl (zaq (zat (q := ((0 + aB * rTClass.sz) + 2)) zbq rfl ti23 rfl rfl rfl zrr)) ?_
    exact zch
   obtain ⟨eG, n26, eH, i1, cA, h⟩ := zux h
   obtain rfl := zin aJ eH
   refine RlL.op0 (OpY.stDeepS (D := dkTClass) (sp := []) (n := aB) (off := 2) (a' := (TClass.mk dh.low dh.high hy dh.words dh.apart)) ti23 rfl rfl rfl (zes (zem _ _ _ _)) (zem _ _ _ _) eE 4 rfl rfl bE eu rfl cA (zaj rfl) (f := 0) (j := (aq * 2 + 0)) (ob := a6) (k := zab ([] ++ (a8 ++ a7))) (zaj rfl) (show aB * 2 + 0 = (aq * 2 + 0) by rw [zin aJ dd]) (fun vs bs c hr => by obtain ⟨v0, b0, k0, v1, b1, k1, rfl, rfl, rfl, d0, d1, w0⟩ := hr; exact ⟨_, _, _, _, _, _, rfl, rfl, rfl, ⟨_, _, _, rfl, rfl, eD, eC⟩, d1, w0⟩) ?_)
   have bJ : ab.length = List.length eG := by rw [cA, List.length_set]; exact aw
   intro i2 a9 eI eJ eK eL
   have eM : (a9 ++ []).length = ak * rTClass.sz := zhc ct eL
   have K27 := ks w eJ
   refine ⟨?_, ?_⟩
   ·
    refine zao (i := 10) rfl rfl (zaq (zbl (r := rTClass) (b := aa) (o := 0) (n := aB) (m := ab.length) (xs := eG) (q := (0 + aB * rTClass.sz)) zas ti56 rfl bJ rfl aJ (Nat.lt_of_lt_of_eq a5 (Eq.trans (Eq.symm aw) bJ)) rfl zrr)) ?_
    exact zch
   refine RlL.fin ?_
   refine zbe (zah rfl (zag (zca (z := (iw (bD + 1))) rfl rfl rfl ?_)))
   refine zag (zae (v := (zI (iw (bD + 1)))) rfl (zar ?_))
   have cB := Loc.pickT (Op := [some hx, some ef, some b1, ac, some aa]) (Cp := [zab ([] ++ ([(zI ag.Var), (zI ag.Kind), (zac ag.Negated), (zS ag.Text)] ++ [])), zab [(zI ag.Var), (zI ag.Kind), (zac ag.Negated), (zS ag.Text)], zab [ar, ah, ai, al, aj], zab ([] ++ (ae ++ ad)), zab ([] ++ (a9 ++ []))]) (FB := (List.set FB16 (aq * 2 + 0) a6)) (FC := (List.set FC16 (aq * 2 + 0) (zab ([] ++ (a8 ++ a7))))) eI [2, 3, 4] rfl rfl rfl rfl
   have eN : vL w i2 (some b1 :: ac :: some aa :: (List.set FB16 (aq * 2 + 0) a6)) (zab [ar, ah, ai, al, aj] :: zab ([] ++ (ae ++ ad)) :: zab ([] ++ (a9 ++ [])) :: (List.set FC16 (aq * 2 + 0) (zab ([] ++ (a8 ++ a7))))) := cB.1
   have K28 := ks w cB.2
   obtain rfl := zad h
   refine zap ⟨(eG, (iw (bD + 1))), rfl, ?_⟩
   exact ⟨a9, (List.set FB16 (aq * 2 + 0) a6), (List.set FC16 (aq * 2 + 0) (zab ([] ++ (a8 ++ a7)))), _, (zef ⟨rfl, rfl, rfl, rfl, rfl, rfl, trivial⟩), eN, (zak (zak (zak (zak (zak (zak (zak K21 K22) K23) K24) K25) K26) K27) K28), eK, bJ, eM, trivial⟩
  replace h := ite_f bF h
  refine zcd rfl ?_
  obtain rfl := zad h
  obtain rfl := ee _ rfl
  replace h := ho
  try dsimp only at h
  refine zap ?_
  exact ⟨a0, aI, FB16, FC16, _, rfl, (zef ⟨rfl, rfl, rfl, trivial⟩), cr, K21, bE, aw, ct, trivial⟩
 rintro _ eO ⟨db, aA, FB15, FC15, u, rfl, rfl, cC, K29, eP, eQ, eR, -⟩
 replace h := ho
 try dsimp only at h
 refine zam (zam (zah rfl (zag (zat (q := 4) zct rfl ti24 rfl rfl rfl (zag (zav (v := aj) zbn rfl rfl (cC.at 0 rfl rfl) rfl ?_))))))
 have hB := (((((g1.mono (K10 S)).mono (K11 S)).mono (K15 S)).mono (K20 S)).mono (K29 S))
 refine zag (zcc (v := aj) zbn rfl hB (zag (zae (v := (zI 0)) rfl (zar ?_))))
 obtain ⟨i3, eS, eT⟩ := zee h
 refine zbt (fun e w' => ∃ (di : (List TClass)) (aC : List Value) (FB17 : List (Option Nat)) (FC17 : List Cont) (u : Env), (Sum.inl di) = i3 ∧ e = upds [(5, (osv ac 0 r6.1.length af)), (7, (osv (some aa) 0 ab.length ak))] u ∧ vL w w' (ac :: some aa :: FB17) (zab ([] ++ (ae ++ ad)) :: zab ([] ++ (aC ++ [])) :: FC17) ∧ Keep w.heap.size (some b1 :: ac :: some aa :: FB15) eO (ac :: some aa :: FB17) w' ∧ DEls dkTClass aC FB17 FC17 di ∧ ab.length = List.length di ∧ (aC ++ []).length = ak * rTClass.sz ∧ True) ?_ ?_
 ·
  refine zbc ?_
  have cD := Loc.pickT (Op := [some b1, ac, some aa]) (Cp := [zab [ar, ah, ai, al, aj], zab ([] ++ (ae ++ ad)), zab ([] ++ (aA ++ []))]) (FB := FB15) (FC := FC15) cC [1, 2] rfl rfl rfl rfl
  have eU : vL w eO (ac :: some aa :: FB15) (zab ([] ++ (ae ++ ad)) :: zab ([] ++ (aA ++ [])) :: FC15) := cD.1
  have K30 := ks w cD.2
  refine zbx eS (fun (ss : ((List TClass) × Int)) (e : Env) (w' : World) => match ss with | (aK, a1) => ∃ (am : List Value) (FB18 : List (Option Nat)) (FC18 : List Cont) (u : Env), e = upds [(5, (osv ac 0 r6.1.length af)), (7, (osv (some aa) 0 ab.length ak)), (99, aj), (100, (zI (p.Different.length : Int))), (101, (zI a1))] u ∧ vL w w' (ac :: some aa :: FB18) (zab ([] ++ (ae ++ ad)) :: zab ([] ++ (am ++ [])) :: FC18) ∧ Keep w.heap.size (some b1 :: ac :: some aa :: FB15) eO (ac :: some aa :: FB18) w' ∧ DEls dkTClass am FB18 FC18 aK ∧ ab.length = List.length aK ∧ (am ++ []).length = ak * rTClass.sz ∧ True) ⟨aA, FB15, FC15, _, (zef ⟨rfl, rfl, rfl, rfl, rfl, trivial⟩), eU, K30, eP, eQ, eR, trivial⟩ ?_
  rintro ⟨aK, a1⟩ oo _ w28 ⟨am, FB18, FC18, u, rfl, cE, K31, aD, an, ba, -⟩ h cF
  rw [tgathered_b4] at h
  refine zam (zah rfl (zag (zcf ((a1 : Int) < (p.Different.length : Int)) rfl rfl zbg (zar (zam (zbi ((a1 : Int) < (p.Different.length : Int)) rfl (fun bK => ?_) (fun bK => ?_)))))))
  ·
   replace h := ite_t bK h
   refine zbm (zam (zbc (zam (zah rfl ?_))))
   obtain ⟨av, hC, eV, cG, -, h⟩ := zix h
   have i4 := (hB.mono (K31 S))
   obtain ⟨b24, i5, c16, i6, eW, i7, i9, eX⟩ := zcy i4 cG
   obtain ⟨rfl, -⟩ := rArr2Int_open eX
   refine zag (zbs (r := rArr2Int) (v := aj) (n := hC) (m := (i5 + hC * rArr2Int.sz)) zbn ti45 rfl eW rfl eV cG rfl (zag (OpY.ldRoA (vs := [(zI av.e0), (zI av.e1)]) zcb rfl ti45 rfl rfl zek i9 (zag (zdw (cs := [(zI 0), (zI 0)]) ti45 rfl cE ?_)))))
   intro aN w29 eY eZ
   have K32 := ks w eZ
   refine zdj (zdi (vs := [(zI av.e0), (zI av.e1)]) ti45 rfl rfl rfl rfl (zej rfl (zej rfl zeu)) eY 0 rfl rfl (zaj rfl) ?_)
   intro w30 cH e2
   have K33 := ks w e2
   refine zar (zam ?_)
   obtain ⟨aL, e3, e4, cI, e5, h⟩ := zix h
   have dj := (((((cc.mono (K20 None)).mono (K29 None)).mono (K31 None)).mono (K32 None)).mono (K33 None))
   obtain ⟨dk, bb⟩ := cH.row_some 1 rfl rfl (zev (pre := []) dj cI (Nat.lt_of_sub_eq_succ rfl))
   obtain ⟨ja, jb, e6, e7⟩ := zeo (pre := []) (sp := ad) dj cI
   obtain rfl := e6
   obtain ⟨aF, e8, e9, fa, fb, h⟩ := zix h
   obtain ⟨jc, jd, fc, fd⟩ := zeo (pre := []) (sp := ad) dj fa
   obtain rfl := fc
   refine zcx 11 [] [] (fun W1 => [.det (osv ac 0 r6.1.length af), .det (zal (some ⟨aN, 0, none⟩)), .det (zI av.e0), .det (zal (some ⟨dk, (0 + e3 * rI.sz), none⟩)), .det (zI aL), .det (osv ac 0 r6.1.length af), .det (zal (some ⟨aN, 1, none⟩)), .det (zI av.e1), .det (zal (some ⟨dk, (0 + e8 * rI.sz), none⟩)), .det (zI aF), .det (zI aL)]) mixed rfl rfl rfl (fun _ => rfl) (fun _ => rfl) ?_ ?_
   ·
    intro W1 _
    exact trivial
   intro je fe
   obtain ⟨aV, K34⟩ := zl cH fe
   refine zaw (fun _ _ => zaq (zae rfl (er rfl))) (zaw (fun _ _ => zaq (zck (i := 0) (q := 0) zcb ti3 rfl rfl (by decide) rfl (er rfl))) (zaw (fun _ ff => zaq (zav zay rfl rfl ((aV.ext ff).at 0 rfl rfl) rfl (er rfl))) (zaw (fun _ _ => zaq (zbl (r := rI) (b := dk) (o := 0) (n := e3) (m := r6.1.length) (xs := r6.1) (q := (0 + e3 * rI.sz)) zan ti3 (zen bb) rfl rfl e4 e5 rfl (er rfl))) (zaw (fun _ fg => zaq (zby zay rfl rfl (zer bb ((aV.ext fg).at 1 rfl rfl)) e7 (er rfl))) (zaw (fun _ _ => zaq (zae rfl (er rfl))) (zaw (fun _ _ => zaq (zck (i := 1) (q := 1) zcb ti3 rfl rfl (by decide) rfl (er rfl))) ?_))))))
   refine zaw (fun _ fh => zaq (zav zay rfl rfl ((aV.ext fh).at 0 rfl rfl) rfl (er rfl))) (zaw (fun _ _ => zaq (zbl (r := rI) (b := dk) (o := 0) (n := e8) (m := r6.1.length) (xs := r6.1) (q := (0 + e8 * rI.sz)) zan ti3 (zen bb) rfl rfl e9 fb rfl (er rfl))) (zaw (fun _ fi => zaq (zby zay rfl rfl (zer bb ((aV.ext fi).at 1 rfl rfl)) fd (er rfl))) (zaw (fun _ _ => zaq (zai rfl (er rfl))) (zdd ?_))))
   rintro jf Z31 fj jg ⟨-⟩ jh
   have ji := @zhb je Z31
   obtain ⟨bc, K35⟩ := zl aV fj
   refine zag (zai (v := (zI aF)) rfl (zar (zam (zam (zah rfl (zag (zae (v := (zI aL)) rfl (zag (zae (v := (zI aF)) rfl (zag (zdb ((aL : Int) = aF) rfl rfl zbg (zar (zbi ((aL : Int) = aF) rfl (fun bL => ?_) (fun bL => ?_))))))))))))))
   ·
    replace h := ite_t bL h
    refine zam (zah rfl (zag (zae (v := (osv (some aa) 0 ab.length ak)) rfl (zag (zae (v := (osv ac 0 r6.1.length af)) rfl (zag (zai (v := (osv (some aa) 0 ab.length ak)) rfl (zag (zai (v := (osv ac 0 r6.1.length af)) rfl (zag (zai (v := zF) rfl (zar ?_))))))))))))
    have bM := Loc.settle (S := None) (Op := [some aN, ac, some aa]) (Cp := [zab [(zI av.e0), (zI av.e1)], zab ([] ++ (ae ++ ad)), zab ([] ++ (am ++ []))]) (FB := FB18) (FC := FC18) bc rfl aD
    have jj := bM.1
    have cJ : vL w jf [some aN, ac, some aa] [zab [(zI av.e0), (zI av.e1)], zab ([] ++ (ae ++ ad)), zab ([] ++ (am ++ []))] := bM.2.1
    have K36 := ks w bM.2.2
    refine zbv ?_
    obtain rfl := zad h
    obtain rfl := cF _ rfl
    replace h := eT
    try dsimp only at h
    obtain rfl := zad h
    refine ⟨[(osv (some aa) 0 ab.length ak), (osv ac 0 r6.1.length af), zF], ⟨rfl, rfl, rfl, trivial⟩, ⟨_, rfl, cJ.done, ?_⟩⟩
    have jk := (((dj.mono (K34 None)).mono (K35 None)).mono (K36 None))
    exact ⟨some aa, ak, am, [], ac, af, ae, ad, (by rw [← an]; rfl), (cJ.newOwn [2, 1] rfl rfl rfl), (jj.mono (zdy [2, 1] rfl)), ba, (jk.mono (zdy [2, 1] rfl)), b3, trivial⟩
   replace h := ite_f bL h
   refine zbm (zam (zah rfl (zag (zae (v := (osv (some aa) 0 ab.length ak)) rfl ?_))))
   refine zag (zae (v := (zI aL)) rfl ?_)
   obtain ⟨cK, cL, fk, fm, fo, h⟩ := zix h
   refine zag (zbl (r := rTClass) (b := aa) (o := 0) (n := cL) (m := ab.length) (xs := aK) (q := (0 + cL * rTClass.sz)) zas ti56 rfl an rfl fk fo rfl (zag (zat (q := ((0 + cL * rTClass.sz) + 4)) zbq rfl ti22 rfl rfl rfl ?_)))
   obtain ⟨jl, jm, c17, fp, fq, fs, fu⟩ := DEls.elem (sp := []) aD fm
   obtain ⟨v16, b27, k16, v17, dl, k17, rfl, rfl, rfl, d16, jn, jo⟩ := fp
   obtain ⟨aG, fv, fw, rfl, rfl, fx, fy⟩ := jn
   have fz : (FB18)[(cL * 2 + 1)]? = some dl := fs 1 _ rfl
   have fA : (FC18)[(cL * 2 + 1)]? = some (zab ([] ++ (fv ++ fw))) := fu 1 _ rfl
   have fB := elem_part (us := [(osv dl 0 cK.apart.length aG)]) (q := 4) fq rfl
   refine zag (zby (v := (osv dl 0 cK.apart.length aG)) zan rfl rfl (bc.at 2 rfl rfl) fB (zag (zae (v := (zI aF)) rfl ?_)))
   obtain ⟨fC, fD, h⟩ := zee h
   refine zag (zce en59 rfl rfl (containsOf_w N cK.apart aF (osv dl 0 cK.apart.length aG) _ Any (zei (pre := []) (o := 0) (n := List.length cK.apart) (cap := aG) (Loc.atT (Op := [some aN, ac, some aa]) (Cp := [zab [(zI av.e0), (zI av.e1)], zab ([] ++ (ae ++ ad)), zab ([] ++ (am ++ []))]) (FB := FB18) (FC := FC18) bc rfl fz fA) fy H0.le rfl rfl rfl fx) fC fD) ?_)
   rintro _ jp fE ⟨rfl, -⟩
   obtain ⟨bd, K37⟩ := zl bc fE
   refine zag (OpY.not (x := fC) rfl (zar (zci (!fC) rfl (fun bN => ?_) (fun bN => ?_))))
   ·
    replace h := ite_t bN h
    obtain ⟨cM, ao, be, fF, bO, h⟩ := zix h
    obtain ⟨jq, jr, c18, fG, fH, fI, fJ⟩ := DEls.elem (sp := []) aD fF
    obtain ⟨v18, b29, k18, v19, dm, k19, rfl, rfl, rfl, d18, js, jt⟩ := fG
    obtain ⟨aH, cN, cO, rfl, rfl, fK, fL⟩ := js
    have fM : (FB18)[(ao * 2 + 1)]? = some dm := fI 1 _ rfl
    have fN : (FC18)[(ao * 2 + 1)]? = some (zab ([] ++ (cN ++ cO))) := fJ 1 _ rfl
    have fO := elem_part (us := [(osv dm 0 cM.apart.length aH)]) (q := 4) fH rfl
    obtain ⟨bY, ap, aW, fP, bf, h⟩ := zix h
    obtain ⟨ju, jv, c19, fQ, fR, fS, fT⟩ := DEls.elem (sp := []) aD fP
    obtain ⟨v20, b31, k20, v21, cP, k21, rfl, rfl, rfl, d20, jw, jx⟩ := fQ
    obtain ⟨ay, cQ, cR, rfl, rfl, fU, fV⟩ := jw
    have fW : (FB18)[(ap * 2 + 1)]? = some cP := fS 1 _ rfl
    have fX : (FC18)[(ap * 2 + 1)]? = some (zab ([] ++ (cQ ++ cR))) := fT 1 _ rfl
    have cS := elem_part (us := [(osv cP 0 bY.apart.length ay)]) (q := 4) fR rfl
    refine Swp.drawF (O := (some aN :: ac :: some aa :: FB18)) [11, 19, 22, 25] [0, 1, 2, 3, 4, 5, 6, 7, 8, 9, 12, 13, 14, 15, 16, 17, 20, 21, 23, 24] [0, 1, 2, 3, 4, 5, 6, 7, 8, 9, 12, 13, 14, 15, 16, 17] [(10, 138), (18, 146)] [(128, (osv (some aa) 0 ab.length ak)), (129, (zI aL)), (130, (osv (some aa) 0 ab.length ak)), (131, (zI aF)), (132, (osv (some aa) 0 ab.length ak)), (133, (zI aL)), (134, (zal (some ⟨aa, (0 + ao * rTClass.sz), none⟩))), (135, (zal (some ⟨aa, ((0 + ao * rTClass.sz) + 4), none⟩))), (136, (osv dm 0 cM.apart.length aH)), (137, (zI aF)), (140, (osv (some aa) 0 ab.length ak)), (141, (zI aF)), (142, (zal (some ⟨aa, (0 + ap * rTClass.sz), none⟩))), (143, (zal (some ⟨aa, ((0 + ap * rTClass.sz) + 4), none⟩))), (144, (osv cP 0 bY.apart.length ay)), (145, (zI aL))] (fun f v O w' => Rs rI (vH w None O w') v (bif Nat.beq f 10 then [aF] else (bif Nat.beq f 18 then [aL] else []))) w.heap.size mixed rfl rfl rfl rfl (fun b hb => bd.own.lt b hb) bd.size (fun _ _ _ _ _ _ h hs => h.mono (hs _)) (FloatP.cons rfl (fun w1 O1 hK hs hO => zaq (OpY.litInts (ys := [aF]) zan ti3 rfl rfl (by decide) (by decide) hs hO)) (FloatP.cons rfl (fun w1 O1 hK hs hO => zaq (OpY.litInts (ys := [aL]) zan ti3 rfl rfl (by decide) (by decide) hs hO)) FloatP.nil)) ?_
    intro w45 fY
    obtain ⟨cT, K38⟩ := zl bd fY
    refine ⟨?_, ?_⟩
    ·
     intro w46 fZ
     have cU := cT.ext fZ
     refine zao (i := 0) rfl rfl (zaq (zae rfl zrr)) (zao (i := 1) rfl rfl (zaq (zae rfl zrr)) (zao (i := 2) rfl rfl (zaq (zae rfl zrr)) (zao (i := 3) rfl rfl (zaq (zae rfl zrr)) (zao (i := 4) rfl rfl (zaq (zae rfl zrr)) (zao (i := 5) rfl rfl (zaq (zae rfl zrr)) (zao (i := 6) rfl rfl (zaq (zbl (r := rTClass) (b := aa) (o := 0) (n := ao) (m := ab.length) (xs := aK) (q := (0 + ao * rTClass.sz)) zas ti56 rfl an rfl be bO rfl zrr)) ?_))))))
     refine zao (i := 7) rfl rfl (zaq (zat (q := ((0 + ao * rTClass.sz) + 4)) zbq rfl ti22 rfl rfl rfl zrr)) (zao (i := 8) rfl rfl (zaq (zby (v := (osv dm 0 cM.apart.length aH)) zan rfl rfl (cU.at 2 rfl rfl) fO zrr)) (zao (i := 9) rfl rfl (zaq (zae rfl zrr)) (zao (i := 12) rfl rfl (zaq (zae rfl zrr)) (zao (i := 13) rfl rfl (zaq (zae rfl zrr)) (zao (i := 14) rfl rfl (zaq (zbl (r := rTClass) (b := aa) (o := 0) (n := ap) (m := ab.length) (xs := aK) (q := (0 + ap * rTClass.sz)) zas ti56 rfl an rfl aW bf rfl zrr)) (zao (i := 15) rfl rfl (zaq (zat (q := ((0 + ap * rTClass.sz) + 4)) zbq rfl ti22 rfl rfl rfl zrr)) ?_))))))
     refine zao (i := 16) rfl rfl (zaq (zby (v := (osv cP 0 bY.apart.length ay)) zan rfl rfl (cU.at 2 rfl rfl) cS zrr)) (zao (i := 17) rfl rfl (zaq (zae rfl zrr)) ?_)
     exact zch
    refine zdn (m := 3) [11] rfl rfl (fun q hq => ?_)
    obtain rfl := List.mem_singleton.1 hq
    refine zdv rfl ?_
    intro jy V10 f0 f1
    obtain ⟨f2, K39⟩ := zl cT f0
    have jz : Rs rI (vH w None (some aN :: ac :: some aa :: FB18) jy) (V10 10) [aF] := f1 (10, 138) (by decide) rfl
    obtain ⟨hD, f3, h⟩ := zee h
    obtain ⟨f4, f5, f6⟩ := zep f3
    obtain ⟨jA, f7, f8⟩ := Rs.src jz
    refine OpY.apDeep (r := rI) (Op := [some aN, ac, some aa]) (Cp := [zab [(zI av.e0), (zI av.e1)], zab ([] ++ (ae ++ ad)), zab ([] ++ (am ++ []))]) (FB := FB18) (FC := FC18) (cs := cN) (sp := cO) (xs := cM.apart) (ys := [aF]) (Y := hD) (n := List.length cM.apart) (cap := aH) (j := (ao * 2 + 1)) zan ti3 rfl rfl rfl rfl f2 rfl fM fN fL rfl fK f7 (zcj (fun _ _ _ _ h => h) f8) f4 f5 f6 ?_
    intro aM hE aX aY w48 f9 ga bg gb
    have K40 := ks w gb
    refine ⟨_, [], [], K40, (fun b hb => bg.own.lt b hb), bg.size, rfl, rfl, ?_⟩
    refine ⟨?_, ?_⟩
    ·
     intro w49 gc
     have gd := bg.ext gc
     refine zao (i := 0) rfl rfl (zaq (zae rfl zrr)) (zao (i := 1) rfl rfl (zaq (zae rfl zrr)) (zao (i := 2) rfl rfl (zaq (zae rfl zrr)) (zao (i := 3) rfl rfl (zaq (zae rfl zrr)) (zao (i := 4) rfl rfl (zaq (zae rfl zrr)) (zao (i := 5) rfl rfl (zaq (zae rfl zrr)) (zao (i := 6) rfl rfl (zaq (zbl (r := rTClass) (b := aa) (o := 0) (n := ao) (m := ab.length) (xs := aK) (q := (0 + ao * rTClass.sz)) zas ti56 rfl an rfl be bO rfl zrr)) ?_))))))
     refine zao (i := 7) rfl rfl (zaq (zat (q := ((0 + ao * rTClass.sz) + 4)) zbq rfl ti22 rfl rfl rfl zrr)) (zao (i := 9) rfl rfl (zaq (zae rfl zrr)) (zao (i := 12) rfl rfl (zaq (zae rfl zrr)) (zao (i := 13) rfl rfl (zaq (zae rfl zrr)) (zao (i := 14) rfl rfl (zaq (zbl (r := rTClass) (b := aa) (o := 0) (n := ap) (m := ab.length) (xs := aK) (q := (0 + ap * rTClass.sz)) zas ti56 rfl an rfl aW bf rfl zrr)) (zao (i := 15) rfl rfl (zaq (zat (q := ((0 + ap * rTClass.sz) + 4)) zbq rfl ti22 rfl rfl rfl zrr)) (zao (i := 16) rfl rfl (zaq (zby (v := (osv cP 0 bY.apart.length ay)) zan rfl rfl (gd.at 2 rfl rfl) cS zrr)) ?_))))))
     refine zao (i := 17) rfl rfl (zaq (zae rfl zrr)) ?_
     exact zch
    refine zdn (m := 2) [19] rfl rfl (fun q hq => ?_)
    obtain rfl := List.mem_singleton.1 hq
    refine zdv rfl ?_
    intro jB V11 gf gg
    obtain ⟨gh, K41⟩ := zl bg gf
    have jC : Rs rI (vH w None (some aN :: ac :: some aa :: (List.set FB18 (ao * 2 + 1) aM)) jB) (V11 18) [aL] := gg (18, 146) (by decide) rfl
    obtain ⟨hF, gi, h⟩ := zee h
    obtain ⟨gj, gk, gl⟩ := zep gi
    obtain ⟨jD, gm, gn⟩ := Rs.src jC
    refine OpY.apDeep (r := rI) (Op := [some aN, ac, some aa]) (Cp := [zab [(zI av.e0), (zI av.e1)], zab ([] ++ (ae ++ ad)), zab ([] ++ (am ++ []))]) (FB := (List.set FB18 (ao * 2 + 1) aM)) (FC := (List.set FC18 (ao * 2 + 1) (zab ([] ++ (aY ++ aX))))) (cs := cQ) (sp := cR) (xs := bY.apart) (ys := [aL]) (Y := hF) (n := List.length bY.apart) (cap := ay) (j := (ap * 2 + 1)) zan ti3 rfl rfl rfl rfl gh rfl ((List.getElem?_set_ne (by omega)).trans fW) ((List.getElem?_set_ne (by omega)).trans fX) fV rfl fU gm (zcj (fun _ _ _ _ h => h) gn) gj gk gl ?_
    intro bh hG bi bj w51 go gp bP gq
    have K42 := ks w gq
    obtain ⟨dn, bk, bl, gr, cV, h⟩ := zix h
    refine ⟨_, [20, 21], [(148, (zal (some ⟨aa, (0 + bk * rTClass.sz), none⟩))), (149, (zal (some ⟨aa, ((0 + bk * rTClass.sz) + 4), none⟩)))], K42, (fun b hb => bP.own.lt b hb), bP.size, rfl, rfl, ?_⟩
    refine ⟨?_, ?_⟩
    ·
     intro w52 jE
     refine zao (i := 0) rfl rfl (zaq (zae rfl zrr)) (zao (i := 1) rfl rfl (zaq (zae rfl zrr)) (zao (i := 2) rfl rfl (zaq (zae rfl zrr)) (zao (i := 3) rfl rfl (zaq (zae rfl zrr)) (zao (i := 4) rfl rfl (zaq (zae rfl zrr)) (zao (i := 5) rfl rfl (zaq (zae rfl zrr)) (zao (i := 6) rfl rfl (zaq (zbl (r := rTClass) (b := aa) (o := 0) (n := ao) (m := ab.length) (xs := aK) (q := (0 + ao * rTClass.sz)) zas ti56 rfl an rfl be bO rfl zrr)) ?_))))))
     refine zao (i := 7) rfl rfl (zaq (zat (q := ((0 + ao * rTClass.sz) + 4)) zbq rfl ti22 rfl rfl rfl zrr)) (zao (i := 9) rfl rfl (zaq (zae rfl zrr)) (zao (i := 12) rfl rfl (zaq (zae rfl zrr)) (zao (i := 13) rfl rfl (zaq (zae rfl zrr)) (zao (i := 14) rfl rfl (zaq (zbl (r := rTClass) (b := aa) (o := 0) (n := ap) (m := ab.length) (xs := aK) (q := (0 + ap * rTClass.sz)) zas ti56 rfl an rfl aW bf rfl zrr)) (zao (i := 15) rfl rfl (zaq (zat (q := ((0 + ap * rTClass.sz) + 4)) zbq rfl ti22 rfl rfl rfl zrr)) (zao (i := 17) rfl rfl (zaq (zae rfl zrr)) ?_))))))
     refine zao (i := 20) rfl rfl (zaq (zbl (r := rTClass) (b := aa) (o := 0) (n := bk) (m := ab.length) (xs := aK) (q := (0 + bk * rTClass.sz)) zas ti56 rfl an rfl bl cV rfl zrr)) (zao (i := 21) rfl rfl (zaq (zat (q := ((0 + bk * rTClass.sz) + 4)) zbq rfl ti22 rfl rfl rfl zrr)) ?_)
     exact zch
    refine zdn (m := 1) [22] rfl rfl (fun q hq => ?_)
    obtain rfl := List.mem_singleton.1 hq
    refine RlF1.op0 rfl ?_
    intro w53 V12 gs jF
    obtain ⟨gu, K43⟩ := zl bP gs
    obtain ⟨dp, n34, gv, jG, cW, h⟩ := zux h
    obtain rfl := zin bl gv
    refine OpY.stDeepS (D := dkTClass) (sp := []) (n := bk) (off := 4) (a' := (TClass.mk dn.low dn.high dn.tests dn.words hD)) ti22 rfl rfl rfl (zes (zem _ _ _ _)) (zem _ _ _ _) gu 2 rfl rfl aD gr rfl cW (zaj rfl) (f := 1) (j := (ao * 2 + 1)) (ob := aM) (k := zab ([] ++ (aY ++ aX))) (zaj rfl) (show bk * 2 + 1 = (ao * 2 + 1) by rw [zin bl be]) (fun vs bs c hr => by obtain ⟨v0, b0, k0, v1, b1, k1, rfl, rfl, rfl, d0, d1, w0⟩ := hr; exact ⟨_, _, _, _, _, _, rfl, rfl, rfl, d0, ⟨_, _, _, rfl, rfl, ga, f9⟩, w0⟩) ?_
    have aE : ab.length = List.length dp := by rw [cW, List.length_set]; exact an
    intro w54 gw bQ gx gz gA
    have gB : (gw ++ []).length = ak * rTClass.sz := zhc ba gA
    have K44 := ks w gx
    obtain ⟨dq, bm, bn, gC, cX, h⟩ := zix h
    refine ⟨_, [23, 24], [(150, (zal (some ⟨aa, (0 + bm * rTClass.sz), none⟩))), (151, (zal (some ⟨aa, ((0 + bm * rTClass.sz) + 4), none⟩)))], K44, (fun b hb => bQ.own.lt b hb), bQ.size, rfl, rfl, ?_⟩
    refine ⟨?_, ?_⟩
    ·
     intro w55 jH
     refine zao (i := 2) rfl rfl (zaq (zae rfl zrr)) (zao (i := 3) rfl rfl (zaq (zae rfl zrr)) (zao (i := 12) rfl rfl (zaq (zae rfl zrr)) (zao (i := 13) rfl rfl (zaq (zae rfl zrr)) (zao (i := 14) rfl rfl (zaq (zbl (r := rTClass) (b := aa) (o := 0) (n := ap) (m := ab.length) (xs := dp) (q := (0 + ap * rTClass.sz)) zas ti56 rfl aE rfl aW (Nat.lt_of_lt_of_eq bf (Eq.trans (Eq.symm an) aE)) rfl zrr)) (zao (i := 15) rfl rfl (zaq (zat (q := ((0 + ap * rTClass.sz) + 4)) zbq rfl ti22 rfl rfl rfl zrr)) (zao (i := 17) rfl rfl (zaq (zae rfl zrr)) ?_))))))
     refine zao (i := 20) rfl rfl (zaq (zbl (r := rTClass) (b := aa) (o := 0) (n := bk) (m := ab.length) (xs := dp) (q := (0 + bk * rTClass.sz)) zas ti56 rfl aE rfl bl (Nat.lt_of_lt_of_eq cV (Eq.trans (Eq.symm an) aE)) rfl zrr)) (zao (i := 23) rfl rfl (zaq (zbl (r := rTClass) (b := aa) (o := 0) (n := bm) (m := ab.length) (xs := dp) (q := (0 + bm * rTClass.sz)) zas ti56 rfl aE rfl bn cX rfl zrr)) (zao (i := 24) rfl rfl (zaq (zat (q := ((0 + bm * rTClass.sz) + 4)) zbq rfl ti22 rfl rfl rfl zrr)) ?_))
     exact zch
    refine zdn (m := 0) [25] rfl rfl (fun q hq => ?_)
    obtain rfl := List.mem_singleton.1 hq
    refine RlF1.op0 rfl ?_
    intro w56 V13 gE jI
    obtain ⟨gF, K45⟩ := zl bQ gE
    obtain ⟨gG, n36, gH, jJ, cY, h⟩ := zux h
    obtain rfl := zin bn gH
    refine OpY.stDeepS (D := dkTClass) (sp := []) (n := bm) (off := 4) (a' := (TClass.mk dq.low dq.high dq.tests dq.words hF)) ti22 rfl rfl rfl (zes (zem _ _ _ _)) (zem _ _ _ _) gF 2 rfl rfl gz gC rfl cY (zaj rfl) (f := 1) (j := (ap * 2 + 1)) (ob := bh) (k := zab ([] ++ (bj ++ bi))) (zaj rfl) (show bm * 2 + 1 = (ap * 2 + 1) by rw [zin bn aW]) (fun vs bs c hr => by obtain ⟨v0, b0, k0, v1, b1, k1, rfl, rfl, rfl, d0, d1, w0⟩ := hr; exact ⟨_, _, _, _, _, _, rfl, rfl, rfl, d0, ⟨_, _, _, rfl, rfl, gp, go⟩, w0⟩) ?_
    have bR : ab.length = List.length gG := by rw [cY, List.length_set]; exact aE
    intro w57 bo bS gI gJ gK
    have gM : (bo ++ []).length = ak * rTClass.sz := zhc gB gK
    have K46 := ks w gI
    refine ⟨_, [], [], K46, (fun b hb => bS.own.lt b hb), bS.size, rfl, rfl, ?_⟩
    refine ⟨?_, ?_⟩
    ·
     intro w58 jK
     refine zao (i := 23) rfl rfl (zaq (zbl (r := rTClass) (b := aa) (o := 0) (n := bm) (m := ab.length) (xs := gG) (q := (0 + bm * rTClass.sz)) zas ti56 rfl bR rfl bn (Nat.lt_of_lt_of_eq cX (Eq.trans (Eq.symm aE) bR)) rfl zrr)) ?_
     exact zch
    refine RlF.fin ?_
    intro jL V14 gN
    obtain ⟨gO, K47⟩ := zl bS gN
    refine zbe (zah rfl (zag (zca (z := (iw (a1 + 1))) rfl rfl rfl ?_)))
    refine zag (zae (v := (zI (iw (a1 + 1)))) rfl (zar ?_))
    have cZ := Loc.pickT (Op := [some aN, ac, some aa]) (Cp := [zab [(zI av.e0), (zI av.e1)], zab ([] ++ (ae ++ ad)), zab ([] ++ (bo ++ []))]) (FB := (List.set (List.set FB18 (ao * 2 + 1) aM) (ap * 2 + 1) bh)) (FC := (List.set (List.set FC18 (ao * 2 + 1) (zab ([] ++ (aY ++ aX)))) (ap * 2 + 1) (zab ([] ++ (bj ++ bi))))) gO [1, 2] rfl rfl rfl rfl
    have gP : vL w jL (ac :: some aa :: (List.set (List.set FB18 (ao * 2 + 1) aM) (ap * 2 + 1) bh)) (zab ([] ++ (ae ++ ad)) :: zab ([] ++ (bo ++ [])) :: (List.set (List.set FC18 (ao * 2 + 1) (zab ([] ++ (aY ++ aX)))) (ap * 2 + 1) (zab ([] ++ (bj ++ bi))))) := cZ.1
    have K48 := ks w cZ.2
    obtain rfl := zad h
    refine zap ⟨(gG, (iw (a1 + 1))), rfl, ?_⟩
    exact ⟨bo, (List.set (List.set FB18 (ao * 2 + 1) aM) (ap * 2 + 1) bh), (List.set (List.set FC18 (ao * 2 + 1) (zab ([] ++ (aY ++ aX)))) (ap * 2 + 1) (zab ([] ++ (bj ++ bi)))), _, (zef ⟨rfl, rfl, rfl, rfl, rfl, trivial⟩), gP, (zak (zak (zak (zak (zak (zak (zak (zak (zak (zak (zak (zak (zak (zak (zak (zak K31 K32) K33) K34) K35) K37) K38) K39) K40) K41) K42) K43) K44) K45) K46) K47) K48), gJ, bR, gM, trivial⟩
   replace h := ite_f bN h
   refine zbm (zbe (zah rfl (zag (zca (z := (iw (a1 + 1))) rfl rfl rfl ?_))))
   refine zag (zae (v := (zI (iw (a1 + 1)))) rfl (zar ?_))
   have c0 := Loc.pickT (Op := [some aN, ac, some aa]) (Cp := [zab [(zI av.e0), (zI av.e1)], zab ([] ++ (ae ++ ad)), zab ([] ++ (am ++ []))]) (FB := FB18) (FC := FC18) bd [1, 2] rfl rfl rfl rfl
   have gQ : vL w jp (ac :: some aa :: FB18) (zab ([] ++ (ae ++ ad)) :: zab ([] ++ (am ++ [])) :: FC18) := c0.1
   have K49 := ks w c0.2
   obtain rfl := zad h
   refine zap ⟨(aK, (iw (a1 + 1))), rfl, ?_⟩
   exact ⟨am, FB18, FC18, _, (zef ⟨rfl, rfl, rfl, rfl, rfl, trivial⟩), gQ, (zak (zak (zak (zak (zak (zak K31 K32) K33) K34) K35) K37) K49), aD, an, ba, trivial⟩
  replace h := ite_f bK h
  refine zcd rfl ?_
  obtain rfl := zad h
  obtain rfl := cF _ rfl
  replace h := eT
  try dsimp only at h
  refine zap ?_
  exact ⟨aK, am, FB18, FC18, _, rfl, (zef ⟨rfl, rfl, trivial⟩), cE, K31, aD, an, ba, trivial⟩
 rintro _ jM ⟨di, aC, FB17, FC17, u, rfl, rfl, gR, K50, gU, gV, gW, -⟩
 replace h := eT
 try dsimp only at h
 refine zam (zah rfl (zag (zae (v := (osv (some aa) 0 ab.length ak)) rfl (zag (zae (v := (osv ac 0 r6.1.length af)) rfl (zag (zai (v := (osv (some aa) 0 ab.length ak)) rfl (zag (zai (v := (osv ac 0 r6.1.length af)) rfl (zag (zai (v := zT) rfl (zar ?_))))))))))))
 have bT := Loc.settle (S := None) (Op := [ac, some aa]) (Cp := [zab ([] ++ (ae ++ ad)), zab ([] ++ (aC ++ []))]) (FB := FB17) (FC := FC17) gR rfl gU
 have jN := bT.1
 have c1 : vL w jM [ac, some aa] [zab ([] ++ (ae ++ ad)), zab ([] ++ (aC ++ []))] := bT.2.1
 have K51 := ks w bT.2.2
 refine zbv ?_
 obtain rfl := zad h
 refine ⟨[(osv (some aa) 0 ab.length ak), (osv ac 0 r6.1.length af), zT], ⟨rfl, rfl, rfl, trivial⟩, ⟨_, rfl, c1.done, ?_⟩⟩
 have jO := ((((cc.mono (K20 None)).mono (K29 None)).mono (K50 None)).mono (K51 None))
 exact ⟨some aa, ak, aC, [], ac, af, ae, ad, (by rw [← gV]; rfl), (c1.newOwn [1, 0] rfl rfl rfl), (jN.mono (zdy [1, 0] rfl)), gW, (jO.mono (zdy [1, 0] rfl)), b3, trivial⟩
theorem tfirst_w (N : Nat) (c : TClass) (most : Int) (aA : Value) (af : Value) (ag : Value) (w : World) (S : Nat → Prop) (cZ : Rs rTTest (vH w S [] w) aA c.tests) (c0 : Rs rStr (vH w S [] w) af c.words) (c1 : Rs rI (vH w S [] w) ag c.apart) (r : (List (List UInt8))) (h : tfirst N c most = some r) :
  Calls Try.prog 32 #[(zbr #[(zI c.low), (zI c.high), aA, af, ag]), (zI most)] w (Ret w (fun v w' => ∃ (bZ : Option Nat) (bo : Nat) (b0 : List Value) (sp0 : List Value), (zO bZ r bo) = v ∧ NewOwn w w' [bZ] [zab ([] ++ (b0 ++ sp0))] ∧ Els rStr (vH w None [bZ] w') b0 r ∧ (b0 ++ sp0).length = bo * rStr.sz ∧ True)) := by
 unfold tfirst at h
 have hL : vL w w [] [] := Go.X.Loc.begin0 w
 refine calls_of (l := [(zbr #[(zI c.low), (zI c.high), aA, af, ag]), (zI most)]) (rl := [.tmp 4]) (n := 57) Try.func32 rfl rfl rfl (zaj rfl) ?_
 refine zam (zah rfl (zag (zdo (cs := [(zI c.low), (zI c.high), aA, af, ag]) rfl rfl hL ?_)))
 intro b1 w2 cT c2
 have K4 := ks w c2
 refine zag (zai (v := zN) rfl (zar (zam (zah rfl (zag (zai (v := zN) rfl (zar (zam (zam (zah rfl (zag (zat (q := 0) zbq rfl ti3 rfl rfl rfl (zag (zav (v := (zI c.low)) zay rfl rfl (cT.at 0 rfl rfl) rfl (zag (zai (v := (zI c.low)) rfl (zar ?_)))))))))))))))))
 obtain ⟨c3, b2, cU⟩ := zee h
 refine zbt (fun e w' => ∃ (am : (List (List UInt8))) (aw : Option Nat) (an : Nat) (aV : List Value) (aQ : List Value) (a8 : Nat) (u : Env), am = c3 ∧ e = upds [(5, (osv aw 0 a8 an))] u ∧ vL w w' [aw] [zab ([] ++ (aQ ++ aV))] ∧ Keep w.heap.size [some b1] w2 [aw] w' ∧ Els rStr (vH w None [aw] w') aQ am ∧ a8 = List.length am ∧ (aQ ++ aV).length = an * rStr.sz ∧ True) ?_ ?_
 ·
  refine zbc ?_
  have bp := cT.addNil
  have b3 : vL w w2 [none, some b1] [zab ([] ++ ([] ++ [])), zab [(zI c.low), (zI c.high), aA, af, ag]] := bp.1
  have K10 := ks w bp.2
  have bq := b3.pick [1, 0] rfl rfl rfl
  have b4 : vL w w2 [some b1, none] [zab [(zI c.low), (zI c.high), aA, af, ag], zab ([] ++ ([] ++ []))] := bq.1
  have K11 := ks w bq.2
  have c4 := ((zcn (r := rStr)).mono (K11 None))
  refine zbx b2 (fun (ss : ((List (List UInt8)) × Int)) (e : Env) (w' : World) => match ss with | (ac, aE) => ∃ (ae : Option Nat) (ao : Nat) (aB : List Value) (ax : List Value) (a9 : Nat) (u : Env), e = upds [(1, (zI most)), (2, (zal (some ⟨b1, 0, none⟩))), (5, (osv ae 0 a9 ao)), (6, (zI aE))] u ∧ vL w w' [some b1, ae] [zab [(zI c.low), (zI c.high), aA, af, ag], zab ([] ++ (ax ++ aB))] ∧ Keep w.heap.size [some b1] w2 [some b1, ae] w' ∧ Els rStr (vH w None [some b1, ae] w') ax ac ∧ a9 = List.length ac ∧ (ax ++ aB).length = ao * rStr.sz ∧ True) ⟨none, 0, [], [], (List.length ([] : (List (List UInt8)))), _, (zef ⟨rfl, rfl, rfl, rfl, trivial⟩), b4, (zak K10 K11), c4, rfl, (show ([] ++ [] : List Value).length = 0 * rStr.sz by simp), trivial⟩ ?_
  rintro ⟨ac, aE⟩ oo _ c5 ⟨ae, ao, aB, ax, a9, u, rfl, aW, K12, ba, rfl, br, -⟩ h b5
  rw [tfirst_b1] at h
  refine zam (zam ?_)
  obtain ⟨c6, h, c7⟩ := zee h
  refine zbt (fun e w' => ∃ (bW : Bool) (u : Env), bW = c6 ∧ e = upds [(1, (zI most)), (2, (zal (some ⟨b1, 0, none⟩))), (5, (zO ae ac ao)), (6, (zI aE)), (20, (zac bW))] u ∧ vL w w' [some b1, ae] [zab [(zI c.low), (zI c.high), aA, af, ag], zab ([] ++ (ax ++ aB))] ∧ Keep w.heap.size [some b1, ae] c5 [some b1, ae] w' ∧ True) ?_ ?_
  ·
   refine zah rfl (zag (zae (v := (zI aE)) rfl (zag (zat (q := 1) zbq rfl ti3 rfl rfl rfl (zag (zav (v := (zI c.high)) zay rfl rfl (aW.at 0 rfl rfl) rfl (zag (zeb ((aE : Int) ≤ c.high) rfl rfl zbg (zag (zae (v := (zac (decide ((aE : Int) ≤ c.high)))) rfl ?_))))))))))
   by_cases ak : (aE : Int) ≤ c.high
   ·
    replace h := ite_t ak h
    refine zbb rfl rfl (zed ak) (zae (v := (zO ae ac ao)) rfl (zbb rfl rfl (zed ak) (zcl (pre := []) (r := rStr) (xs := ac) zaz rfl (aW.at 1 rfl rfl) ba rfl rfl (zbb rfl rfl (zed ak) (zae (v := (zI most)) rfl (zbb rfl rfl (zed ak) (zcf (((ac.length : Int) : Int) < most) rfl rfl zbg (zag (zbo (v := (zac (decide (((ac.length : Int) : Int) < most)))) rfl (zed ak) rfl (zar ?_))))))))))
    obtain rfl := zad h
    refine zap ?_
    exact ⟨(decide (((ac.length : Int) : Int) < most)), _, rfl, (zef ⟨rfl, rfl, rfl, rfl, rfl, trivial⟩), aW, zbp, trivial⟩
   replace h := ite_f ak h
   refine zbj rfl rfl (zec ak) (zbj rfl rfl (zec ak) (zbj rfl rfl (zec ak) (zbj rfl rfl (zec ak) (zag (zbk (v := zF) rfl (zec ak) rfl (zar ?_))))))
   obtain rfl := zad h
   refine zap ?_
   exact ⟨false, _, rfl, (zef ⟨rfl, rfl, rfl, rfl, rfl, trivial⟩), aW, zbp, trivial⟩
  rintro _ c8 ⟨bW, u, rfl, rfl, aX, K13, -⟩
  replace h := c7
  try dsimp only at h
  refine zci bW rfl (fun bb => ?_) (fun bb => ?_)
  ·
   replace h := ite_t bb h
   refine zbm (zam (zbc (zam (zah rfl (zag (zat (q := 2) zbq rfl ti23 rfl rfl rfl ?_))))))
   refine zag (zav (v := aA) zbh rfl rfl (aX.at 0 rfl rfl) rfl ?_)
   obtain ⟨b6, c9, h⟩ := zee h
   have cV := (((cZ.mono (K4 S)).mono (K12 S)).mono (K13 S))
   refine zag (zce en60 rfl rfl (cloneTest_w N c.tests aA _ Any (cV.mono vw_any) b6 c9) ?_)
   rintro _ b7 b8 ⟨aK, a5, bu, bw, rfl, b9, bc, ca, -⟩
   replace bc := bc.mono (zbw (S := None) aX [aK])
   have bx := aX.adoptL b8 b9
   have cb := bx.1
   have K14 := ks w bx.2
   refine zag (zai (v := (zO aK b6 a5)) rfl (zar ?_))
   obtain ⟨da, cc, cd⟩ := zee h
   refine zbt (fun e w' => ∃ (ar : (List (List UInt8))) (aL : Option Nat) (aJ : Nat) (aY : List Value) (aR : List Value) (bd : Nat) (u : Env), ar = da ∧ e = upds [(1, (zI most)), (2, (zal (some ⟨b1, 0, none⟩))), (5, (osv aL 0 bd aJ)), (6, (zI aE))] u ∧ vL w w' [some b1, aL] [zab [(zI c.low), (zI c.high), aA, af, ag], zab ([] ++ (aR ++ aY))] ∧ Keep w.heap.size [aK, some b1, ae] b7 [some b1, aL] w' ∧ Els rStr (vH w None [some b1, aL] w') aR ar ∧ bd = List.length ar ∧ (aR ++ aY).length = aJ * rStr.sz ∧ True) ?_ ?_
   ·
    refine zbc ?_
    have bz := cb.pick [1, 2, 0] rfl rfl rfl
    have ce : vL w b7 [some b1, ae, aK] [zab [(zI c.low), (zI c.high), aA, af, ag], zab ([] ++ (ax ++ aB)), zab ([] ++ (bu ++ bw))] := bz.1
    have K15 := ks w bz.2
    have db := (((ba.mono (K13 None)).mono (K14 None)).mono (K15 None))
    have dc := (bc.mono (K15 None))
    refine zbx cc (fun (ss : ((List (List UInt8)) × (List TTest))) (e : Env) (w' : World) => match ss with | (aa, ab) => ∃ (al : Option Nat) (aj : Nat) (aM : List Value) (aF : List Value) (be : Nat) (ah : Option Nat) (au : Nat) (bf : List Value) (aZ : List Value) (bg : Nat) (u : Env), e = upds [(1, (zI most)), (2, (zal (some ⟨b1, 0, none⟩))), (5, (osv al 0 be aj)), (6, (zI aE)), (7, (osv ah 0 bg au))] u ∧ vL w w' [some b1, al, ah] [zab [(zI c.low), (zI c.high), aA, af, ag], zab ([] ++ (aF ++ aM)), zab ([] ++ (aZ ++ bf))] ∧ Keep w.heap.size [aK, some b1, ae] b7 [some b1, al, ah] w' ∧ Els rStr (vH w None [some b1, al, ah] w') aF aa ∧ be = List.length aa ∧ (aF ++ aM).length = aj * rStr.sz ∧ Els rTTest (vH w None [some b1, al, ah] w') aZ ab ∧ bg = List.length ab ∧ (aZ ++ bf).length = au * rTTest.sz ∧ True) ⟨ae, ao, aB, ax, ac.length, aK, a5, bw, bu, b6.length, _, (zef ⟨rfl, rfl, rfl, rfl, rfl, trivial⟩), ce, K15, db, rfl, br, dc, rfl, ca, trivial⟩ ?_
    rintro ⟨aa, ab⟩ oo _ dd ⟨al, aj, aM, aF, be, ah, au, bf, aZ, bg, u, rfl, aN, K16, a0, rfl, bA, cg, rfl, ch, -⟩ h bB
    rw [tfirst_b2] at h
    refine zam (zam (zah rfl (zag (zae (v := (zO al aa aj)) rfl (zag (zcl (pre := []) (r := rStr) (xs := aa) zaz rfl (aN.at 1 rfl rfl) a0 rfl rfl (zag (zae (v := (zI most)) rfl (zag (zcf (((aa.length : Int) : Int) < most) rfl rfl zbg (zar (zbi (((aa.length : Int) : Int) < most) rfl (fun bh => ?_) (fun bh => ?_)))))))))))))
    ·
     replace h := ite_t bh h
     refine zbm (zbc (zam (zah rfl (zag (zae (v := (zO ah ab au)) rfl ?_)))))
     refine zag (zae (v := (zI aE)) rfl (zag (zae (v := (zI most)) rfl (zag (zae (v := (zO al aa aj)) rfl (zag (zcl (pre := []) (r := rStr) (xs := aa) zaz rfl (aN.at 1 rfl rfl) a0 rfl rfl (zag (OpY.sub (z := (iw (most - (aa.length : Int)))) rfl rfl rfl (zag (OpY.min (x := 100) (y := (iw (most - (aa.length : Int)))) rfl rfl ?_)))))))))))
     obtain ⟨aD, dh, h⟩ := zee h
     refine zag (zce en39 rfl rfl (pWords_w N ab aE (imin 100 (iw (most - (aa.length : Int)))) (zO ah ab au) _ Any (zei (pre := []) (o := 0) (n := ab.length) (cap := au) (aN.at 2 rfl rfl) cg vw_any rfl rfl rfl ch) aD dh) ?_)
     rintro _ di ci ⟨ap, av, dj, cj, rfl, ck, aS, dk, -⟩
     replace aS := aS.mono (zbw (S := None) aN [ap])
     have bC := aN.adoptL ci ck
     have bD := bC.1
     have K17 := ks w bC.2
     refine zag (zai (v := (zO ap aD av)) rfl (zar (zam (zah rfl (zag (zae (v := (zO al aa aj)) rfl (zag (zae (v := (zO ap aD av)) rfl ?_))))))))
     obtain ⟨bn, dl, h⟩ := zee h
     obtain ⟨dm, dn, dp⟩ := zep dl
     have dq := (a0.mono (K17 None))
     refine zag (zcz (r := rStr) (H := (vH w None [ap, some b1, al, ah] di)) (cs := aF) (sp := aM) (xs := aa) (ys := aD) (Y := bn) (n := aa.length) (cap := aj) (i := 2) zaz ti9 rfl rfl rfl rfl bD rfl rfl dq rfl bA (zdu (pre := []) (o := 0) (n := aD.length) (cap := av) (bD.at 0 rfl rfl) aS rfl rfl rfl) (zcj (fun _ _ _ _ h => h) aS) dm dn dp ?_)
     intro ay aT a1 a2 dr bE bF a3 cp
     have K18 := ks w cp
     refine zag (zai (v := (zO ay bn aT)) rfl (zar (zam (zam (zah rfl (zag (zae (v := (zO ap aD av)) rfl ?_)))))))
     have bX := (aS.mono (K18 None))
     refine zag (zcl (pre := []) (r := rStr) (xs := aD) zaz rfl (a3.at 0 rfl rfl) bX rfl rfl (zag (zcf (((aD.length : Int) : Int) < 100) rfl rfl zbg (zar (zbi (((aD.length : Int) : Int) < 100) rfl (fun bi => ?_) (fun bi => ?_))))))
     ·
      replace h := ite_t bi h
      refine zcd rfl ?_
      have bG := a3.pick [1, 2] rfl rfl rfl
      have cq : vL w dr [some b1, ay] [zab [(zI c.low), (zI c.high), aA, af, ag], zab ([] ++ (a2 ++ a1))] := bG.1
      have K19 := ks w bG.2
      have ds := ((bE.mono (K18 None)).mono (K19 None))
      obtain rfl := zad h
      obtain rfl := bB _ rfl
      replace h := cd
      try dsimp only at h
      refine zap ?_
      exact ⟨bn, ay, aT, a1, a2, bn.length, _, rfl, (zef ⟨rfl, rfl, rfl, rfl, trivial⟩), cq, (zak (zak (zak K16 K17) K18) K19), ds, rfl, bF, trivial⟩
     replace h := ite_f bi h
     refine zbm ?_
     obtain ⟨a6, dt, h⟩ := zee h
     obtain ⟨aG, cr, du, cW, dv, h⟩ := zix h
     obtain ⟨cX, bH⟩ := a3.row_some 0 rfl rfl (zev (pre := []) bX cW (Nat.lt_of_sub_eq_succ rfl))
     obtain ⟨dw, q21, dx, dy⟩ := zeo (pre := []) (sp := cj) bX cW
     obtain rfl := dx
     refine zcx 11 [] [] (fun W1 => [.det (zal (some ⟨b1, 2, none⟩)), .det aA, .rel (fun v Z w' => ∃ ai ad aq az, (zO ai a6 ad) = v ∧ OwnC w' ai (zab ([] ++ (aq ++ az))) ∧ Els rTTest (vZ W1 w None [ap, some b1, ay, ah] Z w') aq a6 ∧ (aq ++ az : List Value).length = ad * rTTest.sz ∧ True) footV, .det (zO ap aD av), .det (zO ap aD av), .det (zI (aD.length : Int)), .det (zI (iw ((aD.length : Int) - 1))), .det (zal (some ⟨cX, (0 + cr * rStr.sz), none⟩)), .det (zS aG), .det (zbr #[(zI 0), (zI 3), zT, (zS aG)]), .rel (fun v Z w' => ∃ aP aH, (osv (some aP) 0 1 1) = v ∧ OwnC w' (some aP) (zab ([] ++ (aH ++ []))) ∧ Els rTTest (vZ W1 w None [ap, some b1, ay, ah] Z w') aH [(TTest.mk 0 3 true aG)] ∧ (aH ++ [] : List Value).length = 1 * rTTest.sz ∧ True) footV]) mixed rfl rfl rfl (fun _ => rfl) (fun _ => rfl) ?_ ?_
     ·
      intro W1 _
      exact ⟨fun v Z Z' w w' hΦ hz _ _ hs => by obtain ⟨ai, ad, aq, az, rfl, bj, aI, aU, -⟩ := hΦ; exact ⟨ai, ad, aq, az, rfl, (bj.stay (fun b hb => (zel (ob := ai) (o := 0) (n := a6.length) (cap := ad)).2 (by rw [hb]; exact zbf)) hs), (aI.mono (zdz hz hs)), aU, trivial⟩, ⟨fun v Z Z' w w' hΦ hz _ _ hs => by obtain ⟨aP, aH, rfl, bk, aO, bI, -⟩ := hΦ; exact ⟨aP, aH, rfl, (bk.stay (fun b hb => by cases hb; exact zbf) hs), (aO.mono (zdz hz hs)), bI, trivial⟩, trivial⟩⟩
     intro ct cu
     obtain ⟨aC, K20⟩ := zl a3 cu
     refine zaw (fun _ _ => zaq (zat zbq rfl ti23 rfl rfl rfl (er rfl))) (zaw (fun _ cv => zaq (zav zbh rfl rfl ((aC.ext cv).at 1 rfl rfl) rfl (er rfl))) (zea ?_ ?_))
     ·
      rintro w19 Z21 cw cx ⟨-⟩
      have K21 := ke aC cw
      refine zaq (zce en60 rfl rfl (cloneTest_w N c.tests aA _ Any (((((((cV.mono (K14 S)).mono (K16 S)).mono (K17 S)).mono (K18 S)).mono (K20 S)).mono (K21 S)).mono vw_any) a6 dt) ?_)
      rintro _ w20 cy ⟨ai, ad, aq, az, rfl, bJ, aI, aU, -⟩
      exact Made.ext cy cx bJ (fun b hb => footV_osv.1 hb) ⟨ai, ad, aq, az, rfl, bJ.2.2.1, (aI.mono Zv.made), aU, trivial⟩
     intro z2
     refine zaw (fun _ _ => zaq (zae rfl (er rfl))) (zaw (fun _ _ => zaq (zae rfl (er rfl))) (zaw (fun _ bK => zaq (zcl (pre := []) (r := rStr) (xs := aD) zaz rfl ((aC.ext bK).at 0 rfl rfl) ((bX.mono (K20 None)).mono ((ke aC bK) None)) rfl rfl (er rfl))) (zaw (fun _ _ => zaq (OpY.sub rfl rfl rfl (er rfl))) (zaw (fun _ _ => zaq (zbl (r := rStr) (b := cX) (o := 0) (n := cr) (m := aD.length) (xs := aD) (q := (0 + cr * rStr.sz)) zaz ti9 (zen bH) rfl rfl du dv rfl (er rfl))) (zaw (fun _ cz => zaq (zby zax rfl rfl (zer bH ((aC.ext cz).at 0 rfl rfl)) dy (er rfl))) (zaw (fun _ _ => zaq (OpY.build (zc := [(zI 0), (zI 0), zF, (zaf ⟨#[]⟩)]) (cs := [(zI 0), (zI 3), zT, (zS aG)]) (is := [1, 2, 3]) (vs := [(zI 3), zT, (zS aG)]) (css := [[(zI 3)], [zT], [(zS aG)]]) pl44 ti44 rfl rfl rfl ⟨rfl, rfl, rfl, trivial⟩ rfl (er rfl))) ?_))))))
     refine zea ?_ ?_
     ·
      rintro cA Z30 dz cB ⟨-, -⟩
      have bL : Els rTTest (vZ ct w None [ap, some b1, ay, ah] Z30 cA) [(zI 0), (zI 3), zT, (zS aG)] [(TTest.mk 0 3 true aG)] := (zcq (a := [(zI 0), (zI 3), zT, (zS aG)]) (rTTest_close ⟨rfl, trivial⟩) zcn)
      refine zaq (zco (r := rTTest) (vs := [(zbr #[(zI 0), (zI 3), zT, (zS aG)])]) (css := [[(zI 0), (zI 3), zT, (zS aG)]]) (xs := [(TTest.mk 0 3 true aG)]) zbh ti44 (zaj rfl) rfl rfl ⟨rfl, rfl, trivial⟩ (zaj rfl) bL rfl (Go.X.Loc.begin0 cA) ?_)
      intro aP dA cC bl dB
      have bM : NewOwn cA dA [some aP] [zab ([] ++ ([(zI 0), (zI 3), zT, (zS aG)] ++ []))] := bl.newOwn [0] rfl rfl rfl
      exact Made.ext bl.done cB bM (fun _ h => h) ⟨aP, [(zI 0), (zI 3), zT, (zS aG)], rfl, bM.2.2.1, (bL.mono (Zv.grow bl.done)), cC, trivial⟩
     intro z10
     refine zdd ?_
     rintro cY Z31 cD bN ⟨⟨⟨aP, aH, rfl, bk, aO, bI, -⟩, cE⟩, ⟨⟨ai, ad, aq, az, rfl, bj, aI, aU, -⟩, dC⟩, -⟩ cF
     have a4 : ∀ b, some b ∈ ([some aP, ai] : List (Option Nat)) → ct.heap.size ≤ b ∧ ¬ Z31 b := by
      intro b hb
      rcases List.mem_cons.1 hb with hb' | hb
      ·
       have := cE b (by rw [hb']; exact zbf); exact ⟨this.1, this.2.2⟩
      rcases List.mem_cons.1 hb with hb' | hb
      ·
       have := dC b ((zel (ob := ai) (o := 0) (n := a6.length) (cap := ad)).2 (by rw [hb']; exact zbf)); exact ⟨this.1, this.2.2⟩
      cases hb
     replace aO := aO.mono (Zv.fin aC bN a4)
     replace aI := aI.mono (Zv.fin aC bN a4)
     have cG : NewOwn ct cY [some aP, ai] [zab ([] ++ (aH ++ [])), zab ([] ++ (aq ++ az))] := (zdx (zdx NewOwn.nil bj (fun b hb => (a4 b (by rw [← hb]; simp)).1) (fun b _ hb => by cases hb)) bk (fun b hb => (a4 b (by rw [← hb]; simp)).1) (fun b hb hm => (List.mem_cons.1 hm).elim (fun e => apE (cF.1) rfl rfl b ((zel (ob := (some aP)) (o := 0) (n := 1) (cap := 1)).2 hb) ((zel (ob := ai) (o := 0) (n := a6.length) (cap := ad)).2 (by rw [e]; exact zbf))) (fun hm => by cases hm)))
     have bO := aC.adoptL cD cG
     have bP := bO.1
     have K23 := ks w bO.2
     obtain ⟨bY, dD, h⟩ := zee h
     obtain ⟨dE, dF, dG⟩ := zep dD
     refine zag (zcz (r := rTTest) (H := (vH w None [some aP, ai, ap, some b1, ay, ah] cY)) (cs := aq) (sp := az) (xs := a6) (ys := [(TTest.mk 0 3 true aG)]) (Y := bY) (n := a6.length) (cap := ad) (i := 1) zbh ti44 rfl rfl rfl rfl bP rfl rfl aI rfl aU (zdu (pre := []) (o := 0) (n := 1) (cap := 1) (bP.at 0 rfl rfl) aO rfl rfl rfl) (zcj (fun _ _ _ _ h => h) aO) dE dF dG ?_)
     intro bm a7 bQ bR dH cH cI cJ cK
     have K24 := ks w cK
     refine zag (zai (v := (zO bm bY a7)) rfl (zar (zbe ?_)))
     have bS := cJ.pick [3, 4, 1] rfl rfl rfl
     have cL : vL w dH [some b1, ay, bm] [zab [(zI c.low), (zI c.high), aA, af, ag], zab ([] ++ (a2 ++ a1)), zab ([] ++ (bR ++ bQ))] := bS.1
     have K25 := ks w bS.2
     have dI := (((((bE.mono (K18 None)).mono (K20 None)).mono (K23 None)).mono (K24 None)).mono (K25 None))
     have dJ := ((cH.mono (K24 None)).mono (K25 None))
     obtain rfl := zad h
     refine zap ⟨(bn, bY), rfl, ?_⟩
     exact ⟨ay, aT, a1, a2, bn.length, bm, a7, bQ, bR, bY.length, _, (zef ⟨rfl, rfl, rfl, rfl, rfl, trivial⟩), cL, (zak (zak (zak (zak (zak (zak K16 K17) K18) K20) K23) K24) K25), dI, rfl, bF, dJ, rfl, cI, trivial⟩
    replace h := ite_f bh h
    refine zcd rfl ?_
    have bT := aN.pick [0, 1] rfl rfl rfl
    have cM : vL w dd [some b1, al] [zab [(zI c.low), (zI c.high), aA, af, ag], zab ([] ++ (aF ++ aM))] := bT.1
    have K26 := ks w bT.2
    have dK := (a0.mono (K26 None))
    obtain rfl := zad h
    obtain rfl := bB _ rfl
    replace h := cd
    try dsimp only at h
    refine zap ?_
    exact ⟨aa, al, aj, aM, aF, aa.length, _, rfl, (zef ⟨rfl, rfl, rfl, rfl, trivial⟩), cM, (zak K16 K26), dK, rfl, bA, trivial⟩
   rintro _ w32 ⟨ar, aL, aJ, aY, aR, bd, u, rfl, rfl, cN, K27, cO, rfl, cP, -⟩
   replace h := cd
   try dsimp only at h
   refine zbe (zah rfl (zag (zae (v := (zI aE)) rfl ?_)))
   refine zag (zca (z := (iw (aE + 1))) rfl rfl rfl (zag (zai (v := (zI (iw (aE + 1)))) rfl (zar ?_))))
   obtain rfl := zad h
   refine zap ⟨(ar, (iw (aE + 1))), rfl, ?_⟩
   exact ⟨aL, aJ, aY, aR, ar.length, _, (zef ⟨rfl, rfl, rfl, rfl, trivial⟩), cN, (zak (zak (zak K12 K13) K14) K27), cO, rfl, cP, trivial⟩
  replace h := ite_f bb h
  refine zcd rfl ?_
  have bU := aX.pick [1] rfl rfl rfl
  have cQ : vL w c8 [ae] [zab ([] ++ (ax ++ aB))] := bU.1
  have K28 := ks w bU.2
  have dL := ((ba.mono (K13 None)).mono (K28 None))
  obtain rfl := zad h
  obtain rfl := b5 _ rfl
  replace h := cU
  try dsimp only at h
  refine zap ?_
  exact ⟨ac, ae, ao, aB, ax, ac.length, _, rfl, (zef zrt), cQ, (zak (zak K12 K13) K28), dL, rfl, br, trivial⟩
 rintro _ w33 ⟨am, aw, an, aV, aQ, a8, u, rfl, rfl, bV, K29, cR, rfl, cS, -⟩
 replace h := cU
 try dsimp only at h
 refine zam (zah rfl (zag (zae (v := (zO aw am an)) rfl (zag (zai (v := (zO aw am an)) rfl (zar (zbv ?_)))))))
 obtain rfl := zad h
 refine ⟨[(zO aw am an)], zrt, ⟨_, rfl, bV.done, ?_⟩⟩
 exact ⟨aw, an, aQ, aV, rfl, (bV.newOwn [0] rfl rfl rfl), (cR.mono (zdy [0] rfl)), cS, trivial⟩
theorem tLengths_w (N : Nat) (p : TProb) (pb : Int) (ax : Value) (an : Value) (ao : Value) (ap : Value) (aq : Value) (w : World) (S : Nat → Prop) (bQ : Rs rI (vH w S [] w) ax p.Min) (bf : Rs rI (vH w S [] w) an p.Max) (bg : Rs rTTest (vH w S [] w) ao p.Tests) (bh : Rs rArr2Int (vH w S [] w) ap p.Same) (bi : Rs rArr2Int (vH w S [] w) aq p.Different) (r : (List Int)) (h : tLengths N p pb = some r) :
  Calls Try.prog 19 #[(zbr #[ax, an, ao, ap, aq]), (zI pb)] w (Ret w (fun v w' => ∃ (bj : Option Nat) (aU : Nat) (bk : List Value) (sp0 : List Value), (zO bj r aU) = v ∧ NewOwn w w' [bj] [zab ([] ++ (bk ++ sp0))] ∧ Els rI (vH w None [bj] w') bk r ∧ (bk ++ sp0).length = aU * rI.sz ∧ True)) := by
 unfold tLengths at h
 have hL : vL w w [] [] := Go.X.Loc.begin0 w
 refine calls_of (l := [(zbr #[ax, an, ao, ap, aq]), (zI pb)]) (rl := [.tmp 4]) (n := 52) Try.func19 rfl rfl rfl (zaj rfl) ?_
 refine zam (zah rfl (zag (zdo (cs := [ax, an, ao, ap, aq]) rfl rfl hL ?_)))
 intro b1 w2 bl b2
 have K4 := ks w b2
 refine zag (zai (v := zN) rfl (zar (zam (zam ?_))))
 obtain ⟨b3, h, b4⟩ := zee h
 refine zbt (fun e w' => ∃ (x9 : Bool) (u : Env), x9 = b3 ∧ e = upds [(1, (zI pb)), (2, (zal (some ⟨b1, 0, none⟩))), (19, (zac x9))] u ∧ vL w w' [some b1] [zab [ax, an, ao, ap, aq]] ∧ Keep w.heap.size [some b1] w2 [some b1] w' ∧ True) ?_ ?_
 ·
  refine zah rfl (zag (zae (v := (zI pb)) rfl (zag (zcf ((pb : Int) < 0) rfl rfl zbg (zag (zae (v := (zac (decide ((pb : Int) < 0)))) rfl ?_))))))
  by_cases ab : (pb : Int) < 0
  ·
   replace h := ite_t ab h
   refine zbj rfl rfl (zed ab) (zbj rfl rfl (zed ab) (zbj rfl rfl (zed ab) (zbj rfl rfl (zed ab) (zbj rfl rfl (zed ab) (zag (zbo (v := zT) rfl (zed ab) rfl (zar ?_)))))))
   obtain rfl := zad h
   refine zap ?_
   exact ⟨true, _, rfl, (zef ⟨rfl, rfl, rfl, trivial⟩), bl, zbp, trivial⟩
  replace h := ite_f ab h
  refine zbb rfl rfl (zec ab) (zae (v := (zI pb)) rfl (zbb rfl rfl (zec ab) (zat (q := 0) zct rfl ti22 rfl rfl rfl (zbb rfl rfl (zec ab) (zav (v := ax) zan rfl rfl (bl.at 0 rfl rfl) rfl ?_)))))
  have b5 := (bQ.mono (K4 S))
  refine zbb rfl rfl (zec ab) (zcc (v := ax) zan rfl b5 (zbb rfl rfl (zec ab) (OpY.geq ((pb : Int) ≥ (p.Min.length : Int)) rfl rfl zbg (zag (zbk (v := (zac (decide ((pb : Int) ≥ (p.Min.length : Int))))) rfl (zec ab) rfl (zar ?_))))))
  obtain rfl := zad h
  refine zap ?_
  exact ⟨(decide ((pb : Int) ≥ (p.Min.length : Int))), _, rfl, (zef ⟨rfl, rfl, rfl, trivial⟩), bl, zbp, trivial⟩
 rintro _ bR ⟨x9, u, rfl, rfl, ay, K10, -⟩
 replace h := b4
 try dsimp only at h
 refine zci x9 rfl (fun aH => ?_) (fun aH => ?_)
 ·
  replace h := ite_t aH h
  refine zam (zah rfl (zag (zai (v := zN) rfl (zar ?_))))
  have bm := ay.addNil
  have aV : vL w bR [none, some b1] [zab ([] ++ ([] ++ [])), zab [ax, an, ao, ap, aq]] := bm.1
  have bn : Els rI (vH w None [none, some b1] bR) [] [] := zcn
  refine zbv ?_
  obtain rfl := zad h
  refine ⟨[(osv none 0 (List.length ([] : (List Int))) 0)], zrt, ⟨_, rfl, aV.done, ?_⟩⟩
  exact ⟨none, 0, [], [], rfl, (aV.newOwn [0] rfl rfl rfl), (bn.mono (zdy [0] rfl)), (show ([] ++ [] : List Value).length = 0 * rI.sz by simp), trivial⟩
 replace h := ite_f aH h
 refine zbm (zam (zah rfl (zag (zcr (vs := [ax, an, ao, ap, aq]) zct rfl ti31 rfl (ay.at 0 rfl rfl) rfl rfl ?_))))
 obtain ⟨ac, b6, h⟩ := zee h
 have b7 := ((bQ.mono (K4 S)).mono (K10 S))
 have b8 := ((bf.mono (K4 S)).mono (K10 S))
 have b9 := ((bg.mono (K4 S)).mono (K10 S))
 have ca := ((bh.mono (K4 S)).mono (K10 S))
 have cb := ((bi.mono (K4 S)).mono (K10 S))
 refine zag (zce en31 rfl rfl (tgathered_w N p ax an ao ap aq _ Any (b7.mono vw_any) (b8.mono vw_any) (b9.mono vw_any) (ca.mono vw_any) (cb.mono vw_any) ac b6) ?_)
 rintro _ w11 bo ⟨ad, ag, bp, aW, ae, ah, bq, aX, rfl, br, aC, cc, aD, cd, -⟩
 replace aC := aC.mono (zbw (S := None) ay [ad, ae])
 replace aD := aD.mono (zbw (S := None) ay [ad, ae])
 have bu := ay.adoptL bo br
 have az := bu.1
 refine zag (zae (v := (Value.tuple #[(zO ad ac.1 ag), (zO ae ac.2.1 ah), (zac ac.2.2)])) rfl (zag (zcm (vs := [(zO ad ac.1 ag), (zO ae ac.2.1 ah), (zac ac.2.2)]) (v := (zO ad ac.1 ag)) rfl rfl (zag (zcm (vs := [(zO ad ac.1 ag), (zO ae ac.2.1 ah), (zac ac.2.2)]) (v := (zO ae ac.2.1 ah)) rfl rfl (zag (zcm (vs := [(zO ad ac.1 ag), (zO ae ac.2.1 ah), (zac ac.2.2)]) (v := (zac ac.2.2)) rfl rfl (zag (zai (v := (zO ad ac.1 ag)) rfl (zag (zai (v := (zO ae ac.2.1 ah)) rfl (zag (zai (v := (zac ac.2.2)) rfl ?_)))))))))))))
 refine zar (zam (zah rfl (zag (zae (v := (zO ad ac.1 ag)) rfl ?_))))
 refine zag (zae (v := (zO ae ac.2.1 ah)) rfl (zag (zae (v := (zI pb)) rfl ?_)))
 obtain ⟨ce, bS, cg, bT, ch, h⟩ := zix h
 obtain ⟨ci, aY⟩ := az.row_some 1 rfl rfl (zev (pre := []) aD bT (Nat.lt_of_sub_eq_succ rfl))
 refine zag (zbl (r := rI) (b := ci) (o := 0) (n := bS) (m := ac.2.1.length) (xs := ac.2.1) (q := (0 + bS * rI.sz)) zan ti3 (zen aY) rfl rfl cg ch rfl ?_)
 obtain ⟨cj, q15, ck, cp⟩ := zeo (pre := []) (sp := aX) aD bT
 obtain rfl := ck
 refine zag (zby (v := (zI ce)) zay rfl rfl (zer aY (az.at 1 rfl rfl)) cp ?_)
 obtain ⟨am, bU, cq, bV, cr, h⟩ := zix h
 obtain ⟨ct, aZ⟩ := az.row_some 0 rfl rfl (zev (pre := []) aC bV (Nat.lt_of_sub_eq_succ rfl))
 refine zag (zbl (r := rTClass) (b := ct) (o := 0) (n := bU) (m := ac.1.length) (xs := ac.1) (q := (0 + bU * rTClass.sz)) zas ti56 (zen aZ) rfl rfl cq cr rfl ?_)
 obtain ⟨cu, q22, cv, cw⟩ := zeo (pre := []) (sp := aW) aC bV
 obtain ⟨aE, aI, aJ, rfl, cx, cy, cz, -⟩ := rTClass_open cv
 refine zag (zcr (vs := [(zI am.low), (zI am.high), aE, aI, aJ]) zbq rfl ti56 rfl (zer aZ (az.at 0 rfl rfl)) rfl cw (zag (zdw (cs := [(zI 0), (zI 0), zN, zN, zN]) ti56 rfl az ?_)))
 intro aw w12 bw bx
 have K11 := ks w bx
 have cA := (cz.mono (K11 None))
 have cB := (cy.mono (K11 None))
 have bW := (cx.mono (K11 None))
 refine zdj (zdi (vs := [(zI am.low), (zI am.high), aE, aI, aJ]) ti56 rfl rfl rfl rfl (zej rfl (zej rfl (zej bW.one (zej cB.one (zej cA.one zeu))))) bw 0 rfl rfl (zaj rfl) ?_)
 intro bc a0 bz
 have K12 := ks w bz
 refine zar (zam (zah rfl (zag (zai (v := zN) rfl ?_))))
 refine zar (zam (zam (zah rfl (zag (zat (q := 0) zbq rfl ti3 rfl rfl rfl ?_)))))
 refine zag (zav (v := (zI am.low)) zay rfl rfl (a0.at 0 rfl rfl) rfl (zag (zai (v := (zI am.low)) rfl (zar ?_))))
 obtain ⟨cC, bA, bX⟩ := zee h
 refine zbt (fun e w' => ∃ (ai : (List Int)) (ar : Option Nat) (aj : Nat) (aF : List Value) (aA : List Value) (aK : Nat) (u : Env), ai = cC ∧ e = upds [(9, (osv ar 0 aK aj))] u ∧ vL w w' [ar] [zab ([] ++ (aA ++ aF))] ∧ Keep w.heap.size [some aw, ad, ae, some b1] bc [ar] w' ∧ Els rI (vH w None [ar] w') aA ai ∧ aK = List.length ai ∧ (aA ++ aF).length = aj * rI.sz ∧ True) ?_ ?_
 ·
  refine zbc ?_
  have a1 := a0.addNil
  have bB : vL w bc [none, some aw, ad, ae, some b1] [zab ([] ++ ([] ++ [])), zab [(zI am.low), (zI am.high), aE, aI, aJ], zab ([] ++ (bp ++ aW)), zab ([] ++ (bq ++ aX)), zab [ax, an, ao, ap, aq]] := a1.1
  have K13 := ks w a1.2
  have a2 := bB.pick [1, 0] rfl rfl rfl
  have bC : vL w bc [some aw, none] [zab [(zI am.low), (zI am.high), aE, aI, aJ], zab ([] ++ ([] ++ []))] := a2.1
  have K14 := ks w a2.2
  have cD := ((zcn (r := rI)).mono (K14 None))
  refine zbx bA (fun (ss : ((List Int) × Int)) (e : Env) (w' : World) => match ss with | (aa, ak) => ∃ (af : Option Nat) (al : Nat) (av : List Value) (au : List Value) (aL : Nat) (u : Env), e = upds [(8, (zal (some ⟨aw, 0, none⟩))), (9, (osv af 0 aL al)), (10, (zI ak))] u ∧ vL w w' [some aw, af] [zab [(zI am.low), (zI am.high), aE, aI, aJ], zab ([] ++ (au ++ av))] ∧ Keep w.heap.size [some aw, ad, ae, some b1] bc [some aw, af] w' ∧ Els rI (vH w None [some aw, af] w') au aa ∧ aL = List.length aa ∧ (au ++ av).length = al * rI.sz ∧ True) ⟨none, 0, [], [], (List.length ([] : (List Int))), _, (zef ⟨rfl, rfl, rfl, trivial⟩), bC, (zak K13 K14), cD, rfl, (show ([] ++ [] : List Value).length = 0 * rI.sz by simp), trivial⟩ ?_
  rintro ⟨aa, ak⟩ oo _ cE ⟨af, al, av, au, aL, u, rfl, aB, K15, aM, rfl, aN, -⟩ h bD
  rw [tLengths_b1] at h
  refine zam (zam (zah rfl (zag (zae (v := (zI ak)) rfl (zag (zat (q := 1) zbq rfl ti3 rfl rfl rfl (zag (zav (v := (zI am.high)) zay rfl rfl (aB.at 0 rfl rfl) rfl (zag (zeb ((ak : Int) ≤ am.high) rfl rfl zbg (zar (zbi ((ak : Int) ≤ am.high) rfl (fun aO => ?_) (fun aO => ?_)))))))))))))
  ·
   replace h := ite_t aO h
   refine zbm (zam (zbc (zam (zah rfl (zag (zat (q := 2) zbq rfl ti23 rfl rfl rfl ?_))))))
   refine zag (zav (v := aE) zbh rfl rfl (aB.at 0 rfl rfl) rfl (zag (zae (v := (zI ak)) rfl ?_)))
   obtain ⟨bd, cF, h⟩ := zee h
   have cG := ((bW.mono (K12 None)).mono (K15 None))
   refine zag (zce en39 rfl rfl (pWords_w N am.tests ak 1 aE _ Any (cG.mono vw_any) bd cF) ?_)
   rintro _ bY bE ⟨aP, bZ, cH, cI, rfl, bF, aQ, cJ, -⟩
   replace aQ := aQ.mono (zbw (S := None) aB [aP])
   have a3 := aB.adoptL bE bF
   have aR := a3.1
   have K16 := ks w a3.2
   refine zag (zcl (pre := []) (r := rStr) (xs := bd) zaz rfl (aR.at 0 rfl rfl) aQ rfl rfl (zag (OpY.gtr (((bd.length : Int) : Int) > 0) rfl rfl zbg (zar (zbi (((bd.length : Int) : Int) > 0) rfl (fun aS => ?_) (fun aS => ?_))))))
   ·
    replace h := ite_t aS h
    refine zah rfl (zag (zae (v := (zO af aa al)) rfl (zag (zae (v := (zI ak)) rfl ?_))))
    have a4 : Els rI (vH w None [aP, some aw, af] bY) [(zI ak)] [ak] := (zcq (a := [(zI ak)]) rfl zcn)
    refine zag (zco (r := rI) (vs := [(zI ak)]) (css := [[(zI ak)]]) (xs := [ak]) zan ti3 (zaj rfl) rfl rfl ⟨rfl, rfl, trivial⟩ (zaj rfl) a4 rfl aR ?_)
    intro cK cL cM a5 bG
    have K17 := ks w bG
    obtain ⟨be, cN, h⟩ := zee h
    obtain ⟨cO, cP, cQ⟩ := zep cN
    have b0 := (a4.mono (K17 None))
    have cR := ((aM.mono (K16 None)).mono (K17 None))
    refine zag (zcz (r := rI) (H := (vH w None [some cK, aP, some aw, af] cL)) (cs := au) (sp := av) (xs := aa) (ys := [ak]) (Y := be) (n := aa.length) (cap := al) (i := 3) zan ti3 rfl rfl rfl rfl a5 rfl rfl cR rfl aN (zdu (pre := []) (o := 0) (n := 1) (cap := 1) (a5.at 0 rfl rfl) b0 rfl rfl rfl) (zcj (fun _ _ _ _ h => h) b0) cO cP cQ ?_)
    intro aT aG a6 a7 cS bH bI bJ bK
    have K18 := ks w bK
    refine zag (zai (v := (zO aT be aG)) rfl (zar (zbe (zah rfl (zag (zae (v := (zI ak)) rfl (zag (zca (z := (iw (ak + 1))) rfl rfl rfl (zag (zai (v := (zI (iw (ak + 1)))) rfl (zar ?_)))))))))))
    have a8 := bJ.pick [2, 3] rfl rfl rfl
    have bL : vL w cS [some aw, aT] [zab [(zI am.low), (zI am.high), aE, aI, aJ], zab ([] ++ (a7 ++ a6))] := a8.1
    have K19 := ks w a8.2
    have cT := ((bH.mono (K18 None)).mono (K19 None))
    obtain rfl := zad h
    refine zap ⟨(be, (iw (ak + 1))), rfl, ?_⟩
    exact ⟨aT, aG, a6, a7, be.length, _, (zef ⟨rfl, rfl, rfl, trivial⟩), bL, (zak (zak (zak (zak K15 K16) K17) K18) K19), cT, rfl, bI, trivial⟩
   replace h := ite_f aS h
   refine zbm (zbe (zah rfl (zag (zae (v := (zI ak)) rfl ?_))))
   refine zag (zca (z := (iw (ak + 1))) rfl rfl rfl (zag (zai (v := (zI (iw (ak + 1)))) rfl (zar ?_))))
   have a9 := aR.pick [1, 2] rfl rfl rfl
   have bM : vL w bY [some aw, af] [zab [(zI am.low), (zI am.high), aE, aI, aJ], zab ([] ++ (au ++ av))] := a9.1
   have K20 := ks w a9.2
   have cU := ((aM.mono (K16 None)).mono (K20 None))
   obtain rfl := zad h
   refine zap ⟨(aa, (iw (ak + 1))), rfl, ?_⟩
   exact ⟨af, al, av, au, aa.length, _, (zef ⟨rfl, rfl, rfl, trivial⟩), bM, (zak (zak K15 K16) K20), cU, rfl, aN, trivial⟩
  replace h := ite_f aO h
  refine zcd rfl ?_
  have ba := aB.pick [1] rfl rfl rfl
  have bN : vL w cE [af] [zab ([] ++ (au ++ av))] := ba.1
  have K21 := ks w ba.2
  have cV := (aM.mono (K21 None))
  obtain rfl := zad h
  obtain rfl := bD _ rfl
  replace h := bX
  try dsimp only at h
  refine zap ?_
  exact ⟨aa, af, al, av, au, aa.length, _, rfl, (zef zrt), bN, (zak K15 K21), cV, rfl, aN, trivial⟩
 rintro _ w18 ⟨ai, ar, aj, aF, aA, aK, u, rfl, rfl, bb, K22, bO, rfl, bP, -⟩
 replace h := bX
 try dsimp only at h
 refine zam (zah rfl (zag (zae (v := (zO ar ai aj)) rfl (zag (zai (v := (zO ar ai aj)) rfl (zar (zbv ?_)))))))
 obtain rfl := zad h
 refine ⟨[(zO ar ai aj)], zrt, ⟨_, rfl, bb.done, ?_⟩⟩
 exact ⟨ar, aj, aA, aF, rfl, (bb.newOwn [0] rfl rfl rfl), (bO.mono (zdy [0] rfl)), bP, trivial⟩
end Go.Proofs.Ytaakoedphmeenaa.WT

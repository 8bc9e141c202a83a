/- Walks, written by a program of mine (wip/tool); the kernel checks them. -/
import Derived.Test.YtaakoedphmeenaaProg
import Derived.Test.YtaakoedphmeenaaSqSolve
import Derived.Test.YtaakoedphmeenaaPR
import Derived.Test.YtaakoedphmeenaaWASolve
set_option maxRecDepth 100000
set_option maxHeartbeats 40000000
set_option linter.unusedVariables false
set_option linter.unusedSimpArgs false
namespace Go.Proofs.Ytaakoedphmeenaa.WR
open Go Go.RowKit Go.X Go.D Go.Proofs.Ytaakoedphmeenaa.WA
theorem en29 : Go.X.Enters Try.prog 29 := ⟨Try.f29, Try.func29, by kernel_rfl, by kernel_rfl⟩
theorem en70 : Go.X.Enters Try.prog 70 := ⟨Try.f70, Try.func70, by kernel_rfl, by kernel_rfl⟩
theorem en56 : Go.X.Enters Try.prog 56 := ⟨Try.f56, Try.func56, by kernel_rfl, by kernel_rfl⟩
theorem en57 : Go.X.Enters Try.prog 57 := ⟨Try.f57, Try.func57, by kernel_rfl, by kernel_rfl⟩
theorem en58 : Go.X.Enters Try.prog 58 := ⟨Try.f58, Try.func58, by kernel_rfl, by kernel_rfl⟩
theorem ti45 : TI Try.prog 45 2 16 (zbr #[(zI 0), (zI 0)]) := TI.mk (by kernel_rfl)
theorem ti22 : TI Try.prog 22 1 24 zN := TI.mk (by kernel_rfl)
theorem en42 : Go.X.Enters Try.prog 42 := ⟨Try.f42, Try.func42, by kernel_rfl, by kernel_rfl⟩
theorem en43 : Go.X.Enters Try.prog 43 := ⟨Try.f43, Try.func43, by kernel_rfl, by kernel_rfl⟩
theorem ti24 : TI Try.prog 24 1 24 zN := TI.mk (by kernel_rfl)
theorem en44 : Go.X.Enters Try.prog 44 := ⟨Try.f44, Try.func44, by kernel_rfl, by kernel_rfl⟩
theorem en30 : Go.X.Enters Try.prog 30 := ⟨Try.f30, Try.func30, by kernel_rfl, by kernel_rfl⟩
theorem ti26 : TI Try.prog 26 5 120 (zbr #[zN, zN, zN, zN, zN]) := TI.mk (by kernel_rfl)
theorem en41 : Go.X.Enters Try.prog 41 := ⟨Try.f41, Try.func41, by kernel_rfl, by kernel_rfl⟩
theorem en63 : Go.X.Enters Try.prog 63 := ⟨Try.f63, Try.func63, by kernel_rfl, by kernel_rfl⟩
theorem en15 : Go.X.Enters Try.prog 15 := ⟨Try.f15, Try.func15, by kernel_rfl, by kernel_rfl⟩
theorem en38 : Go.X.Enters Try.prog 38 := ⟨Try.f38, Try.func38, by kernel_rfl, by kernel_rfl⟩
theorem en21 : Go.X.Enters Try.prog 21 := ⟨Try.f21, Try.func21, by kernel_rfl, by kernel_rfl⟩
theorem en37 : Go.X.Enters Try.prog 37 := ⟨Try.f37, Try.func37, by kernel_rfl, by kernel_rfl⟩
theorem en24 : Go.X.Enters Try.prog 24 := ⟨Try.f24, Try.func24, by kernel_rfl, by kernel_rfl⟩
theorem en12 : Go.X.Enters Try.prog 12 := ⟨Try.f12, Try.func12, by kernel_rfl, by kernel_rfl⟩
theorem qPrintable_w (N : Nat) (s : (List UInt8))  (w : World) (S : Nat → Prop)  (r : Bool) (h : qPrintable N s = some r) :
  Calls Try.prog 29 #[(zS s)] w (Ret w (fun v w' => (zac r) = v ∧ True)) := by
 unfold qPrintable at h
 have hL : vL w w [] [] := Go.X.Loc.begin0 w
 refine calls_of (l := [(zS s)]) (rl := [.tmp 2]) (n := 20) Try.func29 rfl rfl rfl (zaj rfl) ?_
 refine zam (zah rfl (zag (zai (v := zF) rfl (zar (zam (zam (zah rfl (zag (zai (v := (zI 0)) rfl (zar ?_))))))))))
 obtain ⟨an, ak, al⟩ := zee h
 refine zbt (fun e w' => ∃  (u : Env), (Sum.inl ()) = an ∧ e = upds [] u ∧ vL w w' [] [] ∧ Keep w.heap.size [] w [] w' ∧ True) ?_ ?_
 ·
  refine zbc ?_
  refine zbx ak (fun (ss : Int) (e : Env) (w' : World) => match ss with | ab => ∃ (u : Env), e = upds [(0, (zS s)), (3, (zI ab))] u ∧ vL w w' [] [] ∧ Keep w.heap.size [] w [] w' ∧ True) ⟨_, (zef ⟨rfl, rfl, trivial⟩), hL, zbp, trivial⟩ ?_
  rintro ab oo _ ao ⟨u, rfl, ac, K10, -⟩ h af
  rw [qPrintable_b1] at h
  refine zam (zam (zah rfl (zag (zae (v := (zI ab)) rfl (zag (zae (v := (zS s)) rfl (zag (zdc zax rfl (zag (zcf ((ab : Int) < (s.length : Int)) rfl rfl zbg (zar (zbi ((ab : Int) < (s.length : Int)) rfl (fun ad => ?_) (fun ad => ?_)))))))))))))
  ·
   replace h := ite_t ad h
   refine zbm (zam (zbc (zam ?_)))
   obtain ⟨ap, h, aq⟩ := zee h
   refine zbt (fun e w' => ∃ (ah : Bool) (u : Env), ah = ap ∧ e = upds [(0, (zS s)), (3, (zI ab)), (19, (zac ah))] u ∧ vL w w' [] [] ∧ Keep w.heap.size [] ao [] w' ∧ True) ?_ ?_
   ·
    refine zah rfl (zag (zae (v := (zS s)) rfl (zag (zae (v := (zI ab)) rfl ?_))))
    obtain ⟨ai, ar, au, av, -, h⟩ := zix h
    refine zag (zdf (xs := s) (i := ab) (n := ar) (a := ai) zax rfl rfl au av (zag (zcf (((UInt8.toNat ai : Int) : Int) < 32) rfl rfl zbg (zag (zae (v := (zac (decide (((UInt8.toNat ai : Int) : Int) < 32)))) rfl ?_)))))
    by_cases aa : ((UInt8.toNat ai : Int) : Int) < 32
    ·
     replace h := ite_t aa h
     refine zbj rfl rfl (zed aa) (zbj rfl rfl (zed aa) (zbj rfl rfl (zed aa) (zbj rfl rfl (zed aa) (zag (zbo (v := zT) rfl (zed aa) rfl (zar ?_))))))
     obtain rfl := zad h
     refine zap ?_
     exact ⟨true, _, rfl, (zef ⟨rfl, rfl, rfl, trivial⟩), ac, zbp, trivial⟩
    replace h := ite_f aa h
    refine zbb rfl rfl (zec aa) (zae (v := (zS s)) rfl (zbb rfl rfl (zec aa) (zae (v := (zI ab)) rfl ?_)))
    obtain ⟨aj, aw, ax, ay, -, h⟩ := zix h
    refine zbb rfl rfl (zec aa) (zdf (xs := s) (i := ab) (n := aw) (a := aj) zax rfl rfl ax ay (zbb rfl rfl (zec aa) (OpY.gtr (((UInt8.toNat aj : Int) : Int) > 126) rfl rfl zbg (zag (zbk (v := (zac (decide (((UInt8.toNat aj : Int) : Int) > 126)))) rfl (zec aa) rfl (zar ?_))))))
    obtain rfl := zad h
    refine zap ?_
    exact ⟨(decide (((UInt8.toNat aj : Int) : Int) > 126)), _, rfl, (zef ⟨rfl, rfl, rfl, trivial⟩), ac, zbp, trivial⟩
   rintro _ w11 ⟨ah, u, rfl, rfl, ag, K11, -⟩
   replace h := aq
   try dsimp only at h
   refine zci ah rfl (fun ae => ?_) (fun ae => ?_)
   ·
    replace h := ite_t ae h
    refine zam (zah rfl (zag (zai (v := zF) rfl (zar (zbv ?_)))))
    obtain rfl := zad h
    obtain rfl := af _ rfl
    replace h := al
    try dsimp only at h
    obtain rfl := zad h
    refine ⟨[zF], zrt, ⟨_, rfl, ag.done, ?_⟩⟩
    exact zrt
   replace h := ite_f ae h
   refine zbm (zbe (zah rfl (zag (zae (v := (zI ab)) rfl ?_))))
   refine zag (zca (z := (iw (ab + 1))) rfl rfl rfl (zag (zai (v := (zI (iw (ab + 1)))) rfl (zar ?_))))
   obtain rfl := zad h
   refine zap ⟨(iw (ab + 1)), rfl, ?_⟩
   exact ⟨_, (zef ⟨rfl, rfl, trivial⟩), ag, (zak K10 K11), trivial⟩
  replace h := ite_f ad h
  refine zcd rfl ?_
  obtain rfl := zad h
  obtain rfl := af _ rfl
  replace h := al
  try dsimp only at h
  refine zap ?_
  exact ⟨_, rfl, (zef trivial), ac, K10, trivial⟩
 rintro _ w12 ⟨u, rfl, rfl, am, K12, -⟩
 replace h := al
 try dsimp only at h
 refine zam (zah rfl (zag (zai (v := zT) rfl (zar (zbv ?_)))))
 obtain rfl := zad h
 refine ⟨[zT], zrt, ⟨_, rfl, am.done, ?_⟩⟩
 exact zrt
theorem qValid_w (N : Nat) (t : TTest)  (w : World) (S : Nat → Prop)  (r : Bool) (h : qValid N t = some r) :
  Calls Try.prog 42 #[(zbr #[(zI t.Var), (zI t.Kind), (zac t.Negated), (zS t.Text)])] w (Ret w (fun v w' => (zac r) = v ∧ True)) := by
 unfold qValid at h
 have hL : vL w w [] [] := Go.X.Loc.begin0 w
 refine calls_of (l := [(zbr #[(zI t.Var), (zI t.Kind), (zac t.Negated), (zS t.Text)])]) (rl := [.tmp 2]) (n := 22) Try.func42 rfl rfl rfl (zaj rfl) ?_
 refine zam (zah rfl (zag (zdo (cs := [(zI t.Var), (zI t.Kind), (zac t.Negated), (zS t.Text)]) rfl rfl hL ?_)))
 intro b1 w2 ad hS5
 refine zag (zai (v := zF) rfl (zar (zam (zah rfl (zag (zat (q := 1) zbd rfl ti3 rfl rfl rfl (zag (zav (v := (zI t.Kind)) zay rfl rfl (ad.at 0 rfl rfl) rfl (zag (OpY.geq ((t.Kind : Int) ≥ 0) rfl rfl zbg (zag (zae (v := (zac (decide ((t.Kind : Int) ≥ 0)))) rfl ?_))))))))))))
 by_cases ab : (t.Kind : Int) ≥ 0
 ·
  replace h := ite_t ab h
  refine zbb rfl rfl (zed ab) (zat (q := 1) zbd rfl ti3 rfl rfl rfl (zbb rfl rfl (zed ab) (zav (v := (zI t.Kind)) zay rfl rfl (ad.at 0 rfl rfl) rfl (zbb rfl rfl (zed ab) (zeb ((t.Kind : Int) ≤ 3) rfl rfl zbg (zag (zbo (v := (zac (decide ((t.Kind : Int) ≤ 3)))) rfl (zed ab) rfl (zag (zae (v := (zac (decide ((t.Kind : Int) ≤ 3)))) rfl ?_)))))))))
  by_cases aa : (t.Kind : Int) ≤ 3
  ·
   replace h := ite_t aa h
   refine zbb rfl rfl (zed aa) (zat (q := 3) zbd rfl ti9 rfl rfl rfl (zbb rfl rfl (zed aa) (zav (v := (zS t.Text)) zax rfl rfl (ad.at 0 rfl rfl) rfl (zbb rfl rfl (zed aa) (zdc zax rfl (zbb rfl rfl (zed aa) (zeb (((t.Text.length : Int) : Int) ≤ 16) rfl rfl zbg (zag (zbo (v := (zac (decide (((t.Text.length : Int) : Int) ≤ 16)))) rfl (zed aa) rfl (zag (zae (v := (zac (decide (((t.Text.length : Int) : Int) ≤ 16)))) rfl ?_)))))))))))
   by_cases ac : ((t.Text.length : Int) : Int) ≤ 16
   ·
    replace h := ite_t ac h
    refine zbb rfl rfl (zed ac) (zat (q := 3) zbd rfl ti9 rfl rfl rfl (zbb rfl rfl (zed ac) (zav (v := (zS t.Text)) zax rfl rfl (ad.at 0 rfl rfl) rfl ?_)))
    obtain ⟨r9, ag, h⟩ := zee h
    refine zbb rfl rfl (zed ac) (zce en29 rfl rfl (qPrintable_w N t.Text _ Any r9 ag) ?_)
    rintro _ w10 ae ⟨rfl, -⟩
    have af := ad.ext ae
    refine zag (zbo (v := (zac r9)) rfl (zed ac) rfl (zag (zai (v := (zac r9)) rfl (zar (zbv ?_)))))
    obtain rfl := zad h
    refine ⟨[(zac r9)], zrt, ⟨_, rfl, af.done, ?_⟩⟩
    exact zrt
   replace h := ite_f ac h
   refine zbj rfl rfl (zec ac) (zbj rfl rfl (zec ac) (zbj rfl rfl (zec ac) (zag (zbk (v := zF) rfl (zec ac) rfl (zag (zai (v := zF) rfl (zar (zbv ?_))))))))
   obtain rfl := zad h
   refine ⟨[zF], zrt, ⟨_, rfl, ad.done, ?_⟩⟩
   exact zrt
  replace h := ite_f aa h
  refine zbj rfl rfl (zec aa) (zbj rfl rfl (zec aa) (zbj rfl rfl (zec aa) (zbj rfl rfl (zec aa) (zag (zbk (v := zF) rfl (zec aa) rfl (zag (zae (v := zF) rfl (zbj rfl rfl rfl (zbj rfl rfl rfl (zbj rfl rfl rfl (zag (zbk (v := zF) rfl rfl rfl (zag (zai (v := zF) rfl (zar (zbv ?_))))))))))))))))
  obtain rfl := zad h
  refine ⟨[zF], zrt, ⟨_, rfl, ad.done, ?_⟩⟩
  exact zrt
 replace h := ite_f ab h
 refine zbj rfl rfl (zec ab) (zbj rfl rfl (zec ab) (zbj rfl rfl (zec ab) (zag (zbk (v := zF) rfl (zec ab) rfl (zag (zae (v := zF) rfl (zbj rfl rfl rfl (zbj rfl rfl rfl (zbj rfl rfl rfl (zbj rfl rfl rfl (zag (zbk (v := zF) rfl rfl rfl (zag (zae (v := zF) rfl (zbj rfl rfl rfl (zbj rfl rfl rfl (zbj rfl rfl rfl ?_)))))))))))))))))
 refine zag (zbk (v := zF) rfl rfl rfl (zag (zai (v := zF) rfl (zar (zbv ?_)))))
 obtain rfl := zad h
 refine ⟨[zF], zrt, ⟨_, rfl, ad.done, ?_⟩⟩
 exact zrt
theorem qClosed_w (N : Nat) (p : (List UInt8)) (vset : (List Int)) (aa : Option Nat) (ab : Nat) (ag : List Value) (ac : List Value) (X : List (Option Nat)) (w : World) (S : Nat → Prop) (hL : Go.X.Loc X [] w w [aa] [zab ([] ++ (ag ++ ac))]) (ao : Els (rInt .u8) (vH w S [aa] w) ag vset) (ap : (ag ++ ac).length = ab * (rInt .u8).sz) (r : ((List UInt8) × (List Int))) (h : qClosed N p vset = some r) :
  Calls Try.prog 70 #[(zS p), (osv aa 0 vset.length ab)] w (fun e w' => ∃ (ak : List Value) (aq : List Value), e = Ending.returned (zS r.1) ∧ Go.X.Loc X [] w w' [aa] [zab ([] ++ (ak ++ aq))] ∧ Keep w.heap.size [aa] w [aa] w' ∧ List.length vset = List.length r.2 ∧ Els (rInt .u8) (vH w S [aa] w') ak r.2 ∧ (ak ++ aq).length = ab * (rInt .u8).sz ∧ True) := by
 unfold qClosed at h
 refine calls_of (l := [(zS p), (osv aa 0 vset.length ab)]) (rl := [.tmp 4]) (n := 29) Try.func70 rfl rfl rfl (zaj rfl) ?_
 refine zam (zah rfl (zag (zai (v := (zS ([] : List UInt8))) rfl (zar (zam (zam (zah rfl (zag (zai (v := (zI 0)) rfl (zar ?_))))))))))
 obtain ⟨aX, aG, aO⟩ := zee h
 refine zbt (fun e w' => ∃ (ad : (List Int)) (aj : List Value) (u : Env), ad = aX ∧ e = upds [(1, (osv aa 0 vset.length ab))] u ∧ Go.X.Loc X [] w w' [aa] [zab ([] ++ (aj ++ ac))] ∧ Keep w.heap.size [aa] w [aa] w' ∧ Els (rInt .u8) (vH w S [aa] w') aj ad ∧ vset.length = List.length ad ∧ (aj ++ ac).length = ab * (rInt .u8).sz ∧ True) ?_ ?_
 ·
  refine zbc ?_
  refine zbx aG (fun (ss : ((List Int) × Int)) (e : Env) (w' : World) => match ss with | (ae, ah) => ∃ (ai : List Value) (u : Env), e = upds [(0, (zS p)), (1, (osv aa 0 vset.length ab)), (5, (zI ah))] u ∧ Go.X.Loc X [] w w' [aa] [zab ([] ++ (ai ++ ac))] ∧ Keep w.heap.size [aa] w [aa] w' ∧ Els (rInt .u8) (vH w S [aa] w') ai ae ∧ vset.length = List.length ae ∧ (ai ++ ac).length = ab * (rInt .u8).sz ∧ True) ⟨ag, _, (zef ⟨rfl, rfl, rfl, trivial⟩), hL, zbp, ao, rfl, ap, trivial⟩ ?_
  rintro ⟨ae, ah⟩ oo _ aY ⟨ai, u, rfl, al, K10, am, an, ar, -⟩ h aH
  rw [qClosed_b1] at h
  refine zam (zam (zah rfl (zag (zae (v := (zI ah)) rfl (zag (zae (v := (zS p)) rfl (zag (zdc zax rfl (zag (zcf ((ah : Int) < (p.length : Int)) rfl rfl zbg (zar (zbi ((ah : Int) < (p.length : Int)) rfl (fun au => ?_) (fun au => ?_)))))))))))))
  ·
   replace h := ite_t au h
   refine zbm (zam (zbc (zam ?_)))
   obtain ⟨aZ, h, a0⟩ := zee h
   refine zbt (fun e w' => ∃ (aD : Bool) (u : Env), aD = aZ ∧ e = upds [(0, (zS p)), (1, (osv aa 0 vset.length ab)), (5, (zI ah)), (22, (zac aD))] u ∧ Go.X.Loc X [] w w' [aa] [zab ([] ++ (ai ++ ac))] ∧ Keep w.heap.size [aa] aY [aa] w' ∧ True) ?_ ?_
   ·
    refine zah rfl (zag (zae (v := (osv aa 0 vset.length ab)) rfl (zag (zae (v := (zI ah)) rfl ?_))))
    obtain ⟨aE, aP, a1, aQ, a2, h⟩ := zix h
    obtain ⟨a3, ay⟩ := al.row_some 0 rfl rfl (zev (pre := []) am aQ (Nat.lt_of_sub_eq_succ rfl))
    refine zag (zbl (r := (rInt .u8)) (b := a3) (o := 0) (n := aP) (m := vset.length) (xs := ae) (q := (0 + aP * (rInt .u8).sz)) zcg ti5 (zen ay) an rfl a1 a2 rfl ?_)
    obtain ⟨a4, q14, a5, a6⟩ := zeo (pre := []) (sp := ac) am aQ
    obtain rfl := a5
    refine zag (zby (v := (zaa .u8 aE)) zcw rfl rfl (zer ay (al.at 0 rfl rfl)) a6 (zag (zdb ((aE : Int) = 1) rfl rfl zbg (zag (zae (v := (zac (decide ((aE : Int) = 1)))) rfl ?_)))))
    by_cases af : (aE : Int) = 1
    ·
     replace h := ite_t af h
     refine zbb rfl rfl (zed af) (zae (v := (zS p)) rfl (zbb rfl rfl (zed af) (zae (v := (zI ah)) rfl ?_)))
     obtain ⟨aF, a7, a8, a9, -, h⟩ := zix h
     refine zbb rfl rfl (zed af) (zdf (xs := p) (i := ah) (n := a7) (a := aF) zax rfl rfl a8 a9 (zbb rfl rfl (zed af) (zdb (((UInt8.toNat aF : Int) : Int) = 37) rfl rfl zbg (zag (zbo (v := (zac (decide (((UInt8.toNat aF : Int) : Int) = 37)))) rfl (zed af) rfl (zar ?_))))))
     obtain rfl := zad h
     refine zap ?_
     exact ⟨(decide (((UInt8.toNat aF : Int) : Int) = 37)), _, rfl, (zef ⟨rfl, rfl, rfl, rfl, trivial⟩), al, zbp, trivial⟩
    replace h := ite_f af h
    refine zbj rfl rfl (zec af) (zbj rfl rfl (zec af) (zbj rfl rfl (zec af) (zbj rfl rfl (zec af) (zag (zbk (v := zF) rfl (zec af) rfl (zar ?_))))))
    obtain rfl := zad h
    refine zap ?_
    exact ⟨false, _, rfl, (zef ⟨rfl, rfl, rfl, rfl, trivial⟩), al, zbp, trivial⟩
   rintro _ w11 ⟨aD, u, rfl, rfl, av, K11, -⟩
   replace h := a0
   try dsimp only at h
   refine zci aD rfl (fun aw => ?_) (fun aw => ?_)
   ·
    replace h := ite_t aw h
    refine zah rfl (zag (zae (v := (osv aa 0 vset.length ab)) rfl (zag (zae (v := (zI ah)) rfl (zag (zca (z := (iw (ah + 1))) rfl rfl rfl ?_))))))
    obtain ⟨x13, aR, aS, ba, aT, h⟩ := zix h
    have aU := (am.mono (K11 S))
    obtain ⟨bb, az⟩ := av.row_some 0 rfl rfl (zev (pre := []) aU ba (Nat.lt_of_sub_eq_succ rfl))
    refine zag (zbl (r := (rInt .u8)) (b := bb) (o := 0) (n := aR) (m := vset.length) (xs := ae) (q := (0 + aR * (rInt .u8).sz)) zcg ti5 (zen az) an rfl aS aT rfl ?_)
    obtain ⟨aV, n13, bc, q26, aW, h⟩ := zux h
    obtain rfl := zin aS bc
    refine zdj (zdg (pre := []) (r := (rInt .u8)) (vs := [(zaa .u8 1)]) (a := 1) ti5 rfl rfl rfl rfl av 0 (congrArg some az) rfl aU aT rfl aW ?_)
    have aI : vset.length = List.length aV := by rw [aW, List.length_set]; exact an
    intro w12 aA aJ aK aL bd
    have aM : (aA ++ ac).length = ab * (rInt .u8).sz := zhc ar bd
    have K12 := ks w aK
    refine zar (zbe (zah rfl (zag (zae (v := (zI ah)) rfl ?_))))
    refine zag (zca (z := (iw (ah + 1))) rfl rfl rfl (zag (zai (v := (zI (iw (ah + 1)))) rfl (zar ?_))))
    have be := (aL.mono (K12 S))
    obtain rfl := zad h
    refine zap ⟨(aV, (iw (ah + 1))), rfl, ?_⟩
    exact ⟨aA, _, (zef ⟨rfl, rfl, rfl, trivial⟩), aJ, (zak (zak K10 K11) K12), be, aI, aM, trivial⟩
   replace h := ite_f aw h
   refine zbm (zbe (zah rfl (zag (zae (v := (zI ah)) rfl ?_))))
   refine zag (zca (z := (iw (ah + 1))) rfl rfl rfl (zag (zai (v := (zI (iw (ah + 1)))) rfl (zar ?_))))
   have bf := (am.mono (K11 S))
   obtain rfl := zad h
   refine zap ⟨(ae, (iw (ah + 1))), rfl, ?_⟩
   exact ⟨ai, _, (zef ⟨rfl, rfl, rfl, trivial⟩), av, (zak K10 K11), bf, an, ar, trivial⟩
  replace h := ite_f au h
  refine zcd rfl ?_
  obtain rfl := zad h
  obtain rfl := aH _ rfl
  replace h := aO
  try dsimp only at h
  refine zap ?_
  exact ⟨ae, ai, _, rfl, (zef zrt), al, K10, am, an, ar, trivial⟩
 rintro _ w13 ⟨ad, aj, u, rfl, rfl, aB, K13, aC, ax, aN, -⟩
 replace h := aO
 try dsimp only at h
 refine zam (zah rfl (zag (zae (v := (osv aa 0 vset.length ab)) rfl (zag (OpY.strRow (pre := []) (cs := aj) (sp := ac) (xs := ad) zcg zax zcw rfl (aB.at 0 rfl rfl) aC ax (zag (zai (v := (zS (bstr ad))) rfl (zar (zbv ?_)))))))))
 obtain rfl := zad h
 refine ⟨[(zS (bstr ad))], zrt, ?_⟩
 exact ⟨aj, ac, rfl, (by have h9 := aB; (try rw [ax] at h9); exact h9), K13, ax, aC, aN, trivial⟩
theorem qStart_w (N : Nat) (t : TTest)  (w : World) (S : Nat → Prop)  (r : (List UInt8)) (h : qStart N t = some r) :
  Calls Try.prog 56 #[(zbr #[(zI t.Var), (zI t.Kind), (zac t.Negated), (zS t.Text)])] w (Ret w (fun v w' => (zS r) = v ∧ True)) := by
 unfold qStart at h
 have hL : vL w w [] [] := Go.X.Loc.begin0 w
 refine calls_of (l := [(zbr #[(zI t.Var), (zI t.Kind), (zac t.Negated), (zS t.Text)])]) (rl := [.tmp 2]) (n := 21) Try.func56 rfl rfl rfl (zaj rfl) ?_
 refine zam (zah rfl (zag (zdo (cs := [(zI t.Var), (zI t.Kind), (zac t.Negated), (zS t.Text)]) rfl rfl hL ?_)))
 intro b1 w2 ah hS5
 refine zag (zai (v := (zS ([] : List UInt8))) rfl (zar (zam (zam (zah rfl (zag (zat (q := 1) zbd rfl ti3 rfl rfl rfl (zag (zav (v := (zI t.Kind)) zay rfl rfl (ah.at 0 rfl rfl) rfl (zag (OpY.neq ((t.Kind : Int) ≠ 1) rfl rfl zbg (zar (zbi ((t.Kind : Int) ≠ 1) rfl (fun ai => ?_) (fun ai => ?_))))))))))))))
 ·
  replace h := ite_t ai h
  refine zam (zah rfl ?_)
  have aB : Els (rInt .u8) (vH w None [some b1] w2) [(zaa .u8 0)] [0] := (zcq (a := [(zaa .u8 0)]) rfl zcn)
  refine zag (zco (r := (rInt .u8)) (vs := [(zaa .u8 0)]) (css := [[(zaa .u8 0)]]) (xs := [0]) zcg ti5 (zaj rfl) rfl rfl ⟨rfl, rfl, trivial⟩ (zaj rfl) aB rfl ah ?_)
  intro b7 w10 hc9 ae aj
  have K10 := ks w aj
  have aH := (aB.mono (K10 None))
  refine zag (OpY.strRow (pre := []) (cs := [(zaa .u8 0)]) (sp := []) (xs := [0]) zcg zax zcw rfl (ae.at 0 rfl rfl) aH rfl ?_)
  obtain ⟨u16, aI, h⟩ := zee h
  have aJ := chk_some aI
  refine zag (OpY.sAdd (x := ([61] : List UInt8)) (y := (bstr [0])) rfl rfl aJ (zag (zai (v := (zaf (s8 (([61] : List UInt8) ++ (bstr [0]))))) rfl (zar (zbv ?_)))))
  obtain rfl := zad h
  refine ⟨[(zaf (s8 (([61] : List UInt8) ++ (bstr [0]))))], zrt, ⟨_, rfl, ae.done, ?_⟩⟩
  exact zrt
 replace h := ite_f ai h
 refine zbm (zam (zah rfl (zag (zat (q := 3) zbd rfl ti9 rfl rfl rfl ?_))))
 refine zag (zav (v := (zS t.Text)) zax rfl rfl (ah.at 0 rfl rfl) rfl (zag (zdc zax rfl (zag (zca (z := (iw ((t.Text.length : Int) + 1))) rfl rfl rfl ?_)))))
 obtain ⟨ad, aK, h⟩ := zee h
 obtain ⟨af, aL, aM, aN, aO⟩ := mk1_some aK
 refine zag (zdl (r := (rInt .u8)) (H := (vH w None [some b1] w2)) (zc := [(zaa .u8 0)]) (x := 0) zcg ti5 rfl rfl rfl rfl aL aM aN aO ah ?_)
 intro aa w11 aP ak al am an
 have K11 := ks w an
 refine zag (zai (v := (osv (some aa) 0 ad.length af)) rfl (zar (zam (zah rfl (zag (zae (v := (osv (some aa) 0 ad.length af)) rfl ?_))))))
 obtain ⟨x11, aC, aD, q19, aE, h⟩ := zix h
 refine zag (zbl (r := (rInt .u8)) (b := aa) (o := 0) (n := aC) (m := ad.length) (xs := ad) (q := (0 + aC * (rInt .u8).sz)) zcg ti5 rfl rfl rfl aD aE rfl ?_)
 obtain ⟨aF, n11, aQ, q23, aG, h⟩ := zux h
 obtain rfl := zin aD aQ
 have aR := (ak.mono (K11 None))
 refine zdj (zdg (pre := []) (r := (rInt .u8)) (vs := [(zaa .u8 1)]) (a := 1) ti5 rfl rfl rfl rfl am 0 rfl rfl aR aE rfl aG ?_)
 have ab : ad.length = List.length aF := by rw [aG, List.length_set]
 intro w12 ag ac ao ap aS
 have aq : (ag ++ []).length = af * (rInt .u8).sz := zhc al aS
 have K12 := ks w ao
 refine zar (zam (zah rfl (zag (zat (q := 3) zbd rfl ti9 rfl rfl rfl ?_))))
 refine zag (zav (v := (zS t.Text)) zax rfl rfl (ac.at 1 rfl rfl) rfl (zag (zae (v := (osv (some aa) 0 ad.length af)) rfl ?_)))
 obtain ⟨ar, aT, h⟩ := zee h
 have au := ac.lendW [0] rfl rfl rfl
 have aU := (ap.mono (K12 None))
 refine zag (zdt en70 rfl rfl (calls_args (by rw [← ab]; first | done | rfl) (qClosed_w N t.Text aF (some aa) af ag [] [some aa] _ Any (by have h9 := au; (try rw [ab] at h9); exact h9) (aU.mono (zcv [0] rfl)) aq ar aT)) ?_)
 rintro _ aV ⟨av, aw, rfl, ax, K13, ay, aW, aX, -⟩
 refine ⟨_, rfl, ?_⟩
 have az := ac.backW [0] [1] rfl rfl rfl rfl ax
 have aA : vL w aV [some aa, some b1] [zab ([] ++ (av ++ aw)), zab [(zI t.Var), (zI t.Kind), (zac t.Negated), (zS t.Text)]] := (by have h9 := az.1; (try rw [← (ab.trans ay)] at h9); exact h9)
 refine zag (zai (v := (zS ar.1)) rfl (zar (zbv ?_)))
 obtain rfl := zad h
 refine ⟨[(zS ar.1)], zrt, ⟨_, rfl, aA.done, ?_⟩⟩
 exact zrt
theorem qStep_w (N : Nat) (t : TTest) (s : (List UInt8)) (c : Int)  (w : World) (S : Nat → Prop)  (r : (List UInt8)) (h : qStep N t s c = some r) :
  Calls Try.prog 57 #[(zbr #[(zI t.Var), (zI t.Kind), (zac t.Negated), (zS t.Text)]), (zS s), (zaa .u8 c)] w (Ret w (fun v w' => (zS r) = v ∧ True)) := by
 unfold qStep at h
 have hL : vL w w [] [] := Go.X.Loc.begin0 w
 refine calls_of (l := [(zbr #[(zI t.Var), (zI t.Kind), (zac t.Negated), (zS t.Text)]), (zS s), (zaa .u8 c)]) (rl := [.tmp 6]) (n := 96) Try.func57 rfl rfl rfl (zaj rfl) ?_
 refine zam (zah rfl (zag (zdo (cs := [(zI t.Var), (zI t.Kind), (zac t.Negated), (zS t.Text)]) rfl rfl hL ?_)))
 intro b1 w2 aE hS5
 refine zag (zai (v := (zS ([] : List UInt8))) rfl (zar (zam (zah rfl (zag (zat (q := 3) zbd rfl ti9 rfl rfl rfl (zag (zav (v := (zS t.Text)) zax rfl rfl (aE.at 0 rfl rfl) rfl (zag (zai (v := (zS t.Text)) rfl (zar (zam (zam (zah rfl (zag (zat (q := 1) zbd rfl ti3 rfl rfl rfl (zag (zav (v := (zI t.Kind)) zay rfl rfl (aE.at 0 rfl rfl) rfl (zag (zdb ((t.Kind : Int) = 1) rfl rfl zbg (zar ?_)))))))))))))))))))))
 refine zbi ((t.Kind : Int) = 1) rfl (fun a1 => ?_) (fun a1 => ?_)
 ·
  replace h := ite_t a1 h
  refine zam (zah rfl (zag (zae (v := (zS t.Text)) rfl (zag (zdc zax rfl (zag (zca (z := (iw ((t.Text.length : Int) + 1))) rfl rfl rfl ?_)))))))
  obtain ⟨x8, q9, h⟩ := zee h
  obtain ⟨m7, bO, bP, bQ, bR⟩ := mk1_some q9
  refine zag (zdl (r := (rInt .u8)) (H := (vH w None [some b1] w2)) (zc := [(zaa .u8 0)]) (x := 0) zcg ti5 rfl rfl rfl rfl bO bP bQ bR aE ?_)
  intro ac a2 aF a3 a4 a5 a6
  have K10 := ks w a6
  refine zag (zai (v := (osv (some ac) 0 x8.length m7)) rfl (zar (zam (zam (zah rfl (zag (zai (v := (zI 0)) rfl (zar ?_))))))))
  obtain ⟨bS, a7, bD⟩ := zee h
  refine zbt (fun e w' => ∃ (aj : (List Int)) (an : List Value) (u : Env), aj = bS ∧ e = upds [(7, (zS t.Text)), (8, (osv (some ac) 0 x8.length m7))] u ∧ vL w w' [some ac] [zab ([] ++ (an ++ []))] ∧ Keep w.heap.size [some ac, some b1] a2 [some ac] w' ∧ Els (rInt .u8) (vH w None [some ac] w') an aj ∧ x8.length = List.length aj ∧ (an ++ []).length = m7 * (rInt .u8).sz ∧ True) ?_ ?_
  ·
   refine zbc ?_
   have aG := a5.pick [0] rfl rfl rfl
   have a8 : vL w a2 [some ac] [zab ([] ++ (aF ++ []))] := aG.1
   have K11 := ks w aG.2
   have bT := ((a3.mono (K10 None)).mono (K11 None))
   refine zbx a7 (fun (ss : ((List Int) × Int)) (e : Env) (w' : World) => match ss with | (ag, ad) => ∃ (al : List Value) (u : Env), e = upds [(1, (zS s)), (2, (zaa .u8 c)), (7, (zS t.Text)), (8, (osv (some ac) 0 x8.length m7)), (9, (zI ad))] u ∧ vL w w' [some ac] [zab ([] ++ (al ++ []))] ∧ Keep w.heap.size [some ac, some b1] a2 [some ac] w' ∧ Els (rInt .u8) (vH w None [some ac] w') al ag ∧ x8.length = List.length ag ∧ (al ++ []).length = m7 * (rInt .u8).sz ∧ True) ⟨aF, _, (zef ⟨rfl, rfl, rfl, rfl, rfl, trivial⟩), a8, K11, bT, rfl, a4, trivial⟩ ?_
   rintro ⟨ag, ad⟩ oo _ bU ⟨al, u, rfl, aq, K12, ar, ao, au, -⟩ h a9
   rw [qStep_b1] at h
   refine zam (zam (zah rfl (zag (zae (v := (zI ad)) rfl (zag (zae (v := (zS t.Text)) rfl (zag (zdc zax rfl (zag (zcf ((ad : Int) < (t.Text.length : Int)) rfl rfl zbg (zar (zbi ((ad : Int) < (t.Text.length : Int)) rfl (fun av => ?_) (fun av => ?_)))))))))))))
   ·
    replace h := ite_t av h
    refine zbm (zam (zbc (zam (zam ?_))))
    obtain ⟨bV, h, bW⟩ := zee h
    refine zbt (fun e w' => ∃ (aS : Bool) (u : Env), aS = bV ∧ e = upds [(1, (zS s)), (2, (zaa .u8 c)), (7, (zS t.Text)), (8, (osv (some ac) 0 x8.length m7)), (9, (zI ad)), (35, (zac aS))] u ∧ vL w w' [some ac] [zab ([] ++ (al ++ []))] ∧ Keep w.heap.size [some ac] bU [some ac] w' ∧ True) ?_ ?_
    ·
     refine zah rfl (zag (zae (v := (zS s)) rfl (zag (zae (v := (zI ad)) rfl ?_))))
     obtain ⟨aT, bX, bY, bZ, -, h⟩ := zix h
     refine zag (zdf (xs := s) (i := ad) (n := bX) (a := aT) zax rfl rfl bY bZ (zag (zdb (((UInt8.toNat aT : Int) : Int) = 1) rfl rfl zbg (zag (zae (v := (zac (decide (((UInt8.toNat aT : Int) : Int) = 1)))) rfl ?_)))))
     by_cases ai : ((UInt8.toNat aT : Int) : Int) = 1
     ·
      replace h := ite_t ai h
      refine zbb rfl rfl (zed ai) (zae (v := (zS t.Text)) rfl (zbb rfl rfl (zed ai) (zae (v := (zI ad)) rfl ?_)))
      obtain ⟨aU, b0, b2, b3, -, h⟩ := zix h
      refine zbb rfl rfl (zed ai) (zdf (xs := t.Text) (i := ad) (n := b0) (a := aU) zax rfl rfl b2 b3 (zbb rfl rfl (zed ai) (zdb (((UInt8.toNat aU : Int) : Int) = 37) rfl rfl zbg (zag (zbo (v := (zac (decide (((UInt8.toNat aU : Int) : Int) = 37)))) rfl (zed ai) rfl (zar ?_))))))
      obtain rfl := zad h
      refine zap ?_
      exact ⟨(decide (((UInt8.toNat aU : Int) : Int) = 37)), _, rfl, (zef ⟨rfl, rfl, rfl, rfl, rfl, rfl, trivial⟩), aq, zbp, trivial⟩
     replace h := ite_f ai h
     refine zbj rfl rfl (zec ai) (zbj rfl rfl (zec ai) (zbj rfl rfl (zec ai) (zbj rfl rfl (zec ai) (zag (zbk (v := zF) rfl (zec ai) rfl (zar ?_))))))
     obtain rfl := zad h
     refine zap ?_
     exact ⟨false, _, rfl, (zef ⟨rfl, rfl, rfl, rfl, rfl, rfl, trivial⟩), aq, zbp, trivial⟩
    rintro _ b4 ⟨aS, u, rfl, rfl, aH, K13, -⟩
    replace h := bW
    try dsimp only at h
    obtain ⟨b5, h, b6⟩ := zee h
    refine zbt (fun e w' => ∃ (ah : (List Int)) (am : List Value) (u : Env), ah = b5 ∧ e = upds [(1, (zS s)), (2, (zaa .u8 c)), (7, (zS t.Text)), (8, (osv (some ac) 0 x8.length m7)), (9, (zI ad))] u ∧ vL w w' [some ac] [zab ([] ++ (am ++ []))] ∧ Keep w.heap.size [some ac] b4 [some ac] w' ∧ Els (rInt .u8) (vH w None [some ac] w') am ah ∧ x8.length = List.length ah ∧ (am ++ []).length = m7 * (rInt .u8).sz ∧ True) ?_ ?_
    ·
     refine zci aS rfl (fun aw => ?_) (fun aw => ?_)
     ·
      replace h := ite_t aw h
      refine zah rfl (zag (zae (v := (osv (some ac) 0 x8.length m7)) rfl (zag (zae (v := (zI ad)) rfl ?_))))
      obtain ⟨x13, bE, bF, q22, bG, h⟩ := zix h
      refine zag (zbl (r := (rInt .u8)) (b := ac) (o := 0) (n := bE) (m := x8.length) (xs := ag) (q := (0 + bE * (rInt .u8).sz)) zcg ti5 rfl ao rfl bF bG rfl ?_)
      obtain ⟨bH, n13, b7, q26, bI, h⟩ := zux h
      obtain rfl := zin bF b7
      have b8 := (ar.mono (K13 None))
      refine zdj (zdg (pre := []) (r := (rInt .u8)) (vs := [(zaa .u8 1)]) (a := 1) ti5 rfl rfl rfl rfl aH 0 rfl rfl b8 bG rfl bI ?_)
      have ba : x8.length = List.length bH := by rw [bI, List.length_set]; exact ao
      intro w13 aI bb bc bd b9
      have be : (aI ++ []).length = m7 * (rInt .u8).sz := zhc au b9
      have K14 := ks w bc
      refine zar ?_
      have ca := (bd.mono (K14 None))
      obtain rfl := zad h
      refine zap ?_
      exact ⟨bH, aI, _, rfl, (zef ⟨rfl, rfl, rfl, rfl, rfl, trivial⟩), bb, K14, ca, ba, be, trivial⟩
     replace h := ite_f aw h
     refine zbm ?_
     have cb := (ar.mono (K13 None))
     obtain rfl := zad h
     refine zap ?_
     exact ⟨ag, al, _, rfl, (zef ⟨rfl, rfl, rfl, rfl, rfl, trivial⟩), aH, zbp, cb, ao, au, trivial⟩
    rintro _ cc ⟨ah, am, u, rfl, rfl, ap, K15, aJ, ax, aK, -⟩
    replace h := b6
    try dsimp only at h
    refine zam ?_
    obtain ⟨cd, h, ce⟩ := zee h
    refine zbt (fun e w' => ∃ (aV : Bool) (u : Env), aV = cd ∧ e = upds [(1, (zS s)), (2, (zaa .u8 c)), (7, (zS t.Text)), (8, (osv (some ac) 0 x8.length m7)), (9, (zI ad)), (59, (zac aV))] u ∧ vL w w' [some ac] [zab ([] ++ (am ++ []))] ∧ Keep w.heap.size [some ac] cc [some ac] w' ∧ True) ?_ ?_
    ·
     refine zah rfl (zag (zae (v := (zS s)) rfl (zag (zae (v := (zI ad)) rfl ?_))))
     obtain ⟨aW, cg, ch, ci, -, h⟩ := zix h
     refine zag (zdf (xs := s) (i := ad) (n := cg) (a := aW) zax rfl rfl ch ci (zag (zdb (((UInt8.toNat aW : Int) : Int) = 1) rfl rfl zbg (zag (zae (v := (zac (decide (((UInt8.toNat aW : Int) : Int) = 1)))) rfl ?_)))))
     by_cases aa : ((UInt8.toNat aW : Int) : Int) = 1
     ·
      replace h := ite_t aa h
      refine zbb rfl rfl (zed aa) (zae (v := (zS t.Text)) rfl (zbb rfl rfl (zed aa) (zae (v := (zI ad)) rfl ?_)))
      obtain ⟨aX, cj, ck, cp, -, h⟩ := zix h
      refine zbb rfl rfl (zed aa) (zdf (xs := t.Text) (i := ad) (n := cj) (a := aX) zax rfl rfl ck cp (zbb rfl rfl (zed aa) (zdb (((UInt8.toNat aX : Int) : Int) = 95) rfl rfl zbg (zbb rfl rfl (zed aa) (zae (v := (zac (decide (((UInt8.toNat aX : Int) : Int) = 95)))) rfl ?_)))))
      by_cases ab : ((UInt8.toNat aX : Int) : Int) = 95
      ·
       replace h := ite_t ab h
       refine zbj rfl rfl (zed ab) (zbj rfl rfl (zed ab) (zbj rfl rfl (zed ab) (zbj rfl rfl (zed ab) (zbj rfl rfl (zed ab) (zbj rfl rfl (zed ab) (zcu rfl rfl (zcu rfl rfl (zbj rfl rfl (zed ab) (zbb rfl rfl (zed aa) (zbo (v := zT) rfl (zed ab) rfl (zag (zbo (v := zT) rfl (zed aa) rfl (zar ?_)))))))))))))
       obtain rfl := zad h
       refine zap ?_
       exact ⟨true, _, rfl, (zef ⟨rfl, rfl, rfl, rfl, rfl, rfl, trivial⟩), ap, zbp, trivial⟩
      replace h := ite_f ab h
      refine zbb rfl rfl (zec ab) (zae (v := (zS t.Text)) rfl (zbb rfl rfl (zec ab) (zae (v := (zI ad)) rfl ?_)))
      obtain ⟨aY, cq, cr, ct, -, h⟩ := zix h
      refine zbb rfl rfl (zec ab) (zdf (xs := t.Text) (i := ad) (n := cq) (a := aY) zax rfl rfl cr ct (zbb rfl rfl (zec ab) (zae (v := (zaa .u8 c)) rfl (zbb rfl rfl (zec ab) (zdb (((UInt8.toNat aY : Int) : Int) = c) rfl rfl zbg (zbb rfl rfl (zec ab) (zae (v := (zac (decide (((UInt8.toNat aY : Int) : Int) = c)))) rfl ?_)))))))
      by_cases ak : ((UInt8.toNat aY : Int) : Int) = c
      ·
       replace h := ite_t ak h
       refine zbb rfl rfl (zed ak) (zae (v := (zaa .u8 c)) rfl (zbb rfl rfl (zed ak) (OpY.neq ((c : Int) ≠ 37) rfl rfl zbg (zbb rfl rfl (zec ab) (zbo (v := (zac (decide ((c : Int) ≠ 37)))) rfl (zed ak) rfl (zbb rfl rfl (zed aa) (zbk (v := (zac (decide ((c : Int) ≠ 37)))) rfl (zec ab) rfl (zag (zbo (v := (zac (decide ((c : Int) ≠ 37)))) rfl (zed aa) rfl (zar ?_))))))))))
       obtain rfl := zad h
       refine zap ?_
       exact ⟨(decide ((c : Int) ≠ 37)), _, rfl, (zef ⟨rfl, rfl, rfl, rfl, rfl, rfl, trivial⟩), ap, zbp, trivial⟩
      replace h := ite_f ak h
      refine zbj rfl rfl (zec ak) (zbj rfl rfl (zec ak) (zbb rfl rfl (zec ab) (zbk (v := zF) rfl (zec ak) rfl (zbb rfl rfl (zed aa) (zbk (v := zF) rfl (zec ab) rfl (zag (zbo (v := zF) rfl (zed aa) rfl (zar ?_))))))))
      obtain rfl := zad h
      refine zap ?_
      exact ⟨false, _, rfl, (zef ⟨rfl, rfl, rfl, rfl, rfl, rfl, trivial⟩), ap, zbp, trivial⟩
     replace h := ite_f aa h
     refine zbj rfl rfl (zec aa) (zbj rfl rfl (zec aa) (zbj rfl rfl (zec aa) (zbj rfl rfl (zec aa) (zbj rfl rfl (zec aa) (zcu rfl rfl (zcu rfl rfl (zcu rfl rfl (zcu rfl rfl (zcu rfl rfl (zcu rfl rfl ?_))))))))))
     refine zcu rfl rfl ?_
     refine zcu rfl rfl ?_
     refine zcu rfl rfl ?_
     refine zbj rfl rfl (zec aa) (zag (zbk (v := zF) rfl (zec aa) rfl (zar ?_)))
     obtain rfl := zad h
     refine zap ?_
     exact ⟨false, _, rfl, (zef ⟨rfl, rfl, rfl, rfl, rfl, rfl, trivial⟩), ap, zbp, trivial⟩
    rintro _ w15 ⟨aV, u, rfl, rfl, aL, K16, -⟩
    replace h := ce
    try dsimp only at h
    refine zci aV rfl (fun ay => ?_) (fun ay => ?_)
    ·
     replace h := ite_t ay h
     refine zah rfl (zag (zae (v := (osv (some ac) 0 x8.length m7)) rfl (zag (zae (v := (zI ad)) rfl (zag (zca (z := (iw (ad + 1))) rfl rfl rfl ?_))))))
     obtain ⟨x19, bJ, bK, q40, bL, h⟩ := zix h
     refine zag (zbl (r := (rInt .u8)) (b := ac) (o := 0) (n := bJ) (m := x8.length) (xs := ah) (q := (0 + bJ * (rInt .u8).sz)) zcg ti5 rfl ax rfl bK bL rfl ?_)
     obtain ⟨bM, n18, cu, q44, bN, h⟩ := zux h
     obtain rfl := zin bK cu
     have cv := (aJ.mono (K16 None))
     refine zdj (zdg (pre := []) (r := (rInt .u8)) (vs := [(zaa .u8 1)]) (a := 1) ti5 rfl rfl rfl rfl aL 0 rfl rfl cv bL rfl bN ?_)
     have bf : x8.length = List.length bM := by rw [bN, List.length_set]; exact ax
     intro w16 aM bg bh bi cw
     have bj : (aM ++ []).length = m7 * (rInt .u8).sz := zhc aK cw
     have K17 := ks w bh
     refine zar (zbe (zah rfl (zag (zae (v := (zI ad)) rfl ?_))))
     refine zag (zca (z := (iw (ad + 1))) rfl rfl rfl (zag (zai (v := (zI (iw (ad + 1)))) rfl (zar ?_))))
     have cx := (bi.mono (K17 None))
     obtain rfl := zad h
     refine zap ⟨(bM, (iw (ad + 1))), rfl, ?_⟩
     exact ⟨aM, _, (zef ⟨rfl, rfl, rfl, rfl, rfl, trivial⟩), bg, (zak (zak (zak (zak K12 K13) K15) K16) K17), cx, bf, bj, trivial⟩
    replace h := ite_f ay h
    refine zbm (zbe (zah rfl (zag (zae (v := (zI ad)) rfl ?_))))
    refine zag (zca (z := (iw (ad + 1))) rfl rfl rfl (zag (zai (v := (zI (iw (ad + 1)))) rfl (zar ?_))))
    have cy := (aJ.mono (K16 None))
    obtain rfl := zad h
    refine zap ⟨(ah, (iw (ad + 1))), rfl, ?_⟩
    exact ⟨am, _, (zef ⟨rfl, rfl, rfl, rfl, rfl, trivial⟩), aL, (zak (zak (zak K12 K13) K15) K16), cy, ax, aK, trivial⟩
   replace h := ite_f av h
   refine zcd rfl ?_
   obtain rfl := zad h
   obtain rfl := a9 _ rfl
   replace h := bD
   try dsimp only at h
   refine zap ?_
   exact ⟨ag, al, _, rfl, (zef ⟨rfl, rfl, trivial⟩), aq, K12, ar, ao, au, trivial⟩
  rintro _ w17 ⟨aj, an, u, rfl, rfl, aN, K18, bk, az, bl, -⟩
  replace h := bD
  try dsimp only at h
  refine zam (zah rfl (zag (zae (v := (zS t.Text)) rfl (zag (zae (v := (osv (some ac) 0 x8.length m7)) rfl ?_)))))
  obtain ⟨bm, cz, h⟩ := zee h
  have bn := aN.lendW [0] rfl rfl rfl
  refine zag (zdt en70 rfl rfl (calls_args (by rw [← az]; first | done | rfl) (qClosed_w N t.Text aj (some ac) m7 an [] [some ac] _ Any (by have h9 := bn; (try rw [az] at h9); exact h9) (bk.mono (zcv [0] rfl)) bl bm cz)) ?_)
  rintro _ cA ⟨bo, bp, rfl, bq, K19, br, cB, cC, -⟩
  refine ⟨_, rfl, ?_⟩
  have bu := aN.backW [0] [] rfl rfl rfl rfl bq
  have bw : vL w cA [some ac] [zab ([] ++ (bo ++ bp))] := (by have h9 := bu.1; (try rw [← (az.trans br)] at h9); exact h9)
  refine zag (zai (v := (zS bm.1)) rfl (zar (zbv ?_)))
  obtain rfl := zad h
  refine ⟨[(zS bm.1)], zrt, ⟨_, rfl, bw.done, ?_⟩⟩
  exact zrt
 replace h := ite_f a1 h
 refine zbm (zam (zam (zah rfl (zag (zae (v := (zS s)) rfl ?_)))))
 obtain ⟨bx, cD, cE, cF, -, h⟩ := zix h
 refine zag (zdf (xs := s) (i := 0) (n := cD) (a := bx) zax rfl rfl cE cF (zag (OpY.neq (((UInt8.toNat bx : Int) : Int) ≠ 61) rfl rfl zbg (zar (zbi (((UInt8.toNat bx : Int) : Int) ≠ 61) rfl (fun aA => ?_) (fun aA => ?_))))))
 ·
  replace h := ite_t aA h
  refine zam (zah rfl (zag (zae (v := (zS s)) rfl (zag (zai (v := (zS s)) rfl (zar (zbv ?_)))))))
  obtain rfl := zad h
  refine ⟨[(zS s)], zrt, ⟨_, rfl, aE.done, ?_⟩⟩
  exact zrt
 replace h := ite_f aA h
 refine zbm (zam (zah rfl (zag (zae (v := (zS s)) rfl ?_))))
 obtain ⟨af, cG, cH, cI, -, h⟩ := zix h
 refine zag (zdf (xs := s) (i := 1) (n := cG) (a := af) zax rfl rfl cH cI (zag (zds (x := (UInt8.toNat af : Int)) (z := (iw (UInt8.toNat af : Int))) zcw zay rfl rfl (zag (zai (v := (zI (iw (UInt8.toNat af : Int)))) rfl (zar (zam (zam ?_))))))))
 obtain ⟨cJ, h, cK⟩ := zee h
 refine zbt (fun e w' => ∃ (aZ : Bool) (u : Env), aZ = cJ ∧ e = upds [(2, (zaa .u8 c)), (7, (zS t.Text)), (10, (zI (iw (UInt8.toNat af : Int)))), (84, (zac aZ))] u ∧ vL w w' [] [] ∧ Keep w.heap.size [some b1] w2 [] w' ∧ True) ?_ ?_
 ·
  refine zah rfl (zag (zae (v := (zI (iw (UInt8.toNat af : Int)))) rfl (zag (zae (v := (zS t.Text)) rfl (zag (zdc zax rfl (zag (zdb (((iw (UInt8.toNat af : Int)) : Int) = (t.Text.length : Int)) rfl rfl zbg (zag (zae (v := (zac (decide (((iw (UInt8.toNat af : Int)) : Int) = (t.Text.length : Int))))) rfl ?_))))))))))
  by_cases ae : ((iw (UInt8.toNat af : Int)) : Int) = (t.Text.length : Int)
  ·
   replace h := ite_t ae h
   refine zbj rfl rfl (zed ae) (zbj rfl rfl (zed ae) (zbj rfl rfl (zed ae) (zbj rfl rfl (zed ae) (zbj rfl rfl (zed ae) (zag (zbo (v := zT) rfl (zed ae) rfl (zar ?_)))))))
   have aO := aE.pick [] rfl rfl rfl
   have bz : vL w w2 [] [] := aO.1
   have K20 := ks w aO.2
   obtain rfl := zad h
   refine zap ?_
   exact ⟨true, _, rfl, (zef ⟨rfl, rfl, rfl, rfl, trivial⟩), bz, K20, trivial⟩
  replace h := ite_f ae h
  refine zbb rfl rfl (zec ae) (zae (v := (zaa .u8 c)) rfl (zbb rfl rfl (zec ae) (zae (v := (zS t.Text)) rfl (zbb rfl rfl (zec ae) (zae (v := (zI (iw (UInt8.toNat af : Int)))) rfl ?_)))))
  obtain ⟨a0, cL, cM, cN, -, h⟩ := zix h
  refine zbb rfl rfl (zec ae) (zdf (xs := t.Text) (i := (iw (UInt8.toNat af : Int))) (n := cL) (a := a0) zax rfl rfl cM cN (zbb rfl rfl (zec ae) (OpY.gtr ((c : Int) > (UInt8.toNat a0 : Int)) rfl rfl zbg (zag (zbk (v := (zac (decide ((c : Int) > (UInt8.toNat a0 : Int))))) rfl (zec ae) rfl (zar ?_))))))
  have aP := aE.pick [] rfl rfl rfl
  have bA : vL w w2 [] [] := aP.1
  have K21 := ks w aP.2
  obtain rfl := zad h
  refine zap ?_
  exact ⟨(decide ((c : Int) > (UInt8.toNat a0 : Int))), _, rfl, (zef ⟨rfl, rfl, rfl, rfl, trivial⟩), bA, K21, trivial⟩
 rintro _ cO ⟨aZ, u, rfl, rfl, aB, K22, -⟩
 replace h := cK
 try dsimp only at h
 refine zci aZ rfl (fun aC => ?_) (fun aC => ?_)
 ·
  replace h := ite_t aC h
  refine zam (zah rfl (zag (zai (v := (zS ([62] : List UInt8))) rfl (zar (zbv ?_)))))
  obtain rfl := zad h
  refine ⟨[(zS ([62] : List UInt8))], zrt, ⟨_, rfl, aB.done, ?_⟩⟩
  exact zrt
 replace h := ite_f aC h
 refine zbm (zam (zam (zah rfl (zag (zae (v := (zaa .u8 c)) rfl ?_)))))
 refine zag (zae (v := (zS t.Text)) rfl (zag (zae (v := (zI (iw (UInt8.toNat af : Int)))) rfl ?_)))
 obtain ⟨bB, cP, cQ, cR, -, h⟩ := zix h
 refine zag (zdf (xs := t.Text) (i := (iw (UInt8.toNat af : Int))) (n := cP) (a := bB) zax rfl rfl cQ cR (zag (zcf ((c : Int) < (UInt8.toNat bB : Int)) rfl rfl zbg (zar (zbi ((c : Int) < (UInt8.toNat bB : Int)) rfl (fun aD => ?_) (fun aD => ?_))))))
 ·
  replace h := ite_t aD h
  refine zam (zah rfl (zag (zai (v := (zS ([60] : List UInt8))) rfl (zar (zbv ?_)))))
  obtain rfl := zad h
  refine ⟨[(zS ([60] : List UInt8))], zrt, ⟨_, rfl, aB.done, ?_⟩⟩
  exact zrt
 replace h := ite_f aD h
 refine zbm (zam (zah rfl (zag (zae (v := (zI (iw (UInt8.toNat af : Int)))) rfl ?_))))
 refine zag (zca (z := (iw ((iw (UInt8.toNat af : Int)) + 1))) rfl rfl rfl (zag (zds (x := (iw ((iw (UInt8.toNat af : Int)) + 1))) (z := (uw8 (iw ((iw (UInt8.toNat af : Int)) + 1)))) zay zcw rfl rfl ?_)))
 have aQ : Els (rInt .u8) (vH w None [] cO) [(zaa .u8 (uw8 (iw ((iw (UInt8.toNat af : Int)) + 1))))] [(uw8 (iw ((iw (UInt8.toNat af : Int)) + 1)))] := (zcq (a := [(zaa .u8 (uw8 (iw ((iw (UInt8.toNat af : Int)) + 1))))]) rfl zcn)
 refine zag (zco (r := (rInt .u8)) (vs := [(zaa .u8 (uw8 (iw ((iw (UInt8.toNat af : Int)) + 1))))]) (css := [[(zaa .u8 (uw8 (iw ((iw (UInt8.toNat af : Int)) + 1))))]]) (xs := [(uw8 (iw ((iw (UInt8.toNat af : Int)) + 1)))]) zcg ti5 (zaj rfl) rfl rfl ⟨rfl, rfl, trivial⟩ (zaj rfl) aQ rfl aB ?_)
 intro b11 w20 cS aR bC
 have K23 := ks w bC
 have cT := (aQ.mono (K23 None))
 refine zag (OpY.strRow (pre := []) (cs := [(zaa .u8 (uw8 (iw ((iw (UInt8.toNat af : Int)) + 1))))]) (sp := []) (xs := [(uw8 (iw ((iw (UInt8.toNat af : Int)) + 1)))]) zcg zax zcw rfl (aR.at 0 rfl rfl) cT rfl ?_)
 obtain ⟨u10, cU, h⟩ := zee h
 have cV := chk_some cU
 refine zag (OpY.sAdd (x := ([61] : List UInt8)) (y := (bstr [(uw8 (iw ((iw (UInt8.toNat af : Int)) + 1)))])) rfl rfl cV (zag (zai (v := (zaf (s8 (([61] : List UInt8) ++ (bstr [(uw8 (iw ((iw (UInt8.toNat af : Int)) + 1)))]))))) rfl (zar (zbv ?_)))))
 obtain rfl := zad h
 refine ⟨[(zaf (s8 (([61] : List UInt8) ++ (bstr [(uw8 (iw ((iw (UInt8.toNat af : Int)) + 1)))]))))], zrt, ⟨_, rfl, aR.done, ?_⟩⟩
 exact zrt
theorem qFinal_w (N : Nat) (t : TTest) (s : (List UInt8))  (w : World) (S : Nat → Prop)  (r : Bool) (h : qFinal N t s = some r) :
  Calls Try.prog 58 #[(zbr #[(zI t.Var), (zI t.Kind), (zac t.Negated), (zS t.Text)]), (zS s)] w (Ret w (fun v w' => (zac r) = v ∧ True)) := by
 unfold qFinal at h
 have hL : vL w w [] [] := Go.X.Loc.begin0 w
 refine calls_of (l := [(zbr #[(zI t.Var), (zI t.Kind), (zac t.Negated), (zS t.Text)]), (zS s)]) (rl := [.tmp 4]) (n := 70) Try.func58 rfl rfl rfl (zaj rfl) ?_
 refine zam (zah rfl (zag (zdo (cs := [(zI t.Var), (zI t.Kind), (zac t.Negated), (zS t.Text)]) rfl rfl hL ?_)))
 intro b1 w2 az hS5
 refine zag (zai (v := zF) rfl (zar (zam (zah rfl (zag (zai (v := zF) rfl (zar (zam (zam (zah rfl (zag (zat (q := 1) zbd rfl ti3 rfl rfl rfl (zag (zav (v := (zI t.Kind)) zay rfl rfl (az.at 0 rfl rfl) rfl (zag (zdb ((t.Kind : Int) = 1) rfl rfl zbg (zar ?_)))))))))))))))))
 obtain ⟨aQ, h, aR⟩ := zee h
 refine zbt (fun e w' => ∃ (an : Bool) (u : Env), an = aQ ∧ e = upds [(2, (zal (some ⟨b1, 0, none⟩))), (5, (zac an))] u ∧ vL w w' [some b1] [zab [(zI t.Var), (zI t.Kind), (zac t.Negated), (zS t.Text)]] ∧ Keep w.heap.size [some b1] w2 [some b1] w' ∧ True) ?_ ?_
 ·
  refine zbi ((t.Kind : Int) = 1) rfl (fun aw => ?_) (fun aw => ?_)
  ·
   replace h := ite_t aw h
   refine zah rfl (zag (zae (v := (zS s)) rfl (zag (zat (q := 3) zbd rfl ti9 rfl rfl rfl (zag (zav (v := (zS t.Text)) zax rfl rfl (az.at 0 rfl rfl) rfl (zag (zdc zax rfl ?_))))))))
   obtain ⟨aC, aS, aT, aU, -, h⟩ := zix h
   refine zag (zdf (xs := s) (i := (t.Text.length : Int)) (n := aS) (a := aC) zax rfl rfl aT aU (zag (zdb (((UInt8.toNat aC : Int) : Int) = 1) rfl rfl zbg (zag (zai (v := (zac (decide (((UInt8.toNat aC : Int) : Int) = 1)))) rfl (zar ?_))))))
   obtain rfl := zad h
   refine zap ?_
   exact ⟨(decide (((UInt8.toNat aC : Int) : Int) = 1)), _, rfl, (zef ⟨rfl, rfl, trivial⟩), az, zbp, trivial⟩
  replace h := ite_f aw h
  refine zam ?_
  obtain ⟨aV, h, aW⟩ := zee h
  refine zbt (fun e w' => ∃ (aa : Bool) (u : Env), aa = aV ∧ e = upds [(1, (zS s)), (2, (zal (some ⟨b1, 0, none⟩))), (6, (zac aa))] u ∧ vL w w' [some b1] [zab [(zI t.Var), (zI t.Kind), (zac t.Negated), (zS t.Text)]] ∧ Keep w.heap.size [some b1] w2 [some b1] w' ∧ True) ?_ ?_
  ·
   obtain ⟨av, aN, aO, aP, -, h⟩ := zix h
   by_cases ad : ((UInt8.toNat av : Int) : Int) = 61
   ·
    replace h := ite_t ad h
    obtain ⟨ax, aX, aY, aZ, -, h⟩ := zix h
    refine zcx 10 [] [] (fun W1 => [.det (zS s), .det (zaa .u8 (UInt8.toNat av : Int)), .det (zac (decide (((UInt8.toNat av : Int) : Int) = 61))), .det (zac (decide (((UInt8.toNat av : Int) : Int) = 61))), .det (zS s), .det (zaa .u8 (UInt8.toNat ax : Int)), .det (zI (iw (UInt8.toNat ax : Int))), .det (zal (some ⟨b1, 3, none⟩)), .det (zS t.Text), .det (zI (t.Text.length : Int))]) mixed rfl rfl rfl (fun _ => rfl) (fun _ => rfl) ?_ ?_
    ·
     intro W1 _
     exact trivial
    intro a0 aF
    obtain ⟨aA, K10⟩ := zl az aF
    refine zaw (fun _ _ => zaq (zae rfl (er rfl))) (zaw (fun _ _ => zaq (zdf (xs := s) (i := 0) (n := aN) (a := av) zax rfl rfl aO aP (er rfl))) (zaw (fun _ _ => zaq (zdb (((UInt8.toNat av : Int) : Int) = 61) rfl rfl zbg (er rfl))) (zaw (fun _ _ => zaq (zae rfl (er rfl))) (zaw (fun _ _ => zcp rfl rfl (zed ad) (zae rfl (er rfl))) (zaw (fun _ _ => zcp rfl rfl (zed ad) (zdf (xs := s) (i := 1) (n := aX) (a := ax) zax rfl rfl aY aZ (er rfl))) (zaw (fun _ _ => zcp rfl rfl (zed ad) (zds zcw zay rfl rfl (er rfl))) ?_))))))
    refine zaw (fun _ _ => zcp rfl rfl (zed ad) (zat zbd rfl ti9 rfl rfl rfl (er rfl))) (zaw (fun _ aG => zcp rfl rfl (zed ad) (zav zax rfl rfl ((aA.ext aG).at 0 rfl rfl) rfl (er rfl))) (zaw (fun _ _ => zcp rfl rfl (zed ad) (zdc zax rfl (er rfl))) (zdd ?_)))
    rintro w21 Z30 aH a1 ⟨-⟩ a2
    have a3 := @zhb a0 Z30
    obtain ⟨aI, K11⟩ := zl aA aH
    refine zbb rfl rfl (zed ad) (zdb (((iw (UInt8.toNat ax : Int)) : Int) = (t.Text.length : Int)) rfl rfl zbg (zag (zbo (v := (zac (decide (((iw (UInt8.toNat ax : Int)) : Int) = (t.Text.length : Int))))) rfl (zed ad) rfl (zag (zai (v := (zac (decide (((iw (UInt8.toNat ax : Int)) : Int) = (t.Text.length : Int))))) rfl (zar ?_))))))
    obtain rfl := zad h
    refine zap ?_
    exact ⟨(decide (((iw (UInt8.toNat ax : Int)) : Int) = (t.Text.length : Int))), _, rfl, (zef ⟨rfl, rfl, rfl, trivial⟩), aI, (zak K10 K11), trivial⟩
   replace h := ite_f ad h
   refine zcx 10 [] [] (fun W1 => [.det (zS s), .det (zaa .u8 (UInt8.toNat av : Int)), .det (zac (decide (((UInt8.toNat av : Int) : Int) = 61))), .det (zac (decide (((UInt8.toNat av : Int) : Int) = 61))), .det undef, .det undef, .det undef, .det undef, .det undef, .det undef]) mixed rfl rfl rfl (fun _ => rfl) (fun _ => rfl) ?_ ?_
   ·
    intro W1 _
    exact trivial
   intro a4 aJ
   obtain ⟨aK, K12⟩ := zl az aJ
   refine zaw (fun _ _ => zaq (zae rfl (er rfl))) (zaw (fun _ _ => zaq (zdf (xs := s) (i := 0) (n := aN) (a := av) zax rfl rfl aO aP (er rfl))) (zaw (fun _ _ => zaq (zdb (((UInt8.toNat av : Int) : Int) = 61) rfl rfl zbg (er rfl))) (zaw (fun _ _ => zaq (zae rfl (er rfl))) (zaw (fun _ _ => zdh rfl rfl (zec ad) (er rfl)) (zaw (fun _ _ => zdh rfl rfl (zec ad) (er rfl)) (zaw (fun _ _ => zdh rfl rfl (zec ad) (er rfl)) ?_))))))
   refine zaw (fun _ _ => zdh rfl rfl (zec ad) (er rfl)) (zaw (fun _ _ => zdh rfl rfl (zec ad) (er rfl)) (zaw (fun _ _ => zdh rfl rfl (zec ad) (er rfl)) (zdd ?_)))
   rintro w33 Z41 aL a5 ⟨-⟩ a6
   have a7 := @zhb a4 Z41
   obtain ⟨aM, K13⟩ := zl aK aL
   refine zbj rfl rfl (zec ad) (zag (zbk (v := zF) rfl (zec ad) rfl (zag (zai (v := zF) rfl (zar ?_)))))
   obtain rfl := zad h
   refine zap ?_
   exact ⟨false, _, rfl, (zef ⟨rfl, rfl, rfl, trivial⟩), aM, (zak K12 K13), trivial⟩
  rintro _ a8 ⟨aa, u, rfl, rfl, ay, K14, -⟩
  replace h := aW
  try dsimp only at h
  refine zam ?_
  obtain ⟨a9, h, ba⟩ := zee h
  refine zbt (fun e w' => ∃ (ab : Bool) (u : Env), ab = a9 ∧ e = upds [(2, (zal (some ⟨b1, 0, none⟩))), (6, (zac aa)), (7, (zac ab))] u ∧ vL w w' [some b1] [zab [(zI t.Var), (zI t.Kind), (zac t.Negated), (zS t.Text)]] ∧ Keep w.heap.size [some b1] a8 [some b1] w' ∧ True) ?_ ?_
  ·
   refine zah rfl (zag (zae (v := (zS s)) rfl ?_))
   obtain ⟨aD, bb, bc, bd, -, h⟩ := zix h
   refine zag (zdf (xs := s) (i := 0) (n := bb) (a := aD) zax rfl rfl bc bd (zag (zdb (((UInt8.toNat aD : Int) : Int) = 60) rfl rfl zbg (zag (zae (v := (zac (decide (((UInt8.toNat aD : Int) : Int) = 60)))) rfl ?_)))))
   by_cases ag : ((UInt8.toNat aD : Int) : Int) = 60
   ·
    replace h := ite_t ag h
    refine zbj rfl rfl (zed ag) (zbj rfl rfl (zed ag) (zbj rfl rfl (zed ag) (zbj rfl rfl (zed ag) (zcu rfl rfl (zcu rfl rfl (zbj rfl rfl (zed ag) (zag (zbo (v := zT) rfl (zed ag) rfl (zag (zai (v := zT) rfl (zar ?_)))))))))))
    obtain rfl := zad h
    refine zap ?_
    exact ⟨true, _, rfl, (zef ⟨rfl, rfl, rfl, trivial⟩), ay, zbp, trivial⟩
   replace h := ite_f ag h
   refine zbb rfl rfl (zec ag) (zae (v := (zS s)) rfl ?_)
   obtain ⟨aE, be, bf, bg, -, h⟩ := zix h
   refine zbb rfl rfl (zec ag) (zdf (xs := s) (i := 0) (n := be) (a := aE) zax rfl rfl bf bg (zbb rfl rfl (zec ag) (zdb (((UInt8.toNat aE : Int) : Int) = 61) rfl rfl zbg (zbb rfl rfl (zec ag) (zae (v := (zac (decide (((UInt8.toNat aE : Int) : Int) = 61)))) rfl ?_)))))
   by_cases am : ((UInt8.toNat aE : Int) : Int) = 61
   ·
    replace h := ite_t am h
    refine zbb rfl rfl (zed am) (zae (v := (zac aa)) rfl (zbb rfl rfl (zed am) (OpY.not (x := aa) rfl (zbb rfl rfl (zec ag) (zbo (v := (zac (!aa))) rfl (zed am) rfl (zag (zbk (v := (zac (!aa))) rfl (zec ag) rfl (zag (zai (v := (zac (!aa))) rfl (zar ?_))))))))))
    obtain rfl := zad h
    refine zap ?_
    exact ⟨(!aa), _, rfl, (zef ⟨rfl, rfl, rfl, trivial⟩), ay, zbp, trivial⟩
   replace h := ite_f am h
   refine zbj rfl rfl (zec am) (zbj rfl rfl (zec am) (zbb rfl rfl (zec ag) (zbk (v := zF) rfl (zec am) rfl (zag (zbk (v := zF) rfl (zec ag) rfl (zag (zai (v := zF) rfl (zar ?_))))))))
   obtain rfl := zad h
   refine zap ?_
   exact ⟨false, _, rfl, (zef ⟨rfl, rfl, rfl, trivial⟩), ay, zbp, trivial⟩
  rintro _ w35 ⟨ab, u, rfl, rfl, ac, K15, -⟩
  replace h := ba
  try dsimp only at h
  refine zah rfl (zag (zat (q := 1) zbd rfl ti3 rfl rfl rfl (zag (zav (v := (zI t.Kind)) zay rfl rfl (ac.at 0 rfl rfl) rfl (zag (zdb ((t.Kind : Int) = 0) rfl rfl zbg (zag (zae (v := (zac (decide ((t.Kind : Int) = 0)))) rfl ?_))))))))
  by_cases ao : (t.Kind : Int) = 0
  ·
   replace h := ite_t ao h
   refine zbb rfl rfl (zed ao) (zae (v := (zac aa)) rfl (zag (zbo (v := (zac aa)) rfl (zed ao) rfl (zag (zae (v := (zac aa)) rfl ?_)))))
   by_cases ah : aa = true
   ·
    replace h := ite_t ah h
    refine zbj rfl rfl ah (zbj rfl rfl ah (zbj rfl rfl ah (zbj rfl rfl ah (zcu rfl rfl (zbj rfl rfl ah (zag (zbo (v := zT) rfl ah rfl ?_)))))))
    refine zag (zae (v := zT) rfl (zbj rfl rfl rfl (zbj rfl rfl rfl (zbj rfl rfl rfl (zbj rfl rfl rfl (zcu rfl rfl (zcu rfl rfl (zcu rfl rfl (zcu rfl rfl (zbj rfl rfl rfl ?_))))))))))
    refine zag (zbo (v := zT) rfl rfl rfl (zag (zai (v := zT) rfl (zar ?_))))
    obtain rfl := zad h
    refine zap ?_
    exact ⟨true, _, rfl, (zef ⟨rfl, rfl, trivial⟩), ac, (zak K14 K15), trivial⟩
   replace h := ite_f ah h
   refine zbb rfl rfl (zeg ah) (zat (q := 1) zbd rfl ti3 rfl rfl rfl (zbb rfl rfl (zeg ah) (zav (v := (zI t.Kind)) zay rfl rfl (ac.at 0 rfl rfl) rfl (zbb rfl rfl (zeg ah) (zdb ((t.Kind : Int) = 2) rfl rfl zbg (zbb rfl rfl (zeg ah) (zae (v := (zac (decide ((t.Kind : Int) = 2)))) rfl ?_)))))))
   by_cases ap : (t.Kind : Int) = 2
   ·
    replace h := ite_t ap h
    refine zbb rfl rfl (zed ap) (zae (v := (zac ab)) rfl (zbb rfl rfl (zeg ah) (zbo (v := (zac ab)) rfl (zed ap) rfl (zag (zbk (v := (zac ab)) rfl (zeg ah) rfl (zag (zae (v := (zac ab)) rfl ?_)))))))
    by_cases ae : ab = true
    ·
     replace h := ite_t ae h
     refine zbj rfl rfl ae (zbj rfl rfl ae (zbj rfl rfl ae (zbj rfl rfl ae (zcu rfl rfl (zcu rfl rfl (zcu rfl rfl ?_))))))
     refine zcu rfl rfl ?_
     refine zbj rfl rfl ae (zag (zbo (v := zT) rfl ae rfl (zag (zai (v := zT) rfl (zar ?_)))))
     obtain rfl := zad h
     refine zap ?_
     exact ⟨true, _, rfl, (zef ⟨rfl, rfl, trivial⟩), ac, (zak K14 K15), trivial⟩
    replace h := ite_f ae h
    refine zbb rfl rfl (zeg ae) (zat (q := 1) zbd rfl ti3 rfl rfl rfl (zbb rfl rfl (zeg ae) (zav (v := (zI t.Kind)) zay rfl rfl (ac.at 0 rfl rfl) rfl (zbb rfl rfl (zeg ae) (zdb ((t.Kind : Int) = 3) rfl rfl zbg (zbb rfl rfl (zeg ae) (zae (v := (zac (decide ((t.Kind : Int) = 3)))) rfl ?_)))))))
    by_cases ak : (t.Kind : Int) = 3
    ·
     replace h := ite_t ak h
     refine zbb rfl rfl (zed ak) (zae (v := (zac ab)) rfl (zbb rfl rfl (zed ak) (zae (v := (zac ab)) rfl (zbb rfl rfl (zeg ae) (zae (v := (zac aa)) rfl (zbb rfl rfl (zed ak) (zbk (v := (zac aa)) rfl (zeg ae) rfl (zbb rfl rfl (zeg ae) (zbo (v := (zac aa)) rfl (zed ak) rfl (zag (zbk (v := (zac aa)) rfl (zeg ae) rfl (zag (zai (v := (zac aa)) rfl (zar ?_))))))))))))))
     obtain rfl := zad h
     refine zap ?_
     exact ⟨aa, _, rfl, (zef ⟨rfl, rfl, trivial⟩), ac, (zak K14 K15), trivial⟩
    replace h := ite_f ak h
    refine zbj rfl rfl (zec ak) (zbj rfl rfl (zec ak) (zcu rfl rfl (zbj rfl rfl (zec ak) (zbb rfl rfl (zeg ae) (zbk (v := zF) rfl (zec ak) rfl (zag (zbk (v := zF) rfl (zeg ae) rfl (zag (zai (v := zF) rfl (zar ?_))))))))))
    obtain rfl := zad h
    refine zap ?_
    exact ⟨false, _, rfl, (zef ⟨rfl, rfl, trivial⟩), ac, (zak K14 K15), trivial⟩
   replace h := ite_f ap h
   refine zbj rfl rfl (zec ap) (zbb rfl rfl (zeg ah) (zbk (v := zF) rfl (zec ap) rfl (zag (zbk (v := zF) rfl (zeg ah) rfl (zag (zae (v := zF) rfl (zbb rfl rfl rfl (zat (q := 1) zbd rfl ti3 rfl rfl rfl (zbb rfl rfl rfl (zav (v := (zI t.Kind)) zay rfl rfl (ac.at 0 rfl rfl) rfl (zbb rfl rfl rfl (zdb ((t.Kind : Int) = 3) rfl rfl zbg ?_))))))))))))
   refine zbb rfl rfl rfl (zae (v := (zac (decide ((t.Kind : Int) = 3)))) rfl ?_)
   by_cases ai : (t.Kind : Int) = 3
   ·
    replace h := ite_t ai h
    refine zbb rfl rfl (zed ai) (zae (v := (zac ab)) rfl (zbb rfl rfl (zed ai) (zae (v := (zac ab)) rfl ?_)))
    by_cases aq : ab = true
    ·
     replace h := ite_t aq h
     refine zbj rfl rfl aq (zbb rfl rfl (zed ai) (zbo (v := zT) rfl aq rfl (zbb rfl rfl rfl (zbo (v := zT) rfl (zed ai) rfl (zag (zbk (v := zT) rfl rfl rfl (zag (zai (v := zT) rfl (zar ?_)))))))))
     obtain rfl := zad h
     refine zap ?_
     exact ⟨true, _, rfl, (zef ⟨rfl, rfl, trivial⟩), ac, (zak K14 K15), trivial⟩
    replace h := ite_f aq h
    refine zbb rfl rfl (zeg aq) (zae (v := (zac aa)) rfl (zbb rfl rfl (zed ai) (zbk (v := (zac aa)) rfl (zeg aq) rfl (zbb rfl rfl rfl (zbo (v := (zac aa)) rfl (zed ai) rfl (zag (zbk (v := (zac aa)) rfl rfl rfl (zag (zai (v := (zac aa)) rfl (zar ?_))))))))))
    obtain rfl := zad h
    refine zap ?_
    exact ⟨aa, _, rfl, (zef ⟨rfl, rfl, trivial⟩), ac, (zak K14 K15), trivial⟩
   replace h := ite_f ai h
   refine zbj rfl rfl (zec ai) (zbj rfl rfl (zec ai) (zcu rfl rfl (zbj rfl rfl (zec ai) (zbb rfl rfl rfl (zbk (v := zF) rfl (zec ai) rfl (zag (zbk (v := zF) rfl rfl rfl (zag (zai (v := zF) rfl (zar ?_))))))))))
   obtain rfl := zad h
   refine zap ?_
   exact ⟨false, _, rfl, (zef ⟨rfl, rfl, trivial⟩), ac, (zak K14 K15), trivial⟩
  replace h := ite_f ao h
  refine zbj rfl rfl (zec ao) (zag (zbk (v := zF) rfl (zec ao) rfl (zag (zae (v := zF) rfl (zbb rfl rfl rfl (zat (q := 1) zbd rfl ti3 rfl rfl rfl (zbb rfl rfl rfl (zav (v := (zI t.Kind)) zay rfl rfl (ac.at 0 rfl rfl) rfl (zbb rfl rfl rfl (zdb ((t.Kind : Int) = 2) rfl rfl zbg (zbb rfl rfl rfl (zae (v := (zac (decide ((t.Kind : Int) = 2)))) rfl ?_))))))))))))
  by_cases ar : (t.Kind : Int) = 2
  ·
   replace h := ite_t ar h
   refine zbb rfl rfl (zed ar) (zae (v := (zac ab)) rfl (zbb rfl rfl rfl (zbo (v := (zac ab)) rfl (zed ar) rfl (zag (zbk (v := (zac ab)) rfl rfl rfl (zag (zae (v := (zac ab)) rfl ?_)))))))
   by_cases af : ab = true
   ·
    replace h := ite_t af h
    refine zbj rfl rfl af (zbj rfl rfl af (zbj rfl rfl af (zbj rfl rfl af (zcu rfl rfl (zcu rfl rfl (zcu rfl rfl ?_))))))
    refine zcu rfl rfl ?_
    refine zbj rfl rfl af (zag (zbo (v := zT) rfl af rfl (zag (zai (v := zT) rfl (zar ?_)))))
    obtain rfl := zad h
    refine zap ?_
    exact ⟨true, _, rfl, (zef ⟨rfl, rfl, trivial⟩), ac, (zak K14 K15), trivial⟩
   replace h := ite_f af h
   refine zbb rfl rfl (zeg af) (zat (q := 1) zbd rfl ti3 rfl rfl rfl (zbb rfl rfl (zeg af) (zav (v := (zI t.Kind)) zay rfl rfl (ac.at 0 rfl rfl) rfl (zbb rfl rfl (zeg af) (zdb ((t.Kind : Int) = 3) rfl rfl zbg (zbb rfl rfl (zeg af) (zae (v := (zac (decide ((t.Kind : Int) = 3)))) rfl ?_)))))))
   by_cases al : (t.Kind : Int) = 3
   ·
    replace h := ite_t al h
    refine zbb rfl rfl (zed al) (zae (v := (zac ab)) rfl (zbb rfl rfl (zed al) (zae (v := (zac ab)) rfl (zbb rfl rfl (zeg af) (zae (v := (zac aa)) rfl (zbb rfl rfl (zed al) (zbk (v := (zac aa)) rfl (zeg af) rfl (zbb rfl rfl (zeg af) (zbo (v := (zac aa)) rfl (zed al) rfl (zag (zbk (v := (zac aa)) rfl (zeg af) rfl (zag (zai (v := (zac aa)) rfl (zar ?_))))))))))))))
    obtain rfl := zad h
    refine zap ?_
    exact ⟨aa, _, rfl, (zef ⟨rfl, rfl, trivial⟩), ac, (zak K14 K15), trivial⟩
   replace h := ite_f al h
   refine zbj rfl rfl (zec al) (zbj rfl rfl (zec al) (zcu rfl rfl (zbj rfl rfl (zec al) (zbb rfl rfl (zeg af) (zbk (v := zF) rfl (zec al) rfl (zag (zbk (v := zF) rfl (zeg af) rfl (zag (zai (v := zF) rfl (zar ?_))))))))))
   obtain rfl := zad h
   refine zap ?_
   exact ⟨false, _, rfl, (zef ⟨rfl, rfl, trivial⟩), ac, (zak K14 K15), trivial⟩
  replace h := ite_f ar h
  refine zbj rfl rfl (zec ar) (zbb rfl rfl rfl (zbk (v := zF) rfl (zec ar) rfl (zag (zbk (v := zF) rfl rfl rfl (zag (zae (v := zF) rfl (zbb rfl rfl rfl (zat (q := 1) zbd rfl ti3 rfl rfl rfl (zbb rfl rfl rfl (zav (v := (zI t.Kind)) zay rfl rfl (ac.at 0 rfl rfl) rfl (zbb rfl rfl rfl (zdb ((t.Kind : Int) = 3) rfl rfl zbg ?_))))))))))))
  refine zbb rfl rfl rfl (zae (v := (zac (decide ((t.Kind : Int) = 3)))) rfl ?_)
  by_cases aj : (t.Kind : Int) = 3
  ·
   replace h := ite_t aj h
   refine zbb rfl rfl (zed aj) (zae (v := (zac ab)) rfl (zbb rfl rfl (zed aj) (zae (v := (zac ab)) rfl ?_)))
   by_cases au : ab = true
   ·
    replace h := ite_t au h
    refine zbj rfl rfl au (zbb rfl rfl (zed aj) (zbo (v := zT) rfl au rfl (zbb rfl rfl rfl (zbo (v := zT) rfl (zed aj) rfl (zag (zbk (v := zT) rfl rfl rfl (zag (zai (v := zT) rfl (zar ?_)))))))))
    obtain rfl := zad h
    refine zap ?_
    exact ⟨true, _, rfl, (zef ⟨rfl, rfl, trivial⟩), ac, (zak K14 K15), trivial⟩
   replace h := ite_f au h
   refine zbb rfl rfl (zeg au) (zae (v := (zac aa)) rfl (zbb rfl rfl (zed aj) (zbk (v := (zac aa)) rfl (zeg au) rfl (zbb rfl rfl rfl (zbo (v := (zac aa)) rfl (zed aj) rfl (zag (zbk (v := (zac aa)) rfl rfl rfl (zag (zai (v := (zac aa)) rfl (zar ?_))))))))))
   obtain rfl := zad h
   refine zap ?_
   exact ⟨aa, _, rfl, (zef ⟨rfl, rfl, trivial⟩), ac, (zak K14 K15), trivial⟩
  replace h := ite_f aj h
  refine zbj rfl rfl (zec aj) (zbj rfl rfl (zec aj) (zcu rfl rfl (zbj rfl rfl (zec aj) (zbb rfl rfl rfl (zbk (v := zF) rfl (zec aj) rfl (zag (zbk (v := zF) rfl rfl rfl (zag (zai (v := zF) rfl (zar ?_))))))))))
  obtain rfl := zad h
  refine zap ?_
  exact ⟨false, _, rfl, (zef ⟨rfl, rfl, trivial⟩), ac, (zak K14 K15), trivial⟩
 rintro _ w36 ⟨an, u, rfl, rfl, aB, K16, -⟩
 replace h := aR
 try dsimp only at h
 refine zam (zah rfl (zag (zae (v := (zac an)) rfl (zag (zat (q := 2) zbd rfl ti4 rfl rfl rfl (zag (zav (v := (zac t.Negated)) zdp rfl rfl (aB.at 0 rfl rfl) rfl (zag (OpY.neqBool (x := an) (y := t.Negated) zdp rfl rfl (zag (zai (v := (zac (!(an == t.Negated)))) rfl (zar (zbv ?_)))))))))))))
 obtain rfl := zad h
 refine ⟨[(zac (!(an == t.Negated)))], zrt, ⟨_, rfl, aB.done, ?_⟩⟩
 exact zrt
theorem qPasses_w (N : Nat) (t : TTest) (text : (List UInt8))  (w : World) (S : Nat → Prop)  (r : Bool) (h : qPasses N t text = some r) :
  Calls Try.prog 30 #[(zbr #[(zI t.Var), (zI t.Kind), (zac t.Negated), (zS t.Text)]), (zS text)] w (Ret w (fun v w' => (zac r) = v ∧ True)) := by
 unfold qPasses at h
 have hL : vL w w [] [] := Go.X.Loc.begin0 w
 refine calls_of (l := [(zbr #[(zI t.Var), (zI t.Kind), (zac t.Negated), (zS t.Text)]), (zS text)]) (rl := [.tmp 4]) (n := 24) Try.func30 rfl rfl rfl (zaj rfl) ?_
 refine zam (zah rfl (zag (zdo (cs := [(zI t.Var), (zI t.Kind), (zac t.Negated), (zS t.Text)]) rfl rfl hL ?_)))
 intro b1 w2 ay hS5
 refine zag (zai (v := zF) rfl (zar (zam (zah rfl (zag (zcr (vs := [(zI t.Var), (zI t.Kind), (zac t.Negated), (zS t.Text)]) zbd rfl ti44 rfl (ay.at 0 rfl rfl) rfl rfl ?_))))))
 obtain ⟨r6, q7, h⟩ := zee h
 refine zag (zce en56 rfl rfl (qStart_w N t _ Any r6 q7) ?_)
 rintro _ w9 ah ⟨rfl, -⟩
 have ai := ay.ext ah
 refine zag (zai (v := (zS r6)) rfl (zar (zam (zam (zah rfl (zag (zai (v := (zI 0)) rfl (zar ?_))))))))
 obtain ⟨aA, aj, az⟩ := zee h
 refine zbt (fun e w' => ∃ (ac : (List UInt8)) (u : Env), ac = aA ∧ e = upds [(2, (zal (some ⟨b1, 0, none⟩))), (5, (zS ac))] u ∧ vL w w' [some b1] [zab [(zI t.Var), (zI t.Kind), (zac t.Negated), (zS t.Text)]] ∧ Keep w.heap.size [some b1] w9 [some b1] w' ∧ True) ?_ ?_
 ·
  refine zbc ?_
  refine zbx aj (fun (ss : ((List UInt8) × Int)) (e : Env) (w' : World) => match ss with | (ad, aa) => ∃ (u : Env), e = upds [(1, (zS text)), (2, (zal (some ⟨b1, 0, none⟩))), (5, (zS ad)), (6, (zI aa))] u ∧ vL w w' [some b1] [zab [(zI t.Var), (zI t.Kind), (zac t.Negated), (zS t.Text)]] ∧ Keep w.heap.size [some b1] w9 [some b1] w' ∧ True) ⟨_, (zef ⟨rfl, rfl, rfl, rfl, trivial⟩), ai, zbp, trivial⟩ ?_
  rintro ⟨ad, aa⟩ oo _ w10 ⟨u, rfl, ae, K10, -⟩ h ak
  rw [qPasses_b1] at h
  refine zam (zam (zah rfl (zag (zae (v := (zI aa)) rfl (zag (zae (v := (zS text)) rfl (zag (zdc zax rfl (zag (zcf ((aa : Int) < (text.length : Int)) rfl rfl zbg (zar (zbi ((aa : Int) < (text.length : Int)) rfl (fun ab => ?_) (fun ab => ?_)))))))))))))
  ·
   replace h := ite_t ab h
   refine zbm (zam (zbc ?_))
   obtain ⟨al, aB, aC, aD, -, h⟩ := zix h
   refine zcx 5 [] [] (fun W1 => [.det (zbr #[(zI t.Var), (zI t.Kind), (zac t.Negated), (zS t.Text)]), .det (zS ad), .det (zS text), .det (zI aa), .det (zaa .u8 (UInt8.toNat al : Int))]) mixed rfl rfl rfl (fun _ => rfl) (fun _ => rfl) ?_ ?_
   ·
    intro W1 _
    exact trivial
   intro aE am
   obtain ⟨af, K11⟩ := zl ae am
   refine zaw (fun _ an => zaq (zcr (vs := [(zI t.Var), (zI t.Kind), (zac t.Negated), (zS t.Text)]) zbd rfl ti44 rfl ((af.ext an).at 0 rfl rfl) rfl rfl (er rfl))) (zaw (fun _ _ => zaq (zae rfl (er rfl))) (zaw (fun _ _ => zaq (zae rfl (er rfl))) (zaw (fun _ _ => zaq (zae rfl (er rfl))) (zaw (fun _ _ => zaq (zdf (xs := text) (i := aa) (n := aB) (a := al) zax rfl rfl aC aD (er rfl))) (zdd ?_)))))
   rintro w17 Z25 ao aF ⟨-⟩ aG
   have aH := @zhb aE Z25
   obtain ⟨ap, K12⟩ := zl af ao
   obtain ⟨aq, aI, h⟩ := zee h
   refine zag (zce en57 rfl rfl (qStep_w N t ad (UInt8.toNat al : Int) _ Any aq aI) ?_)
   rintro _ w18 ar ⟨rfl, -⟩
   obtain ⟨au, K13⟩ := zl ap ar
   refine zag (zai (v := (zS aq)) rfl (zar (zbe (zah rfl (zag (zae (v := (zI aa)) rfl (zag (zca (z := (iw (aa + 1))) rfl rfl rfl (zag (zai (v := (zI (iw (aa + 1)))) rfl (zar ?_)))))))))))
   obtain rfl := zad h
   refine zap ⟨(aq, (iw (aa + 1))), rfl, ?_⟩
   exact ⟨_, (zef ⟨rfl, rfl, rfl, rfl, trivial⟩), au, (zak (zak (zak K10 K11) K12) K13), trivial⟩
  replace h := ite_f ab h
  refine zcd rfl ?_
  obtain rfl := zad h
  obtain rfl := ak _ rfl
  replace h := az
  try dsimp only at h
  refine zap ?_
  exact ⟨ad, _, rfl, (zef ⟨rfl, rfl, trivial⟩), ae, K10, trivial⟩
 rintro _ w19 ⟨ac, u, rfl, rfl, ag, K14, -⟩
 replace h := az
 try dsimp only at h
 refine zam (zah rfl (zag (zcr (vs := [(zI t.Var), (zI t.Kind), (zac t.Negated), (zS t.Text)]) zbd rfl ti44 rfl (ag.at 0 rfl rfl) rfl rfl (zag (zae (v := (zS ac)) rfl ?_)))))
 obtain ⟨av, aJ, h⟩ := zee h
 refine zag (zce en58 rfl rfl (qFinal_w N t ac _ Any av aJ) ?_)
 rintro _ w20 aw ⟨rfl, -⟩
 have ax := ag.ext aw
 refine zag (zai (v := (zac av)) rfl (zar (zbv ?_)))
 obtain rfl := zad h
 refine ⟨[(zac av)], zrt, ⟨_, rfl, ax.done, ?_⟩⟩
 exact zrt
theorem rPairs_w (N : Nat) (l : (List Arr2Int)) (n : Int) (ad : Value) (w : World) (S : Nat → Prop) (aH : Rs rArr2Int (vH w S [] w) ad l) (r : Bool) (h : rPairs N l n = some r) :
  Calls Try.prog 44 #[ad, (zI n)] w (Ret w (fun v w' => (zac r) = v ∧ True)) := by
 unfold rPairs at h
 have hL : vL w w [] [] := Go.X.Loc.begin0 w
 refine calls_of (l := [ad, (zI n)]) (rl := [.tmp 4]) (n := 44) Try.func44 rfl rfl rfl (zaj rfl) ?_
 refine zam (zah rfl (zag (zai (v := zF) rfl (zar (zam (zam (zah rfl (zag (zai (v := (zI 0)) rfl (zar ?_))))))))))
 obtain ⟨aI, aq, ar⟩ := zee h
 refine zbt (fun e w' => ∃  (u : Env), (Sum.inl ()) = aI ∧ e = upds [] u ∧ vL w w' [] [] ∧ Keep w.heap.size [] w [] w' ∧ True) ?_ ?_
 ·
  refine zbc ?_
  refine zbx aq (fun (ss : Int) (e : Env) (w' : World) => match ss with | ae => ∃ (u : Env), e = upds [(0, ad), (1, (zI n)), (5, (zI ae))] u ∧ vL w w' [] [] ∧ Keep w.heap.size [] w [] w' ∧ True) ⟨_, (zef ⟨rfl, rfl, rfl, trivial⟩), hL, zbp, trivial⟩ ?_
  rintro ae oo _ aJ ⟨u, rfl, af, K10, -⟩ h ak
  rw [rPairs_b1] at h
  refine zam (zam (zah rfl (zag (zae (v := (zI ae)) rfl (zag (zae (v := ad) rfl ?_))))))
  have al := (aH.mono (K10 S))
  refine zag (zcc (v := ad) zbn rfl al (zag (zcf ((ae : Int) < (l.length : Int)) rfl rfl zbg (zar (zbi ((ae : Int) < (l.length : Int)) rfl (fun ag => ?_) (fun ag => ?_))))))
  ·
   replace h := ite_t ag h
   refine zbm (zam (zbc (zam ?_)))
   obtain ⟨aK, h, aL⟩ := zee h
   refine zbt (fun e w' => ∃ (ap : Bool) (u : Env), ap = aK ∧ e = upds [(0, ad), (1, (zI n)), (5, (zI ae)), (43, (zac ap))] u ∧ vL w w' [] [] ∧ Keep w.heap.size [] aJ [] w' ∧ True) ?_ ?_
   ·
    refine zah rfl (zag (zae (v := ad) rfl (zag (zae (v := (zI ae)) rfl ?_))))
    obtain ⟨am, au, aM, az, -, h⟩ := zix h
    obtain ⟨b10, aA, c10, aN, aO, q14, aP, aQ⟩ := zcy al az
    obtain ⟨rfl, -⟩ := rArr2Int_open aQ
    refine zag (zbs (r := rArr2Int) (v := ad) (n := au) (m := (aA + au * rArr2Int.sz)) zbn ti45 rfl aO rfl aM az rfl ?_)
    have aR := (aP.part (us := [(zI am.e0)]) 0 rfl)
    refine zag (zck (i := 0) (q := (aA + au * rArr2Int.sz) + 0) zcb ti3 rfl rfl (by decide) rfl (zag (zbu (v := (zI am.e0)) zay rfl rfl zek aR (zag (zcf ((am.e0 : Int) < 0) rfl rfl zbg (zag (zae (v := (zac (decide ((am.e0 : Int) < 0)))) rfl ?_)))))))
    by_cases aa : (am.e0 : Int) < 0
    ·
     replace h := ite_t aa h
     refine zbj rfl rfl (zed aa) (zbj rfl rfl (zed aa) (zbj rfl rfl (zed aa) (zbj rfl rfl (zed aa) (zbj rfl rfl (zed aa) (zbj rfl rfl (zed aa) (zbj rfl rfl (zed aa) (zag (zbo (v := zT) rfl (zed aa) rfl (zag (zae (v := zT) rfl (zbj rfl rfl rfl (zbj rfl rfl rfl (zbj rfl rfl rfl (zbj rfl rfl rfl (zbj rfl rfl rfl (zbj rfl rfl rfl (zag (zbo (v := zT) rfl rfl rfl (zag (zae (v := zT) rfl (zbj rfl rfl rfl (zbj rfl rfl rfl (zbj rfl rfl rfl (zbj rfl rfl rfl (zbj rfl rfl rfl (zbj rfl rfl rfl (zbj rfl rfl rfl ?_)))))))))))))))))))))))))))
     refine zag (zbo (v := zT) rfl rfl rfl (zar ?_))
     obtain rfl := zad h
     refine zap ?_
     exact ⟨true, _, rfl, (zef ⟨rfl, rfl, rfl, rfl, trivial⟩), af, zbp, trivial⟩
    replace h := ite_f aa h
    refine zbb rfl rfl (zec aa) (zae (v := ad) rfl (zbb rfl rfl (zec aa) (zae (v := (zI ae)) rfl ?_)))
    obtain ⟨ai, av, aS, aB, -, h⟩ := zix h
    obtain ⟨b11, aC, c11, aT, aU, q20, aV, aW⟩ := zcy al aB
    obtain ⟨rfl, -⟩ := rArr2Int_open aW
    refine zbb rfl rfl (zec aa) (zbs (r := rArr2Int) (v := ad) (n := av) (m := (aC + av * rArr2Int.sz)) zbn ti45 rfl aU rfl aS aB rfl ?_)
    have aX := (aV.part (us := [(zI ai.e0)]) 0 rfl)
    refine zbb rfl rfl (zec aa) (zck (i := 0) (q := (aC + av * rArr2Int.sz) + 0) zcb ti3 rfl rfl (by decide) rfl (zbb rfl rfl (zec aa) (zbu (v := (zI ai.e0)) zay rfl rfl zek aX (zbb rfl rfl (zec aa) (zae (v := (zI n)) rfl (zbb rfl rfl (zec aa) (OpY.geq ((ai.e0 : Int) ≥ n) rfl rfl zbg (zag (zbk (v := (zac (decide ((ai.e0 : Int) ≥ n)))) rfl (zec aa) rfl (zag (zae (v := (zac (decide ((ai.e0 : Int) ≥ n)))) rfl ?_)))))))))))
    by_cases ac : (ai.e0 : Int) ≥ n
    ·
     replace h := ite_t ac h
     refine zbj rfl rfl (zed ac) (zbj rfl rfl (zed ac) (zbj rfl rfl (zed ac) (zbj rfl rfl (zed ac) (zbj rfl rfl (zed ac) (zbj rfl rfl (zed ac) (zag (zbo (v := zT) rfl (zed ac) rfl (zag (zae (v := zT) rfl (zbj rfl rfl rfl (zbj rfl rfl rfl (zbj rfl rfl rfl (zbj rfl rfl rfl (zbj rfl rfl rfl (zbj rfl rfl rfl (zbj rfl rfl rfl (zag (zbo (v := zT) rfl rfl rfl (zar ?_)))))))))))))))))))
     obtain rfl := zad h
     refine zap ?_
     exact ⟨true, _, rfl, (zef ⟨rfl, rfl, rfl, rfl, trivial⟩), af, zbp, trivial⟩
    replace h := ite_f ac h
    refine zbb rfl rfl (zec ac) (zae (v := ad) rfl (zbb rfl rfl (zec ac) (zae (v := (zI ae)) rfl ?_)))
    obtain ⟨aj, aw, aY, aD, -, h⟩ := zix h
    obtain ⟨b12, aE, c12, aZ, a0, q26, a1, a2⟩ := zcy al aD
    obtain ⟨rfl, -⟩ := rArr2Int_open a2
    refine zbb rfl rfl (zec ac) (zbs (r := rArr2Int) (v := ad) (n := aw) (m := (aE + aw * rArr2Int.sz)) zbn ti45 rfl a0 rfl aY aD rfl ?_)
    have a3 := (a1.part (us := [(zI aj.e1)]) 1 rfl)
    refine zbb rfl rfl (zec ac) (zck (i := 1) (q := (aE + aw * rArr2Int.sz) + 1) zcb ti3 rfl rfl (by decide) rfl (zbb rfl rfl (zec ac) (zbu (v := (zI aj.e1)) zay rfl rfl zek a3 (zbb rfl rfl (zec ac) (zcf ((aj.e1 : Int) < 0) rfl rfl zbg (zag (zbk (v := (zac (decide ((aj.e1 : Int) < 0)))) rfl (zec ac) rfl (zag (zae (v := (zac (decide ((aj.e1 : Int) < 0)))) rfl ?_)))))))))
    by_cases ab : (aj.e1 : Int) < 0
    ·
     replace h := ite_t ab h
     refine zbj rfl rfl (zed ab) (zbj rfl rfl (zed ab) (zbj rfl rfl (zed ab) (zbj rfl rfl (zed ab) (zbj rfl rfl (zed ab) (zbj rfl rfl (zed ab) (zbj rfl rfl (zed ab) (zag (zbo (v := zT) rfl (zed ab) rfl (zar ?_)))))))))
     obtain rfl := zad h
     refine zap ?_
     exact ⟨true, _, rfl, (zef ⟨rfl, rfl, rfl, rfl, trivial⟩), af, zbp, trivial⟩
    replace h := ite_f ab h
    refine zbb rfl rfl (zec ab) (zae (v := ad) rfl (zbb rfl rfl (zec ab) (zae (v := (zI ae)) rfl ?_)))
    obtain ⟨an, ax, a4, aF, -, h⟩ := zix h
    obtain ⟨b13, aG, c13, a5, a6, q32, a7, a8⟩ := zcy al aF
    obtain ⟨rfl, -⟩ := rArr2Int_open a8
    refine zbb rfl rfl (zec ab) (zbs (r := rArr2Int) (v := ad) (n := ax) (m := (aG + ax * rArr2Int.sz)) zbn ti45 rfl a6 rfl a4 aF rfl ?_)
    have a9 := (a7.part (us := [(zI an.e1)]) 1 rfl)
    refine zbb rfl rfl (zec ab) (zck (i := 1) (q := (aG + ax * rArr2Int.sz) + 1) zcb ti3 rfl rfl (by decide) rfl (zbb rfl rfl (zec ab) (zbu (v := (zI an.e1)) zay rfl rfl zek a9 (zbb rfl rfl (zec ab) (zae (v := (zI n)) rfl (zbb rfl rfl (zec ab) (OpY.geq ((an.e1 : Int) ≥ n) rfl rfl zbg (zag (zbk (v := (zac (decide ((an.e1 : Int) ≥ n)))) rfl (zec ab) rfl (zar ?_))))))))))
    obtain rfl := zad h
    refine zap ?_
    exact ⟨(decide ((an.e1 : Int) ≥ n)), _, rfl, (zef ⟨rfl, rfl, rfl, rfl, trivial⟩), af, zbp, trivial⟩
   rintro _ w11 ⟨ap, u, rfl, rfl, ao, K11, -⟩
   replace h := aL
   try dsimp only at h
   refine zci ap rfl (fun ah => ?_) (fun ah => ?_)
   ·
    replace h := ite_t ah h
    refine zam (zah rfl (zag (zai (v := zF) rfl (zar (zbv ?_)))))
    obtain rfl := zad h
    obtain rfl := ak _ rfl
    replace h := ar
    try dsimp only at h
    obtain rfl := zad h
    refine ⟨[zF], zrt, ⟨_, rfl, ao.done, ?_⟩⟩
    exact zrt
   replace h := ite_f ah h
   refine zbm (zbe (zah rfl (zag (zae (v := (zI ae)) rfl ?_))))
   refine zag (zca (z := (iw (ae + 1))) rfl rfl rfl (zag (zai (v := (zI (iw (ae + 1)))) rfl (zar ?_))))
   obtain rfl := zad h
   refine zap ⟨(iw (ae + 1)), rfl, ?_⟩
   exact ⟨_, (zef ⟨rfl, rfl, rfl, trivial⟩), ao, (zak K10 K11), trivial⟩
  replace h := ite_f ag h
  refine zcd rfl ?_
  obtain rfl := zad h
  obtain rfl := ak _ rfl
  replace h := ar
  try dsimp only at h
  refine zap ?_
  exact ⟨_, rfl, (zef trivial), af, K10, trivial⟩
 rintro _ w12 ⟨u, rfl, rfl, ay, K12, -⟩
 replace h := ar
 try dsimp only at h
 refine zam (zah rfl (zag (zai (v := zT) rfl (zar (zbv ?_)))))
 obtain rfl := zad h
 refine ⟨[zT], zrt, ⟨_, rfl, ay.done, ?_⟩⟩
 exact zrt
theorem rSizes_w (N : Nat) (l : (List Int)) (ac : Value) (w : World) (S : Nat → Prop) (av : Rs rI (vH w S [] w) ac l) (r : Bool) (h : rSizes N l = some r) :
  Calls Try.prog 43 #[ac] w (Ret w (fun v w' => (zac r) = v ∧ True)) := by
 unfold rSizes at h
 have hL : vL w w [] [] := Go.X.Loc.begin0 w
 refine calls_of (l := [ac]) (rl := [.tmp 2]) (n := 22) Try.func43 rfl rfl rfl (zaj rfl) ?_
 refine zam (zah rfl (zag (zai (v := zF) rfl (zar (zam (zam (zah rfl (zag (zai (v := (zI 0)) rfl (zar ?_))))))))))
 obtain ⟨aw, al, am⟩ := zee h
 refine zbt (fun e w' => ∃  (u : Env), (Sum.inl ()) = aw ∧ e = upds [] u ∧ vL w w' [] [] ∧ Keep w.heap.size [] w [] w' ∧ True) ?_ ?_
 ·
  refine zbc ?_
  refine zbx al (fun (ss : Int) (e : Env) (w' : World) => match ss with | ab => ∃ (u : Env), e = upds [(0, ac), (3, (zI ab))] u ∧ vL w w' [] [] ∧ Keep w.heap.size [] w [] w' ∧ True) ⟨_, (zef ⟨rfl, rfl, trivial⟩), hL, zbp, trivial⟩ ?_
  rintro ab oo _ ax ⟨u, rfl, ad, K10, -⟩ h ag
  rw [rSizes_b1] at h
  refine zam (zam (zah rfl (zag (zae (v := (zI ab)) rfl (zag (zae (v := ac) rfl ?_))))))
  have an := (av.mono (K10 S))
  refine zag (zcc (v := ac) zan rfl an (zag (zcf ((ab : Int) < (l.length : Int)) rfl rfl zbg (zar (zbi ((ab : Int) < (l.length : Int)) rfl (fun ae => ?_) (fun ae => ?_))))))
  ·
   replace h := ite_t ae h
   refine zbm (zam (zbc (zam ?_)))
   obtain ⟨ay, h, az⟩ := zee h
   refine zbt (fun e w' => ∃ (ai : Bool) (u : Env), ai = ay ∧ e = upds [(0, ac), (3, (zI ab)), (21, (zac ai))] u ∧ vL w w' [] [] ∧ Keep w.heap.size [] ax [] w' ∧ True) ?_ ?_
   ·
    refine zah rfl (zag (zae (v := ac) rfl (zag (zae (v := (zI ab)) rfl ?_))))
    obtain ⟨aj, ap, aA, aq, -, h⟩ := zix h
    obtain ⟨b10, aB, c10, aC, aD, q14, aE, aF⟩ := zcy an aq
    obtain rfl := aF
    refine zag (zbs (r := rI) (v := ac) (n := ap) (m := (aB + ap * rI.sz)) zan ti3 rfl aD rfl aA aq rfl (zag (zbu (v := (zI aj)) zay rfl rfl zek aE (zag (zcf ((aj : Int) < 0) rfl rfl zbg (zag (zae (v := (zac (decide ((aj : Int) < 0)))) rfl ?_)))))))
    by_cases aa : (aj : Int) < 0
    ·
     replace h := ite_t aa h
     refine zbj rfl rfl (zed aa) (zbj rfl rfl (zed aa) (zbj rfl rfl (zed aa) (zbj rfl rfl (zed aa) (zbj rfl rfl (zed aa) (zag (zbo (v := zT) rfl (zed aa) rfl (zar ?_)))))))
     obtain rfl := zad h
     refine zap ?_
     exact ⟨true, _, rfl, (zef ⟨rfl, rfl, rfl, trivial⟩), ad, zbp, trivial⟩
    replace h := ite_f aa h
    refine zbb rfl rfl (zec aa) (zae (v := ac) rfl (zbb rfl rfl (zec aa) (zae (v := (zI ab)) rfl ?_)))
    obtain ⟨ak, ar, aG, au, -, h⟩ := zix h
    obtain ⟨b11, aH, c11, aI, aJ, q20, aK, aL⟩ := zcy an au
    obtain rfl := aL
    refine zbb rfl rfl (zec aa) (zbs (r := rI) (v := ac) (n := ar) (m := (aH + ar * rI.sz)) zan ti3 rfl aJ rfl aG au rfl (zbb rfl rfl (zec aa) (zbu (v := (zI ak)) zay rfl rfl zek aK (zbb rfl rfl (zec aa) (OpY.gtr ((ak : Int) > 16) rfl rfl zbg (zag (zbk (v := (zac (decide ((ak : Int) > 16)))) rfl (zec aa) rfl (zar ?_))))))))
    obtain rfl := zad h
    refine zap ?_
    exact ⟨(decide ((ak : Int) > 16)), _, rfl, (zef ⟨rfl, rfl, rfl, trivial⟩), ad, zbp, trivial⟩
   rintro _ w11 ⟨ai, u, rfl, rfl, ah, K11, -⟩
   replace h := az
   try dsimp only at h
   refine zci ai rfl (fun af => ?_) (fun af => ?_)
   ·
    replace h := ite_t af h
    refine zam (zah rfl (zag (zai (v := zF) rfl (zar (zbv ?_)))))
    obtain rfl := zad h
    obtain rfl := ag _ rfl
    replace h := am
    try dsimp only at h
    obtain rfl := zad h
    refine ⟨[zF], zrt, ⟨_, rfl, ah.done, ?_⟩⟩
    exact zrt
   replace h := ite_f af h
   refine zbm (zbe (zah rfl (zag (zae (v := (zI ab)) rfl ?_))))
   refine zag (zca (z := (iw (ab + 1))) rfl rfl rfl (zag (zai (v := (zI (iw (ab + 1)))) rfl (zar ?_))))
   obtain rfl := zad h
   refine zap ⟨(iw (ab + 1)), rfl, ?_⟩
   exact ⟨_, (zef ⟨rfl, rfl, trivial⟩), ah, (zak K10 K11), trivial⟩
  replace h := ite_f ae h
  refine zcd rfl ?_
  obtain rfl := zad h
  obtain rfl := ag _ rfl
  replace h := am
  try dsimp only at h
  refine zap ?_
  exact ⟨_, rfl, (zef trivial), ad, K10, trivial⟩
 rintro _ w12 ⟨u, rfl, rfl, ao, K12, -⟩
 replace h := am
 try dsimp only at h
 refine zam (zah rfl (zag (zai (v := zT) rfl (zar (zbv ?_)))))
 obtain rfl := zad h
 refine ⟨[zT], zrt, ⟨_, rfl, ao.done, ?_⟩⟩
 exact zrt
theorem rValid_w (N : Nat) (p : TProb) (am : Value) (af : Value) (ac : Value) (ai : Value) (aj : Value) (w : World) (S : Nat → Prop) (a6 : Rs rI (vH w S [] w) am p.Min) (aI : Rs rI (vH w S [] w) af p.Max) (aJ : Rs rTTest (vH w S [] w) ac p.Tests) (aK : Rs rArr2Int (vH w S [] w) ai p.Same) (aL : Rs rArr2Int (vH w S [] w) aj p.Different) (r : Bool) (h : rValid N p = some r) :
  Calls Try.prog 24 #[(zbr #[am, af, ac, ai, aj])] w (Ret w (fun v w' => (zac r) = v ∧ True)) := by
 unfold rValid at h
 have hL : vL w w [] [] := Go.X.Loc.begin0 w
 refine calls_of (l := [(zbr #[am, af, ac, ai, aj])]) (rl := [.tmp 2]) (n := 72) Try.func24 rfl rfl rfl (zaj rfl) ?_
 refine zam (zah rfl (zag (zdo (cs := [am, af, ac, ai, aj]) rfl rfl hL ?_)))
 intro b1 w2 aX a7
 have K4 := ks w a7
 refine zag (zai (v := zF) rfl (zar (zam (zah rfl (zag (zat (q := 1) zba rfl ti22 rfl rfl rfl (zag (zav (v := af) zan rfl rfl (aX.at 0 rfl rfl) rfl ?_))))))))
 have f6 := (aI.mono (K4 S))
 refine zag (zcc (v := af) zan rfl f6 (zag (zai (v := (zI (p.Max.length : Int))) rfl (zar (zam (zam (zah rfl (zag (zai (v := (zI 0)) rfl (zar ?_))))))))))
 obtain ⟨a8, aM, aN⟩ := zee h
 refine zbt (fun e w' => ∃  (u : Env), (Sum.inl ()) = a8 ∧ e = upds [(1, (zal (some ⟨b1, 0, none⟩))), (3, (zI (p.Max.length : Int)))] u ∧ vL w w' [some b1] [zab [am, af, ac, ai, aj]] ∧ Keep w.heap.size [some b1] w2 [some b1] w' ∧ True) ?_ ?_
 ·
  refine zbc ?_
  refine zbx aM (fun (ss : Int) (e : Env) (w' : World) => match ss with | al => ∃ (u : Env), e = upds [(1, (zal (some ⟨b1, 0, none⟩))), (3, (zI (p.Max.length : Int))), (4, (zI al))] u ∧ vL w w' [some b1] [zab [am, af, ac, ai, aj]] ∧ Keep w.heap.size [some b1] w2 [some b1] w' ∧ True) ⟨_, (zef ⟨rfl, rfl, rfl, trivial⟩), aX, zbp, trivial⟩ ?_
  rintro al oo _ a9 ⟨u, rfl, ap, K10, -⟩ h ay
  rw [rValid_b1] at h
  refine zam (zam (zah rfl (zag (zae (v := (zI al)) rfl (zag (zat (q := 2) zba rfl ti23 rfl rfl rfl (zag (zav (v := ac) zbh rfl rfl (ap.at 0 rfl rfl) rfl ?_))))))))
  have aO := ((aJ.mono (K4 S)).mono (K10 S))
  refine zag (zcc (v := ac) zbh rfl aO (zag (zcf ((al : Int) < (p.Tests.length : Int)) rfl rfl zbg (zar (zbi ((al : Int) < (p.Tests.length : Int)) rfl (fun aq => ?_) (fun aq => ?_))))))
  ·
   replace h := ite_t aq h
   refine zbm (zam (zbc (zam ?_)))
   obtain ⟨ba, h, bb⟩ := zee h
   refine zbt (fun e w' => ∃ (aC : Bool) (u : Env), aC = ba ∧ e = upds [(1, (zal (some ⟨b1, 0, none⟩))), (3, (zI (p.Max.length : Int))), (4, (zI al)), (40, (zac aC))] u ∧ vL w w' [some b1] [zab [am, af, ac, ai, aj]] ∧ Keep w.heap.size [some b1] a9 [some b1] w' ∧ True) ?_ ?_
   ·
    refine zah rfl (zag (zat (q := 2) zba rfl ti23 rfl rfl rfl (zag (zav (v := ac) zbh rfl rfl (ap.at 0 rfl rfl) rfl (zag (zae (v := (zI al)) rfl ?_))))))
    obtain ⟨az, aY, bc, aZ, -, h⟩ := zix h
    obtain ⟨b10, bd, c10, be, bf, q14, bg, bh⟩ := zcy aO aZ
    obtain ⟨rfl, -⟩ := rTTest_open bh
    refine zag (zbs (r := rTTest) (v := ac) (n := aY) (m := (bd + aY * rTTest.sz)) zbh ti44 rfl bf rfl bc aZ rfl (zag (OpY.ldRoA (vs := [(zI az.Var), (zI az.Kind), (zac az.Negated), (zS az.Text)]) zbd rfl ti44 rfl rfl zek bg ?_)))
    obtain ⟨aD, bi, h⟩ := zee h
    refine zag (zce en42 rfl rfl (qValid_w N az _ Any aD bi) ?_)
    rintro _ w11 aP ⟨rfl, -⟩
    obtain ⟨an, K11⟩ := zl ap aP
    refine zag (OpY.not (x := aD) rfl (zag (zae (v := (zac (!aD))) rfl ?_)))
    by_cases ab : (!aD) = true
    ·
     replace h := ite_t ab h
     refine zbj rfl rfl ab (zbj rfl rfl ab (zbj rfl rfl ab (zbj rfl rfl ab (zbj rfl rfl ab (zbj rfl rfl ab (zbj rfl rfl ab ?_))))))
     refine zag (zbo (v := zT) rfl ab rfl (zag (zae (v := zT) rfl (zbj rfl rfl rfl (zbj rfl rfl rfl (zbj rfl rfl rfl (zbj rfl rfl rfl (zbj rfl rfl rfl (zbj rfl rfl rfl (zbj rfl rfl rfl (zbj rfl rfl rfl (zag (zbo (v := zT) rfl rfl rfl (zar ?_))))))))))))))
     obtain rfl := zad h
     refine zap ?_
     exact ⟨true, _, rfl, (zef ⟨rfl, rfl, rfl, rfl, trivial⟩), an, K11, trivial⟩
    replace h := ite_f ab h
    refine zbb rfl rfl (zeg ab) (zat (q := 2) zba rfl ti23 rfl rfl rfl (zbb rfl rfl (zeg ab) (zav (v := ac) zbh rfl rfl (an.at 0 rfl rfl) rfl (zbb rfl rfl (zeg ab) (zae (v := (zI al)) rfl ?_)))))
    obtain ⟨ax, aQ, bj, a0, -, h⟩ := zix h
    have a1 := (aO.mono (K11 S))
    obtain ⟨b11, a2, c11, bk, bl, q21, bm, bn⟩ := zcy a1 a0
    obtain ⟨rfl, -⟩ := rTTest_open bn
    refine zbb rfl rfl (zeg ab) (zbs (r := rTTest) (v := ac) (n := aQ) (m := (a2 + aQ * rTTest.sz)) zbh ti44 rfl bl rfl bj a0 rfl ?_)
    have bo := (bm.part (us := [(zI ax.Var)]) 0 rfl)
    refine zbb rfl rfl (zeg ab) (zat (q := (a2 + aQ * rTTest.sz) + 0) zbd rfl ti3 rfl rfl rfl (zbb rfl rfl (zeg ab) (zbu (v := (zI ax.Var)) zay rfl rfl zek bo (zbb rfl rfl (zeg ab) (zcf ((ax.Var : Int) < 0) rfl rfl zbg (zag (zbk (v := (zac (decide ((ax.Var : Int) < 0)))) rfl (zeg ab) rfl (zag (zae (v := (zac (decide ((ax.Var : Int) < 0)))) rfl ?_)))))))))
    by_cases aa : (ax.Var : Int) < 0
    ·
     replace h := ite_t aa h
     refine zbj rfl rfl (zed aa) (zbj rfl rfl (zed aa) (zbj rfl rfl (zed aa) (zbj rfl rfl (zed aa) (zbj rfl rfl (zed aa) (zbj rfl rfl (zed aa) (zbj rfl rfl (zed aa) (zbj rfl rfl (zed aa) (zag (zbo (v := zT) rfl (zed aa) rfl (zar ?_))))))))))
     obtain rfl := zad h
     refine zap ?_
     exact ⟨true, _, rfl, (zef ⟨rfl, rfl, rfl, rfl, trivial⟩), an, K11, trivial⟩
    replace h := ite_f aa h
    refine zbb rfl rfl (zec aa) (zat (q := 2) zba rfl ti23 rfl rfl rfl (zbb rfl rfl (zec aa) (zav (v := ac) zbh rfl rfl (an.at 0 rfl rfl) rfl (zbb rfl rfl (zec aa) (zae (v := (zI al)) rfl ?_)))))
    obtain ⟨aA, aR, bp, a3, -, h⟩ := zix h
    obtain ⟨b12, a4, c12, bq, br, q27, bu, bw⟩ := zcy a1 a3
    obtain ⟨rfl, -⟩ := rTTest_open bw
    refine zbb rfl rfl (zec aa) (zbs (r := rTTest) (v := ac) (n := aR) (m := (a4 + aR * rTTest.sz)) zbh ti44 rfl br rfl bp a3 rfl ?_)
    have bx := (bu.part (us := [(zI aA.Var)]) 0 rfl)
    refine zbb rfl rfl (zec aa) (zat (q := (a4 + aR * rTTest.sz) + 0) zbd rfl ti3 rfl rfl rfl (zbb rfl rfl (zec aa) (zbu (v := (zI aA.Var)) zay rfl rfl zek bx (zbb rfl rfl (zec aa) (zae (v := (zI (p.Max.length : Int))) rfl (zbb rfl rfl (zec aa) (OpY.geq ((aA.Var : Int) ≥ (p.Max.length : Int)) rfl rfl zbg (zag (zbk (v := (zac (decide ((aA.Var : Int) ≥ (p.Max.length : Int))))) rfl (zec aa) rfl (zar ?_))))))))))
    obtain rfl := zad h
    refine zap ?_
    exact ⟨(decide ((aA.Var : Int) ≥ (p.Max.length : Int))), _, rfl, (zef ⟨rfl, rfl, rfl, rfl, trivial⟩), an, K11, trivial⟩
   rintro _ w12 ⟨aC, u, rfl, rfl, aB, K12, -⟩
   replace h := bb
   try dsimp only at h
   refine zci aC rfl (fun ar => ?_) (fun ar => ?_)
   ·
    replace h := ite_t ar h
    refine zam (zah rfl (zag (zai (v := zF) rfl (zar (zbv ?_)))))
    obtain rfl := zad h
    obtain rfl := ay _ rfl
    replace h := aN
    try dsimp only at h
    obtain rfl := zad h
    refine ⟨[zF], zrt, ⟨_, rfl, aB.done, ?_⟩⟩
    exact zrt
   replace h := ite_f ar h
   refine zbm (zbe (zah rfl (zag (zae (v := (zI al)) rfl ?_))))
   refine zag (zca (z := (iw (al + 1))) rfl rfl rfl (zag (zai (v := (zI (iw (al + 1)))) rfl (zar ?_))))
   obtain rfl := zad h
   refine zap ⟨(iw (al + 1)), rfl, ?_⟩
   exact ⟨_, (zef ⟨rfl, rfl, rfl, trivial⟩), aB, (zak K10 K12), trivial⟩
  replace h := ite_f aq h
  refine zcd rfl ?_
  obtain rfl := zad h
  obtain rfl := ay _ rfl
  replace h := aN
  try dsimp only at h
  refine zap ?_
  exact ⟨_, rfl, (zef ⟨rfl, rfl, trivial⟩), ap, K10, trivial⟩
 rintro _ w13 ⟨u, rfl, rfl, ao, K13, -⟩
 replace h := aN
 try dsimp only at h
 refine zam (zah rfl (zag (zat (q := 0) zba rfl ti22 rfl rfl rfl (zag (zav (v := am) zan rfl rfl (ao.at 0 rfl rfl) rfl ?_)))))
 have a5 := ((a6.mono (K4 S)).mono (K13 S))
 refine zag (zcc (v := am) zan rfl a5 (zag (zae (v := (zI (p.Max.length : Int))) rfl (zag (zdb (((p.Min.length : Int) : Int) = (p.Max.length : Int)) rfl rfl zbg (zag (zae (v := (zac (decide (((p.Min.length : Int) : Int) = (p.Max.length : Int))))) rfl ?_)))))))
 by_cases ak : ((p.Min.length : Int) : Int) = (p.Max.length : Int)
 ·
  replace h := ite_t ak h
  refine zbb rfl rfl (zed ak) (zae (v := (zI (p.Max.length : Int))) rfl (zbb rfl rfl (zed ak) (zeb (((p.Max.length : Int) : Int) ≤ 128) rfl rfl zbg (zag (zbo (v := (zac (decide (((p.Max.length : Int) : Int) ≤ 128)))) rfl (zed ak) rfl (zag (zae (v := (zac (decide (((p.Max.length : Int) : Int) ≤ 128)))) rfl ?_)))))))
  by_cases ag : ((p.Max.length : Int) : Int) ≤ 128
  ·
   replace h := ite_t ag h
   refine zbb rfl rfl (zed ag) (zat (q := 0) zba rfl ti22 rfl rfl rfl (zbb rfl rfl (zed ag) (zav (v := am) zan rfl rfl (ao.at 0 rfl rfl) rfl ?_)))
   obtain ⟨aE, bz, h⟩ := zee h
   refine zbb rfl rfl (zed ag) (zce en43 rfl rfl (rSizes_w N p.Min am _ Any (a5.mono vw_any) aE bz) ?_)
   rintro _ w14 aS ⟨rfl, -⟩
   obtain ⟨au, K14⟩ := zl ao aS
   refine zag (zbo (v := (zac aE)) rfl (zed ag) rfl (zag (zae (v := (zac aE)) rfl ?_)))
   by_cases ah : aE = true
   ·
    replace h := ite_t ah h
    refine zbb rfl rfl ah (zat (q := 1) zba rfl ti22 rfl rfl rfl (zbb rfl rfl ah (zav (v := af) zan rfl rfl (au.at 0 rfl rfl) rfl ?_)))
    obtain ⟨aF, bA, h⟩ := zee h
    have bB := ((f6.mono (K13 S)).mono (K14 S))
    refine zbb rfl rfl ah (zce en43 rfl rfl (rSizes_w N p.Max af _ Any (bB.mono vw_any) aF bA) ?_)
    rintro _ w15 aT ⟨rfl, -⟩
    obtain ⟨av, K15⟩ := zl au aT
    refine zag (zbo (v := (zac aF)) rfl ah rfl (zag (zae (v := (zac aF)) rfl ?_)))
    by_cases ad : aF = true
    ·
     replace h := ite_t ad h
     refine zbb rfl rfl ad (zat (q := 3) zba rfl ti24 rfl rfl rfl (zbb rfl rfl ad (zav (v := ai) zbn rfl rfl (av.at 0 rfl rfl) rfl (zbb rfl rfl ad (zae (v := (zI (p.Max.length : Int))) rfl ?_)))))
     obtain ⟨aG, bC, h⟩ := zee h
     have bD := ((((aK.mono (K4 S)).mono (K13 S)).mono (K14 S)).mono (K15 S))
     refine zbb rfl rfl ad (zce en44 rfl rfl (rPairs_w N p.Same (p.Max.length : Int) ai _ Any (bD.mono vw_any) aG bC) ?_)
     rintro _ w16 aU ⟨rfl, -⟩
     obtain ⟨aw, K16⟩ := zl av aU
     refine zag (zbo (v := (zac aG)) rfl ad rfl (zag (zae (v := (zac aG)) rfl ?_)))
     by_cases ae : aG = true
     ·
      replace h := ite_t ae h
      refine zbb rfl rfl ae (zat (q := 4) zba rfl ti24 rfl rfl rfl (zbb rfl rfl ae (zav (v := aj) zbn rfl rfl (aw.at 0 rfl rfl) rfl (zbb rfl rfl ae (zae (v := (zI (p.Max.length : Int))) rfl ?_)))))
      obtain ⟨aH, bE, h⟩ := zee h
      have bF := (((((aL.mono (K4 S)).mono (K13 S)).mono (K14 S)).mono (K15 S)).mono (K16 S))
      refine zbb rfl rfl ae (zce en44 rfl rfl (rPairs_w N p.Different (p.Max.length : Int) aj _ Any (bF.mono vw_any) aH bE) ?_)
      rintro _ w17 aV ⟨rfl, -⟩
      have aW := aw.ext aV
      refine zag (zbo (v := (zac aH)) rfl ae rfl (zag (zai (v := (zac aH)) rfl (zar (zbv ?_)))))
      obtain rfl := zad h
      refine ⟨[(zac aH)], zrt, ⟨_, rfl, aW.done, ?_⟩⟩
      exact zrt
     replace h := ite_f ae h
     refine zbj rfl rfl (zeg ae) (zbj rfl rfl (zeg ae) (zbj rfl rfl (zeg ae) (zbj rfl rfl (zeg ae) (zag (zbk (v := zF) rfl (zeg ae) rfl (zag (zai (v := zF) rfl (zar (zbv ?_)))))))))
     obtain rfl := zad h
     refine ⟨[zF], zrt, ⟨_, rfl, aw.done, ?_⟩⟩
     exact zrt
    replace h := ite_f ad h
    refine zbj rfl rfl (zeg ad) (zbj rfl rfl (zeg ad) (zbj rfl rfl (zeg ad) (zbj rfl rfl (zeg ad) (zag (zbk (v := zF) rfl (zeg ad) rfl (zag (zae (v := zF) rfl (zbj rfl rfl rfl (zbj rfl rfl rfl (zbj rfl rfl rfl (zbj rfl rfl rfl (zag (zbk (v := zF) rfl rfl rfl (zag (zai (v := zF) rfl (zar (zbv ?_)))))))))))))))))
    obtain rfl := zad h
    refine ⟨[zF], zrt, ⟨_, rfl, av.done, ?_⟩⟩
    exact zrt
   replace h := ite_f ah h
   refine zbj rfl rfl (zeg ah) (zbj rfl rfl (zeg ah) (zbj rfl rfl (zeg ah) (zag (zbk (v := zF) rfl (zeg ah) rfl (zag (zae (v := zF) rfl (zbj rfl rfl rfl (zbj rfl rfl rfl (zbj rfl rfl rfl (zbj rfl rfl rfl (zag (zbk (v := zF) rfl rfl rfl (zag (zae (v := zF) rfl (zbj rfl rfl rfl (zbj rfl rfl rfl (zbj rfl rfl rfl (zbj rfl rfl rfl ?_))))))))))))))))))
   refine zag (zbk (v := zF) rfl rfl rfl (zag (zai (v := zF) rfl (zar (zbv ?_)))))
   obtain rfl := zad h
   refine ⟨[zF], zrt, ⟨_, rfl, au.done, ?_⟩⟩
   exact zrt
  replace h := ite_f ag h
  refine zbj rfl rfl (zec ag) (zbj rfl rfl (zec ag) (zbj rfl rfl (zec ag) (zag (zbk (v := zF) rfl (zec ag) rfl (zag (zae (v := zF) rfl (zbj rfl rfl rfl (zbj rfl rfl rfl (zbj rfl rfl rfl (zag (zbk (v := zF) rfl rfl rfl (zag (zae (v := zF) rfl (zbj rfl rfl rfl (zbj rfl rfl rfl (zbj rfl rfl rfl (zbj rfl rfl rfl ?_)))))))))))))))))
  refine zag (zbk (v := zF) rfl rfl rfl (zag (zae (v := zF) rfl (zbj rfl rfl rfl (zbj rfl rfl rfl (zbj rfl rfl rfl (zbj rfl rfl rfl (zag (zbk (v := zF) rfl rfl rfl (zag (zai (v := zF) rfl (zar (zbv ?_)))))))))))))
  obtain rfl := zad h
  refine ⟨[zF], zrt, ⟨_, rfl, ao.done, ?_⟩⟩
  exact zrt
 replace h := ite_f ak h
 refine zbj rfl rfl (zec ak) (zbj rfl rfl (zec ak) (zag (zbk (v := zF) rfl (zec ak) rfl (zag (zae (v := zF) rfl (zbj rfl rfl rfl (zbj rfl rfl rfl (zbj rfl rfl rfl (zag (zbk (v := zF) rfl rfl rfl (zag (zae (v := zF) rfl (zbj rfl rfl rfl (zbj rfl rfl rfl (zbj rfl rfl rfl ?_)))))))))))))))
 refine zag (zbk (v := zF) rfl rfl rfl (zag (zae (v := zF) rfl (zbj rfl rfl rfl (zbj rfl rfl rfl (zbj rfl rfl rfl (zbj rfl rfl rfl (zag (zbk (v := zF) rfl rfl rfl (zag (zae (v := zF) rfl (zbj rfl rfl rfl (zbj rfl rfl rfl (zbj rfl rfl rfl (zbj rfl rfl rfl (zag (zbk (v := zF) rfl rfl rfl ?_)))))))))))))))))
 refine zag (zai (v := zF) rfl (zar (zbv ?_)))
 obtain rfl := zad h
 refine ⟨[zF], zrt, ⟨_, rfl, ao.done, ?_⟩⟩
 exact zrt
theorem rSatisfies_w (N : Nat) (p : TProb) (texts : (List (List UInt8))) (ai : Value) (ac : Value) (ad : Value) (ae : Value) (af : Value) (aa : Value) (w : World) (S : Nat → Prop) (dT : Rs rI (vH w S [] w) ai p.Min) (bK : Rs rI (vH w S [] w) ac p.Max) (bL : Rs rTTest (vH w S [] w) ad p.Tests) (bM : Rs rArr2Int (vH w S [] w) ae p.Same) (bN : Rs rArr2Int (vH w S [] w) af p.Different) (ax : Rs rStr (vH w S [] w) aa texts) (r : Bool) (h : rSatisfies N p texts = some r) :
  Calls Try.prog 15 #[(zbr #[ai, ac, ad, ae, af]), aa] w (Ret w (fun v w' => (zac r) = v ∧ True)) := by
 unfold rSatisfies at h
 have hL : vL w w [] [] := Go.X.Loc.begin0 w
 refine calls_of (l := [(zbr #[ai, ac, ad, ae, af]), aa]) (rl := [.tmp 4]) (n := 128) Try.func15 rfl rfl rfl (zaj rfl) ?_
 refine zam (zah rfl (zag (zdo (cs := [ai, ac, ad, ae, af]) rfl rfl hL ?_)))
 intro b1 w2 bO dU
 have K4 := ks w dU
 refine zag (zai (v := zF) rfl (zar (zam (zam (zah rfl (zag (zae (v := aa) rfl ?_)))))))
 have f6 := (ax.mono (K4 S))
 refine zag (zcc (v := aa) zaz rfl f6 (zag (zat (q := 1) zba rfl ti22 rfl rfl rfl (zag (zav (v := ac) zan rfl rfl (bO.at 0 rfl rfl) rfl ?_)))))
 have f7 := (bK.mono (K4 S))
 refine zag (zcc (v := ac) zan rfl f7 (zag (OpY.neq (((texts.length : Int) : Int) ≠ (p.Max.length : Int)) rfl rfl zbg (zar (zbi (((texts.length : Int) : Int) ≠ (p.Max.length : Int)) rfl (fun bP => ?_) (fun bP => ?_))))))
 ·
  replace h := ite_t bP h
  refine zam (zah rfl (zag (zai (v := zF) rfl (zar (zbv ?_)))))
  obtain rfl := zad h
  refine ⟨[zF], zrt, ⟨_, rfl, bO.done, ?_⟩⟩
  exact zrt
 replace h := ite_f bP h
 refine zbm (zam (zam (zah rfl (zag (zai (v := (zI 0)) rfl (zar ?_))))))
 obtain ⟨dV, bQ, bR⟩ := zee h
 refine zbt (fun e w' => ∃  (u : Env), (Sum.inl ()) = dV ∧ e = upds [(1, aa), (2, (zal (some ⟨b1, 0, none⟩)))] u ∧ vL w w' [some b1] [zab [ai, ac, ad, ae, af]] ∧ Keep w.heap.size [some b1] w2 [some b1] w' ∧ True) ?_ ?_
 ·
  refine zbc ?_
  refine zbx bQ (fun (ss : Int) (e : Env) (w' : World) => match ss with | ah => ∃ (u : Env), e = upds [(1, aa), (2, (zal (some ⟨b1, 0, none⟩))), (5, (zI ah))] u ∧ vL w w' [some b1] [zab [ai, ac, ad, ae, af]] ∧ Keep w.heap.size [some b1] w2 [some b1] w' ∧ True) ⟨_, (zef ⟨rfl, rfl, rfl, trivial⟩), bO, zbp, trivial⟩ ?_
  rintro ah oo _ dW ⟨u, rfl, ay, K10, -⟩ h aS
  rw [rSatisfies_b1] at h
  refine zam (zam (zah rfl (zag (zae (v := (zI ah)) rfl (zag (zae (v := aa) rfl ?_))))))
  have bA := (f6.mono (K10 S))
  refine zag (zcc (v := aa) zaz rfl bA (zag (zcf ((ah : Int) < (texts.length : Int)) rfl rfl zbg (zar (zbi ((ah : Int) < (texts.length : Int)) rfl (fun aD => ?_) (fun aD => ?_))))))
  ·
   replace h := ite_t aD h
   refine zbm (zam (zbc (zam ?_)))
   obtain ⟨dX, h, dY⟩ := zee h
   refine zbt (fun e w' => ∃ (bB : Bool) (u : Env), bB = dX ∧ e = upds [(1, aa), (2, (zal (some ⟨b1, 0, none⟩))), (5, (zI ah)), (52, (zac bB))] u ∧ vL w w' [some b1] [zab [ai, ac, ad, ae, af]] ∧ Keep w.heap.size [some b1] dW [some b1] w' ∧ True) ?_ ?_
   ·
    obtain ⟨aj, az, bS, bC, -, h⟩ := zix h
    obtain ⟨bT, aO, c10, dZ, bU, q14, bV, d0⟩ := zcy bA bC
    obtain rfl := d0
    obtain ⟨ao, aA, bW, bD, -, h⟩ := zix h
    have d1 := ((dT.mono (K4 S)).mono (K10 S))
    obtain ⟨bX, aP, c11, d2, bY, q20, bZ, d3⟩ := zcy d1 bD
    obtain rfl := d3
    by_cases ab : ((aj.length : Int) : Int) < ao
    ·
     replace h := ite_t ab h
     refine zcx 27 [] [] (fun W1 => [.det aa, .det (zI ah), .det (zal (some ⟨bT, (aO + az * rStr.sz), none⟩)), .det (zS aj), .det (zI (aj.length : Int)), .det (zal (some ⟨b1, 0, none⟩)), .det ai, .det (zI ah), .det (zal (some ⟨bX, (aP + aA * rI.sz), none⟩)), .det (zI ao), .det (zac (decide (((aj.length : Int) : Int) < ao))), .det (zac (decide (((aj.length : Int) : Int) < ao))), .det undef, .det undef, .det undef, .det undef, .det undef, .det undef, .det undef, .det undef, .det undef, .det undef, .det undef, .det zT, .det zT, .det undef, .det undef]) mixed rfl rfl rfl (fun _ => rfl) (fun _ => rfl) ?_ ?_
     ·
      intro W1 _
      exact trivial
     intro d4 b0
     obtain ⟨aB, K11⟩ := zl ay b0
     refine zaw (fun _ _ => zaq (zae rfl (er rfl))) (zaw (fun _ _ => zaq (zae rfl (er rfl))) (zaw (fun _ _ => zaq (zbs (r := rStr) (v := aa) (n := az) (m := (aO + az * rStr.sz)) zaz ti9 rfl bU rfl bS bC rfl (er rfl))) (zaw (fun _ b2 => zaq (zbu zax rfl rfl zek (zbz ((ke aB b2) S) (zbz (K11 S) bV)) (er rfl))) (zaw (fun _ _ => zaq (zdc zax rfl (er rfl))) (zaw (fun _ _ => zaq (zat zba rfl ti22 rfl rfl rfl (er rfl))) (zaw (fun _ b3 => zaq (zav zan rfl rfl ((aB.ext b3).at 0 rfl rfl) rfl (er rfl))) ?_))))))
     refine zaw (fun _ _ => zaq (zae rfl (er rfl))) (zaw (fun _ _ => zaq (zbs (r := rI) (v := ai) (n := aA) (m := (aP + aA * rI.sz)) zan ti3 rfl bY rfl bW bD rfl (er rfl))) (zaw (fun _ b4 => zaq (zbu zay rfl rfl zek (zbz ((ke aB b4) S) (zbz (K11 S) bZ)) (er rfl))) (zaw (fun _ _ => zaq (zcf (((aj.length : Int) : Int) < ao) rfl rfl zbg (er rfl))) (zaw (fun _ _ => zaq (zae rfl (er rfl))) (zaw (fun _ _ => zdh rfl rfl (zed ab) (er rfl)) (zaw (fun _ _ => zdh rfl rfl (zed ab) (er rfl)) ?_))))))
     refine zaw (fun _ _ => zdh rfl rfl (zed ab) (er rfl)) (zaw (fun _ _ => zdh rfl rfl (zed ab) (er rfl)) (zaw (fun _ _ => zdh rfl rfl (zed ab) (er rfl)) (zaw (fun _ _ => zdh rfl rfl (zed ab) (er rfl)) (zaw (fun _ _ => zdh rfl rfl (zed ab) (er rfl)) (zaw (fun _ _ => zdh rfl rfl (zed ab) (er rfl)) (zaw (fun _ _ => zdh rfl rfl (zed ab) (er rfl)) ?_))))))
     refine zaw (fun _ _ => zdh rfl rfl (zed ab) (er rfl)) (zaw (fun _ _ => zdh rfl rfl (zed ab) (er rfl)) (zaw (fun _ _ => zaq (zbo rfl (zed ab) rfl (er rfl))) (zaw (fun _ _ => zaq (zae rfl (er rfl))) (zaw (fun _ _ => zdh rfl rfl rfl (er rfl)) (zaw (fun _ _ => zdh rfl rfl rfl (er rfl)) (zdd ?_))))))
     rintro w39 Z47 b5 d5 ⟨-⟩ d6
     have d7 := @zhb d4 Z47
     obtain ⟨b6, K14⟩ := zl aB b5
     refine zbj rfl rfl rfl (zbj rfl rfl rfl (zbj rfl rfl rfl (zbj rfl rfl rfl (zag (zbo (v := zT) rfl rfl rfl (zar ?_))))))
     obtain rfl := zad h
     refine zap ?_
     exact ⟨true, _, rfl, (zef ⟨rfl, rfl, rfl, rfl, trivial⟩), b6, (zak K11 K14), trivial⟩
    replace h := ite_f ab h
    obtain ⟨ap, aQ, c9, b7, -, h⟩ := zix h
    obtain ⟨da, bE, c12, d8, db, q26, dc, d9⟩ := zcy bA b7
    obtain rfl := d9
    obtain ⟨ar, aR, dd, b8, -, h⟩ := zix h
    have ea := (f7.mono (K10 S))
    obtain ⟨dh, bF, c13, eb, di, q32, dj, ec⟩ := zcy ea b8
    obtain rfl := ec
    by_cases ag : ((ap.length : Int) : Int) > ar
    ·
     replace h := ite_t ag h
     refine zcx 27 [] [] (fun W1 => [.det aa, .det (zI ah), .det (zal (some ⟨bT, (aO + az * rStr.sz), none⟩)), .det (zS aj), .det (zI (aj.length : Int)), .det (zal (some ⟨b1, 0, none⟩)), .det ai, .det (zI ah), .det (zal (some ⟨bX, (aP + aA * rI.sz), none⟩)), .det (zI ao), .det (zac (decide (((aj.length : Int) : Int) < ao))), .det (zac (decide (((aj.length : Int) : Int) < ao))), .det aa, .det (zI ah), .det (zal (some ⟨da, (bE + aQ * rStr.sz), none⟩)), .det (zS ap), .det (zI (ap.length : Int)), .det (zal (some ⟨b1, 1, none⟩)), .det ac, .det (zI ah), .det (zal (some ⟨dh, (bF + aR * rI.sz), none⟩)), .det (zI ar), .det (zac (decide (((ap.length : Int) : Int) > ar))), .det (zac (decide (((ap.length : Int) : Int) > ar))), .det (zac (decide (((ap.length : Int) : Int) > ar))), .det undef, .det undef]) mixed rfl rfl rfl (fun _ => rfl) (fun _ => rfl) ?_ ?_
     ·
      intro W1 _
      exact trivial
     intro ed b9
     obtain ⟨ak, K15⟩ := zl ay b9
     refine zaw (fun _ _ => zaq (zae rfl (er rfl))) (zaw (fun _ _ => zaq (zae rfl (er rfl))) (zaw (fun _ _ => zaq (zbs (r := rStr) (v := aa) (n := az) (m := (aO + az * rStr.sz)) zaz ti9 rfl bU rfl bS bC rfl (er rfl))) (zaw (fun _ ca => zaq (zbu zax rfl rfl zek (zbz ((ke ak ca) S) (zbz (K15 S) bV)) (er rfl))) (zaw (fun _ _ => zaq (zdc zax rfl (er rfl))) (zaw (fun _ _ => zaq (zat zba rfl ti22 rfl rfl rfl (er rfl))) (zaw (fun _ cb => zaq (zav zan rfl rfl ((ak.ext cb).at 0 rfl rfl) rfl (er rfl))) ?_))))))
     refine zaw (fun _ _ => zaq (zae rfl (er rfl))) (zaw (fun _ _ => zaq (zbs (r := rI) (v := ai) (n := aA) (m := (aP + aA * rI.sz)) zan ti3 rfl bY rfl bW bD rfl (er rfl))) (zaw (fun _ cc => zaq (zbu zay rfl rfl zek (zbz ((ke ak cc) S) (zbz (K15 S) bZ)) (er rfl))) (zaw (fun _ _ => zaq (zcf (((aj.length : Int) : Int) < ao) rfl rfl zbg (er rfl))) (zaw (fun _ _ => zaq (zae rfl (er rfl))) (zaw (fun _ _ => zcp rfl rfl (zec ab) (zae rfl (er rfl))) (zaw (fun _ _ => zcp rfl rfl (zec ab) (zae rfl (er rfl))) ?_))))))
     refine zaw (fun _ _ => zcp rfl rfl (zec ab) (zbs (r := rStr) (v := aa) (n := aQ) (m := (bE + aQ * rStr.sz)) zaz ti9 rfl db rfl c9 b7 rfl (er rfl))) (zaw (fun _ cd => zcp rfl rfl (zec ab) (zbu zax rfl rfl zek (zbz ((ke ak cd) S) (zbz (K15 S) dc)) (er rfl))) (zaw (fun _ _ => zcp rfl rfl (zec ab) (zdc zax rfl (er rfl))) (zaw (fun _ _ => zcp rfl rfl (zec ab) (zat zba rfl ti22 rfl rfl rfl (er rfl))) (zaw (fun _ ce => zcp rfl rfl (zec ab) (zav zan rfl rfl ((ak.ext ce).at 0 rfl rfl) rfl (er rfl))) (zaw (fun _ _ => zcp rfl rfl (zec ab) (zae rfl (er rfl))) (zaw (fun _ _ => zcp rfl rfl (zec ab) (zbs (r := rI) (v := ac) (n := aR) (m := (bF + aR * rI.sz)) zan ti3 rfl di rfl dd b8 rfl (er rfl))) ?_))))))
     refine zaw (fun _ cg => zcp rfl rfl (zec ab) (zbu zay rfl rfl zek (zbz ((ke ak cg) S) (zbz (K15 S) dj)) (er rfl))) (zaw (fun _ _ => zcp rfl rfl (zec ab) (OpY.gtr (((ap.length : Int) : Int) > ar) rfl rfl zbg (er rfl))) (zaw (fun _ _ => zaq (zbk rfl (zec ab) rfl (er rfl))) (zaw (fun _ _ => zaq (zae rfl (er rfl))) (zaw (fun _ _ => zdh rfl rfl (zed ag) (er rfl)) (zaw (fun _ _ => zdh rfl rfl (zed ag) (er rfl)) (zdd ?_))))))
     rintro w68 Z75 ch ee ⟨-⟩ ef
     have eg := @zhb ed Z75
     obtain ⟨ci, K20⟩ := zl ak ch
     refine zbj rfl rfl (zed ag) (zbj rfl rfl (zed ag) (zbj rfl rfl (zed ag) (zbj rfl rfl (zed ag) (zag (zbo (v := zT) rfl (zed ag) rfl (zar ?_))))))
     obtain rfl := zad h
     refine zap ?_
     exact ⟨true, _, rfl, (zef ⟨rfl, rfl, rfl, rfl, trivial⟩), ci, (zak K15 K20), trivial⟩
    replace h := ite_f ag h
    refine zcx 27 [] [] (fun W1 => [.det aa, .det (zI ah), .det (zal (some ⟨bT, (aO + az * rStr.sz), none⟩)), .det (zS aj), .det (zI (aj.length : Int)), .det (zal (some ⟨b1, 0, none⟩)), .det ai, .det (zI ah), .det (zal (some ⟨bX, (aP + aA * rI.sz), none⟩)), .det (zI ao), .det (zac (decide (((aj.length : Int) : Int) < ao))), .det (zac (decide (((aj.length : Int) : Int) < ao))), .det aa, .det (zI ah), .det (zal (some ⟨da, (bE + aQ * rStr.sz), none⟩)), .det (zS ap), .det (zI (ap.length : Int)), .det (zal (some ⟨b1, 1, none⟩)), .det ac, .det (zI ah), .det (zal (some ⟨dh, (bF + aR * rI.sz), none⟩)), .det (zI ar), .det (zac (decide (((ap.length : Int) : Int) > ar))), .det (zac (decide (((ap.length : Int) : Int) > ar))), .det (zac (decide (((ap.length : Int) : Int) > ar))), .det aa, .det (zI ah)]) mixed rfl rfl rfl (fun _ => rfl) (fun _ => rfl) ?_ ?_
    ·
     intro W1 _
     exact trivial
    intro eh cj
    obtain ⟨al, K21⟩ := zl ay cj
    refine zaw (fun _ _ => zaq (zae rfl (er rfl))) (zaw (fun _ _ => zaq (zae rfl (er rfl))) (zaw (fun _ _ => zaq (zbs (r := rStr) (v := aa) (n := az) (m := (aO + az * rStr.sz)) zaz ti9 rfl bU rfl bS bC rfl (er rfl))) (zaw (fun _ ck => zaq (zbu zax rfl rfl zek (zbz ((ke al ck) S) (zbz (K21 S) bV)) (er rfl))) (zaw (fun _ _ => zaq (zdc zax rfl (er rfl))) (zaw (fun _ _ => zaq (zat zba rfl ti22 rfl rfl rfl (er rfl))) (zaw (fun _ cp => zaq (zav zan rfl rfl ((al.ext cp).at 0 rfl rfl) rfl (er rfl))) ?_))))))
    refine zaw (fun _ _ => zaq (zae rfl (er rfl))) (zaw (fun _ _ => zaq (zbs (r := rI) (v := ai) (n := aA) (m := (aP + aA * rI.sz)) zan ti3 rfl bY rfl bW bD rfl (er rfl))) (zaw (fun _ cq => zaq (zbu zay rfl rfl zek (zbz ((ke al cq) S) (zbz (K21 S) bZ)) (er rfl))) (zaw (fun _ _ => zaq (zcf (((aj.length : Int) : Int) < ao) rfl rfl zbg (er rfl))) (zaw (fun _ _ => zaq (zae rfl (er rfl))) (zaw (fun _ _ => zcp rfl rfl (zec ab) (zae rfl (er rfl))) (zaw (fun _ _ => zcp rfl rfl (zec ab) (zae rfl (er rfl))) ?_))))))
    refine zaw (fun _ _ => zcp rfl rfl (zec ab) (zbs (r := rStr) (v := aa) (n := aQ) (m := (bE + aQ * rStr.sz)) zaz ti9 rfl db rfl c9 b7 rfl (er rfl))) (zaw (fun _ cr => zcp rfl rfl (zec ab) (zbu zax rfl rfl zek (zbz ((ke al cr) S) (zbz (K21 S) dc)) (er rfl))) (zaw (fun _ _ => zcp rfl rfl (zec ab) (zdc zax rfl (er rfl))) (zaw (fun _ _ => zcp rfl rfl (zec ab) (zat zba rfl ti22 rfl rfl rfl (er rfl))) (zaw (fun _ ct => zcp rfl rfl (zec ab) (zav zan rfl rfl ((al.ext ct).at 0 rfl rfl) rfl (er rfl))) (zaw (fun _ _ => zcp rfl rfl (zec ab) (zae rfl (er rfl))) (zaw (fun _ _ => zcp rfl rfl (zec ab) (zbs (r := rI) (v := ac) (n := aR) (m := (bF + aR * rI.sz)) zan ti3 rfl di rfl dd b8 rfl (er rfl))) ?_))))))
    refine zaw (fun _ cu => zcp rfl rfl (zec ab) (zbu zay rfl rfl zek (zbz ((ke al cu) S) (zbz (K21 S) dj)) (er rfl))) (zaw (fun _ _ => zcp rfl rfl (zec ab) (OpY.gtr (((ap.length : Int) : Int) > ar) rfl rfl zbg (er rfl))) (zaw (fun _ _ => zaq (zbk rfl (zec ab) rfl (er rfl))) (zaw (fun _ _ => zaq (zae rfl (er rfl))) (zaw (fun _ _ => zcp rfl rfl (zec ag) (zae rfl (er rfl))) (zaw (fun _ _ => zcp rfl rfl (zec ag) (zae rfl (er rfl))) (zdd ?_))))))
    rintro w97 Z103 cv ei ⟨-⟩ ej
    have ek := @zhb eh Z103
    obtain ⟨cw, K26⟩ := zl al cv
    obtain ⟨dk, dl, em, dm, -, h⟩ := zix h
    have en := ((bA.mono (K21 S)).mono (K26 S))
    obtain ⟨b14, eo, c14, ep, es, q38, et, eu⟩ := zcy en dm
    obtain rfl := eu
    refine zbb rfl rfl (zec ag) (zbs (r := rStr) (v := aa) (n := dl) (m := (eo + dl * rStr.sz)) zaz ti9 rfl es rfl em dm rfl (zbb rfl rfl (zec ag) (zbu (v := (zS dk)) zax rfl rfl zek et ?_)))
    obtain ⟨bG, ew, h⟩ := zee h
    refine zbb rfl rfl (zec ag) (zce en29 rfl rfl (qPrintable_w N dk _ Any bG ew) ?_)
    rintro _ w98 cx ⟨rfl, -⟩
    obtain ⟨cy, K27⟩ := zl cw cx
    refine zbb rfl rfl (zec ag) (OpY.not (x := bG) rfl (zag (zbk (v := (zac (!bG))) rfl (zec ag) rfl (zar ?_))))
    obtain rfl := zad h
    refine zap ?_
    exact ⟨(!bG), _, rfl, (zef ⟨rfl, rfl, rfl, rfl, trivial⟩), cy, (zak (zak K21 K26) K27), trivial⟩
   rintro _ w99 ⟨bB, u, rfl, rfl, aT, K28, -⟩
   replace h := dY
   try dsimp only at h
   refine zci bB rfl (fun aE => ?_) (fun aE => ?_)
   ·
    replace h := ite_t aE h
    refine zam (zah rfl (zag (zai (v := zF) rfl (zar (zbv ?_)))))
    obtain rfl := zad h
    obtain rfl := aS _ rfl
    replace h := bR
    try dsimp only at h
    obtain rfl := zad h
    refine ⟨[zF], zrt, ⟨_, rfl, aT.done, ?_⟩⟩
    exact zrt
   replace h := ite_f aE h
   refine zbm (zbe (zah rfl (zag (zae (v := (zI ah)) rfl ?_))))
   refine zag (zca (z := (iw (ah + 1))) rfl rfl rfl (zag (zai (v := (zI (iw (ah + 1)))) rfl (zar ?_))))
   obtain rfl := zad h
   refine zap ⟨(iw (ah + 1)), rfl, ?_⟩
   exact ⟨_, (zef ⟨rfl, rfl, rfl, trivial⟩), aT, (zak K10 K28), trivial⟩
  replace h := ite_f aD h
  refine zcd rfl ?_
  obtain rfl := zad h
  obtain rfl := aS _ rfl
  replace h := bR
  try dsimp only at h
  refine zap ?_
  exact ⟨_, rfl, (zef ⟨rfl, rfl, trivial⟩), ay, K10, trivial⟩
 rintro _ aU ⟨u, rfl, rfl, cz, K29, -⟩
 replace h := bR
 try dsimp only at h
 refine zam (zam (zah rfl (zag (zai (v := (zI 0)) rfl (zar ?_)))))
 obtain ⟨ex, cA, cB⟩ := zee h
 refine zbt (fun e w' => ∃  (u : Env), (Sum.inl ()) = ex ∧ e = upds [(1, aa), (2, (zal (some ⟨b1, 0, none⟩)))] u ∧ vL w w' [some b1] [zab [ai, ac, ad, ae, af]] ∧ Keep w.heap.size [some b1] aU [some b1] w' ∧ True) ?_ ?_
 ·
  refine zbc ?_
  refine zbx cA (fun (ss : Int) (e : Env) (w' : World) => match ss with | au => ∃ (u : Env), e = upds [(1, aa), (2, (zal (some ⟨b1, 0, none⟩))), (6, (zI au))] u ∧ vL w w' [some b1] [zab [ai, ac, ad, ae, af]] ∧ Keep w.heap.size [some b1] aU [some b1] w' ∧ True) ⟨_, (zef ⟨rfl, rfl, rfl, trivial⟩), cz, zbp, trivial⟩ ?_
  rintro au oo _ ey ⟨u, rfl, aF, K30, -⟩ h aV
  rw [rSatisfies_b2] at h
  refine zam (zam (zah rfl (zag (zae (v := (zI au)) rfl (zag (zat (q := 2) zba rfl ti23 rfl rfl rfl (zag (zav (v := ad) zbh rfl rfl (aF.at 0 rfl rfl) rfl ?_))))))))
  have cC := (((bL.mono (K4 S)).mono (K29 S)).mono (K30 S))
  refine zag (zcc (v := ad) zbh rfl cC (zag (zcf ((au : Int) < (p.Tests.length : Int)) rfl rfl zbg (zar (zbi ((au : Int) < (p.Tests.length : Int)) rfl (fun aG => ?_) (fun aG => ?_))))))
  ·
   replace h := ite_t aG h
   refine zbm (zam (zbc (zam ?_)))
   obtain ⟨aC, cD, ez, dn, -, h⟩ := zix h
   obtain ⟨eA, dp, c15, eB, eC, q45, eD, eE⟩ := zcy cC dn
   obtain ⟨rfl, -⟩ := rTTest_open eE
   obtain ⟨dq, bH, eF, dr, -, h⟩ := zix h
   obtain ⟨ds, cE, c16, eG, eH, q51, eI, eJ⟩ := zcy cC dr
   obtain ⟨rfl, -⟩ := rTTest_open eJ
   have eK := (eI.part (us := [(zI dq.Var)]) 0 rfl)
   obtain ⟨dt, cF, eL, du, -, h⟩ := zix h
   have eM := ((f6.mono (K29 S)).mono (K30 S))
   obtain ⟨eN, dv, c17, eO, eP, q57, eQ, eR⟩ := zcy eM du
   obtain rfl := eR
   refine zcx 14 [] [] (fun W1 => [.det (zal (some ⟨b1, 2, none⟩)), .det ad, .det (zI au), .det (zal (some ⟨eA, (dp + cD * rTTest.sz), none⟩)), .det (zbr #[(zI aC.Var), (zI aC.Kind), (zac aC.Negated), (zS aC.Text)]), .det aa, .det (zal (some ⟨b1, 2, none⟩)), .det ad, .det (zI au), .det (zal (some ⟨ds, (cE + bH * rTTest.sz), none⟩)), .det (zal (some ⟨ds, (cE + bH * rTTest.sz) + 0, none⟩)), .det (zI dq.Var), .det (zal (some ⟨eN, (dv + cF * rStr.sz), none⟩)), .det (zS dt)]) mixed rfl rfl rfl (fun _ => rfl) (fun _ => rfl) ?_ ?_
   ·
    intro W1 _
    exact trivial
   intro cG cH
   obtain ⟨aq, K31⟩ := zl aF cH
   refine zaw (fun _ _ => zaq (zat zba rfl ti23 rfl rfl rfl (er rfl))) (zaw (fun _ aW => zaq (zav zbh rfl rfl ((aq.ext aW).at 0 rfl rfl) rfl (er rfl))) (zaw (fun _ _ => zaq (zae rfl (er rfl))) (zaw (fun _ _ => zaq (zbs (r := rTTest) (v := ad) (n := cD) (m := (dp + cD * rTTest.sz)) zbh ti44 rfl eC rfl ez dn rfl (er rfl))) (zaw (fun _ aX => zaq (OpY.ldRoA (vs := [(zI aC.Var), (zI aC.Kind), (zac aC.Negated), (zS aC.Text)]) zbd rfl ti44 rfl rfl zek (zbz ((ke aq aX) S) (zbz (K31 S) eD)) (er rfl))) (zaw (fun _ _ => zaq (zae rfl (er rfl))) (zaw (fun _ _ => zaq (zat zba rfl ti23 rfl rfl rfl (er rfl))) ?_))))))
   refine zaw (fun _ aY => zaq (zav zbh rfl rfl ((aq.ext aY).at 0 rfl rfl) rfl (er rfl))) (zaw (fun _ _ => zaq (zae rfl (er rfl))) (zaw (fun _ _ => zaq (zbs (r := rTTest) (v := ad) (n := bH) (m := (cE + bH * rTTest.sz)) zbh ti44 rfl eH rfl eF dr rfl (er rfl))) (zaw (fun _ _ => zaq (zat zbd rfl ti3 rfl rfl rfl (er rfl))) (zaw (fun _ aZ => zaq (zbu zay rfl rfl zek (zbz ((ke aq aZ) S) (zbz (K31 S) eK)) (er rfl))) (zaw (fun _ _ => zaq (zbs (r := rStr) (v := aa) (n := cF) (m := (dv + cF * rStr.sz)) zaz ti9 rfl eP rfl eL du rfl (er rfl))) (zaw (fun _ a0 => zaq (zbu zax rfl rfl zek (zbz ((ke aq a0) S) (zbz (K31 S) eQ)) (er rfl))) ?_))))))
   refine zdd ?_
   rintro eS Z118 a1 dw ⟨-⟩ eT
   have eU := @zhb cG Z118
   obtain ⟨cI, K35⟩ := zl aq a1
   obtain ⟨cJ, eV, h⟩ := zee h
   refine zag (zce en30 rfl rfl (qPasses_w N aC dt _ Any cJ eV) ?_)
   rintro _ eW a2 ⟨rfl, -⟩
   obtain ⟨a3, K36⟩ := zl cI a2
   refine zag (OpY.not (x := cJ) rfl (zar (zci (!cJ) rfl (fun aH => ?_) (fun aH => ?_))))
   ·
    replace h := ite_t aH h
    refine zam (zah rfl (zag (zai (v := zF) rfl (zar (zbv ?_)))))
    obtain rfl := zad h
    obtain rfl := aV _ rfl
    replace h := cB
    try dsimp only at h
    obtain rfl := zad h
    refine ⟨[zF], zrt, ⟨_, rfl, a3.done, ?_⟩⟩
    exact zrt
   replace h := ite_f aH h
   refine zbm (zbe (zah rfl (zag (zae (v := (zI au)) rfl ?_))))
   refine zag (zca (z := (iw (au + 1))) rfl rfl rfl (zag (zai (v := (zI (iw (au + 1)))) rfl (zar ?_))))
   obtain rfl := zad h
   refine zap ⟨(iw (au + 1)), rfl, ?_⟩
   exact ⟨_, (zef ⟨rfl, rfl, rfl, trivial⟩), a3, (zak (zak (zak K30 K31) K35) K36), trivial⟩
  replace h := ite_f aG h
  refine zcd rfl ?_
  obtain rfl := zad h
  obtain rfl := aV _ rfl
  replace h := cB
  try dsimp only at h
  refine zap ?_
  exact ⟨_, rfl, (zef ⟨rfl, rfl, trivial⟩), aF, K30, trivial⟩
 rintro _ a4 ⟨u, rfl, rfl, cK, K37, -⟩
 replace h := cB
 try dsimp only at h
 refine zam (zam (zah rfl (zag (zai (v := (zI 0)) rfl (zar ?_)))))
 obtain ⟨eX, cL, cM⟩ := zee h
 refine zbt (fun e w' => ∃  (u : Env), (Sum.inl ()) = eX ∧ e = upds [(1, aa), (2, (zal (some ⟨b1, 0, none⟩)))] u ∧ vL w w' [some b1] [zab [ai, ac, ad, ae, af]] ∧ Keep w.heap.size [some b1] a4 [some b1] w' ∧ True) ?_ ?_
 ·
  refine zbc ?_
  refine zbx cL (fun (ss : Int) (e : Env) (w' : World) => match ss with | av => ∃ (u : Env), e = upds [(1, aa), (2, (zal (some ⟨b1, 0, none⟩))), (7, (zI av))] u ∧ vL w w' [some b1] [zab [ai, ac, ad, ae, af]] ∧ Keep w.heap.size [some b1] a4 [some b1] w' ∧ True) ⟨_, (zef ⟨rfl, rfl, rfl, trivial⟩), cK, zbp, trivial⟩ ?_
  rintro av oo _ eY ⟨u, rfl, aI, K38, -⟩ h a5
  rw [rSatisfies_b3] at h
  refine zam (zam (zah rfl (zag (zae (v := (zI av)) rfl (zag (zat (q := 3) zba rfl ti24 rfl rfl rfl (zag (zav (v := ae) zbn rfl rfl (aI.at 0 rfl rfl) rfl ?_))))))))
  have cN := ((((bM.mono (K4 S)).mono (K29 S)).mono (K37 S)).mono (K38 S))
  refine zag (zcc (v := ae) zbn rfl cN (zag (zcf ((av : Int) < (p.Same.length : Int)) rfl rfl zbg (zar (zbi ((av : Int) < (p.Same.length : Int)) rfl (fun aJ => ?_) (fun aJ => ?_))))))
  ·
   replace h := ite_t aJ h
   refine zbm (zam (zbc (zam ?_)))
   obtain ⟨dx, a6, eZ, dy, -, h⟩ := zix h
   obtain ⟨dz, bI, c18, e2, e3, q64, e4, e5⟩ := zcy cN dy
   obtain ⟨rfl, -⟩ := rArr2Int_open e5
   have e6 := (e4.part (us := [(zI dx.e0)]) 0 rfl)
   obtain ⟨cO, cP, e7, dA, -, h⟩ := zix h
   have dB := (((f6.mono (K29 S)).mono (K37 S)).mono (K38 S))
   obtain ⟨e8, dC, c19, e9, fa, q70, fb, fc⟩ := zcy dB dA
   obtain rfl := fc
   obtain ⟨dD, a7, fd, dE, -, h⟩ := zix h
   obtain ⟨dF, bJ, c20, fe, ff, q76, fg, fh⟩ := zcy cN dE
   obtain ⟨rfl, -⟩ := rArr2Int_open fh
   have fi := (fg.part (us := [(zI dD.e1)]) 1 rfl)
   obtain ⟨cQ, cR, fj, dG, -, h⟩ := zix h
   obtain ⟨fk, dH, c21, fm, fo, q82, fp, fq⟩ := zcy dB dG
   obtain rfl := fq
   refine zcx 18 [] [] (fun W1 => [.det aa, .det (zal (some ⟨b1, 3, none⟩)), .det ae, .det (zI av), .det (zal (some ⟨dz, (bI + a6 * rArr2Int.sz), none⟩)), .det (zal (some ⟨dz, (bI + a6 * rArr2Int.sz) + 0, none⟩)), .det (zI dx.e0), .det (zal (some ⟨e8, (dC + cP * rStr.sz), none⟩)), .det (zS cO), .det aa, .det (zal (some ⟨b1, 3, none⟩)), .det ae, .det (zI av), .det (zal (some ⟨dF, (bJ + a7 * rArr2Int.sz), none⟩)), .det (zal (some ⟨dF, (bJ + a7 * rArr2Int.sz) + 1, none⟩)), .det (zI dD.e1), .det (zal (some ⟨fk, (dH + cR * rStr.sz), none⟩)), .det (zS cQ)]) mixed rfl rfl rfl (fun _ => rfl) (fun _ => rfl) ?_ ?_
   ·
    intro W1 _
    exact trivial
   intro cS a8
   obtain ⟨am, K39⟩ := zl aI a8
   refine zaw (fun _ _ => zaq (zae rfl (er rfl))) (zaw (fun _ _ => zaq (zat zba rfl ti24 rfl rfl rfl (er rfl))) (zaw (fun _ a9 => zaq (zav zbn rfl rfl ((am.ext a9).at 0 rfl rfl) rfl (er rfl))) (zaw (fun _ _ => zaq (zae rfl (er rfl))) (zaw (fun _ _ => zaq (zbs (r := rArr2Int) (v := ae) (n := a6) (m := (bI + a6 * rArr2Int.sz)) zbn ti45 rfl e3 rfl eZ dy rfl (er rfl))) (zaw (fun _ _ => zaq (zck (i := 0) (q := (bI + a6 * rArr2Int.sz) + 0) zcb ti3 rfl rfl (by decide) rfl (er rfl))) (zaw (fun _ ba => zaq (zbu zay rfl rfl zek (zbz ((ke am ba) S) (zbz (K39 S) e6)) (er rfl))) ?_))))))
   refine zaw (fun _ _ => zaq (zbs (r := rStr) (v := aa) (n := cP) (m := (dC + cP * rStr.sz)) zaz ti9 rfl fa rfl e7 dA rfl (er rfl))) (zaw (fun _ bb => zaq (zbu zax rfl rfl zek (zbz ((ke am bb) S) (zbz (K39 S) fb)) (er rfl))) (zaw (fun _ _ => zaq (zae rfl (er rfl))) (zaw (fun _ _ => zaq (zat zba rfl ti24 rfl rfl rfl (er rfl))) (zaw (fun _ bc => zaq (zav zbn rfl rfl ((am.ext bc).at 0 rfl rfl) rfl (er rfl))) (zaw (fun _ _ => zaq (zae rfl (er rfl))) (zaw (fun _ _ => zaq (zbs (r := rArr2Int) (v := ae) (n := a7) (m := (bJ + a7 * rArr2Int.sz)) zbn ti45 rfl ff rfl fd dE rfl (er rfl))) ?_))))))
   refine zaw (fun _ _ => zaq (zck (i := 1) (q := (bJ + a7 * rArr2Int.sz) + 1) zcb ti3 rfl rfl (by decide) rfl (er rfl))) (zaw (fun _ bd => zaq (zbu zay rfl rfl zek (zbz ((ke am bd) S) (zbz (K39 S) fi)) (er rfl))) (zaw (fun _ _ => zaq (zbs (r := rStr) (v := aa) (n := cR) (m := (dH + cR * rStr.sz)) zaz ti9 rfl fo rfl fj dG rfl (er rfl))) (zaw (fun _ be => zaq (zbu zax rfl rfl zek (zbz ((ke am be) S) (zbz (K39 S) fp)) (er rfl))) (zdd ?_))))
   rintro fs Z137 bf dI ⟨-⟩ fu
   have fv := @zhb cS Z137
   obtain ⟨bg, K44⟩ := zl am bf
   refine zag (OpY.sNeq (x := cO) (y := cQ) rfl rfl (zar (zbi (¬ cO = cQ) rfl (fun aK => ?_) (fun aK => ?_))))
   ·
    replace h := ite_t aK h
    refine zam (zah rfl (zag (zai (v := zF) rfl (zar (zbv ?_)))))
    obtain rfl := zad h
    obtain rfl := a5 _ rfl
    replace h := cM
    try dsimp only at h
    obtain rfl := zad h
    refine ⟨[zF], zrt, ⟨_, rfl, bg.done, ?_⟩⟩
    exact zrt
   replace h := ite_f aK h
   refine zbm (zbe (zah rfl (zag (zae (v := (zI av)) rfl ?_))))
   refine zag (zca (z := (iw (av + 1))) rfl rfl rfl (zag (zai (v := (zI (iw (av + 1)))) rfl (zar ?_))))
   obtain rfl := zad h
   refine zap ⟨(iw (av + 1)), rfl, ?_⟩
   exact ⟨_, (zef ⟨rfl, rfl, rfl, trivial⟩), bg, (zak (zak K38 K39) K44), trivial⟩
  replace h := ite_f aJ h
  refine zcd rfl ?_
  obtain rfl := zad h
  obtain rfl := a5 _ rfl
  replace h := cM
  try dsimp only at h
  refine zap ?_
  exact ⟨_, rfl, (zef ⟨rfl, rfl, trivial⟩), aI, K38, trivial⟩
 rintro _ bh ⟨u, rfl, rfl, cT, K45, -⟩
 replace h := cM
 try dsimp only at h
 refine zam (zam (zah rfl (zag (zai (v := (zI 0)) rfl (zar ?_)))))
 obtain ⟨fw, cU, cV⟩ := zee h
 refine zbt (fun e w' => ∃  (u : Env), (Sum.inl ()) = fw ∧ e = upds [] u ∧ vL w w' [] [] ∧ Keep w.heap.size [some b1] bh [] w' ∧ True) ?_ ?_
 ·
  refine zbc ?_
  refine zbx cU (fun (ss : Int) (e : Env) (w' : World) => match ss with | aw => ∃ (u : Env), e = upds [(1, aa), (2, (zal (some ⟨b1, 0, none⟩))), (8, (zI aw))] u ∧ vL w w' [some b1] [zab [ai, ac, ad, ae, af]] ∧ Keep w.heap.size [some b1] bh [some b1] w' ∧ True) ⟨_, (zef ⟨rfl, rfl, rfl, trivial⟩), cT, zbp, trivial⟩ ?_
  rintro aw oo _ cW ⟨u, rfl, aL, K46, -⟩ h bi
  rw [rSatisfies_b4] at h
  refine zam (zam (zah rfl (zag (zae (v := (zI aw)) rfl (zag (zat (q := 4) zba rfl ti24 rfl rfl rfl (zag (zav (v := af) zbn rfl rfl (aL.at 0 rfl rfl) rfl ?_))))))))
  have cX := (((((bN.mono (K4 S)).mono (K29 S)).mono (K37 S)).mono (K45 S)).mono (K46 S))
  refine zag (zcc (v := af) zbn rfl cX (zag (zcf ((aw : Int) < (p.Different.length : Int)) rfl rfl zbg (zar (zbi ((aw : Int) < (p.Different.length : Int)) rfl (fun aM => ?_) (fun aM => ?_))))))
  ·
   replace h := ite_t aM h
   refine zbm (zam (zbc (zam ?_)))
   obtain ⟨dJ, bj, fx, dK, -, h⟩ := zix h
   obtain ⟨dL, o22, c22, fy, fz, q88, fA, fB⟩ := zcy cX dK
   obtain ⟨rfl, -⟩ := rArr2Int_open fB
   have fC := (fA.part (us := [(zI dJ.e0)]) 0 rfl)
   obtain ⟨cY, cZ, fD, dM, -, h⟩ := zix h
   have dN := ((((f6.mono (K29 S)).mono (K37 S)).mono (K45 S)).mono (K46 S))
   obtain ⟨fE, o23, c23, fF, fG, q94, fH, fI⟩ := zcy dN dM
   obtain rfl := fI
   obtain ⟨dO, bk, fJ, dP, -, h⟩ := zix h
   obtain ⟨dQ, o24, c24, fK, fL, fM, fN, c0⟩ := zcy cX dP
   obtain ⟨rfl, -⟩ := rArr2Int_open c0
   have fO := (fN.part (us := [(zI dO.e1)]) 1 rfl)
   obtain ⟨c1, c2, c3, bl, -, h⟩ := zix h
   obtain ⟨fP, dR, c25, fQ, c4, fR, fS, c5⟩ := zcy dN bl
   obtain rfl := c5
   refine zcx 18 [] [] (fun W1 => [.det aa, .det (zal (some ⟨b1, 4, none⟩)), .det af, .det (zI aw), .det (zal (some ⟨dL, (o22 + bj * rArr2Int.sz), none⟩)), .det (zal (some ⟨dL, (o22 + bj * rArr2Int.sz) + 0, none⟩)), .det (zI dJ.e0), .det (zal (some ⟨fE, (o23 + cZ * rStr.sz), none⟩)), .det (zS cY), .det aa, .det (zal (some ⟨b1, 4, none⟩)), .det af, .det (zI aw), .det (zal (some ⟨dQ, (o24 + bk * rArr2Int.sz), none⟩)), .det (zal (some ⟨dQ, (o24 + bk * rArr2Int.sz) + 1, none⟩)), .det (zI dO.e1), .det (zal (some ⟨fP, (dR + c2 * rStr.sz), none⟩)), .det (zS c1)]) mixed rfl rfl rfl (fun _ => rfl) (fun _ => rfl) ?_ ?_
   ·
    intro W1 _
    exact trivial
   intro c6 bm
   obtain ⟨an, K47⟩ := zl aL bm
   refine zaw (fun _ _ => zaq (zae rfl (er rfl))) (zaw (fun _ _ => zaq (zat zba rfl ti24 rfl rfl rfl (er rfl))) (zaw (fun _ bn => zaq (zav zbn rfl rfl ((an.ext bn).at 0 rfl rfl) rfl (er rfl))) (zaw (fun _ _ => zaq (zae rfl (er rfl))) (zaw (fun _ _ => zaq (zbs (r := rArr2Int) (v := af) (n := bj) (m := (o22 + bj * rArr2Int.sz)) zbn ti45 rfl fz rfl fx dK rfl (er rfl))) (zaw (fun _ _ => zaq (zck (i := 0) (q := (o22 + bj * rArr2Int.sz) + 0) zcb ti3 rfl rfl (by decide) rfl (er rfl))) (zaw (fun _ bo => zaq (zbu zay rfl rfl zek (zbz ((ke an bo) S) (zbz (K47 S) fC)) (er rfl))) ?_))))))
   refine zaw (fun _ _ => zaq (zbs (r := rStr) (v := aa) (n := cZ) (m := (o23 + cZ * rStr.sz)) zaz ti9 rfl fG rfl fD dM rfl (er rfl))) (zaw (fun _ bp => zaq (zbu zax rfl rfl zek (zbz ((ke an bp) S) (zbz (K47 S) fH)) (er rfl))) (zaw (fun _ _ => zaq (zae rfl (er rfl))) (zaw (fun _ _ => zaq (zat zba rfl ti24 rfl rfl rfl (er rfl))) (zaw (fun _ bq => zaq (zav zbn rfl rfl ((an.ext bq).at 0 rfl rfl) rfl (er rfl))) (zaw (fun _ _ => zaq (zae rfl (er rfl))) (zaw (fun _ _ => zaq (zbs (r := rArr2Int) (v := af) (n := bk) (m := (o24 + bk * rArr2Int.sz)) zbn ti45 rfl fL rfl fJ dP rfl (er rfl))) ?_))))))
   refine zaw (fun _ _ => zaq (zck (i := 1) (q := (o24 + bk * rArr2Int.sz) + 1) zcb ti3 rfl rfl (by decide) rfl (er rfl))) (zaw (fun _ br => zaq (zbu zay rfl rfl zek (zbz ((ke an br) S) (zbz (K47 S) fO)) (er rfl))) (zaw (fun _ _ => zaq (zbs (r := rStr) (v := aa) (n := c2) (m := (dR + c2 * rStr.sz)) zaz ti9 rfl c4 rfl c3 bl rfl (er rfl))) (zaw (fun _ bu => zaq (zbu zax rfl rfl zek (zbz ((ke an bu) S) (zbz (K47 S) fS)) (er rfl))) (zdd ?_))))
   rintro fT Z156 bw dS ⟨-⟩ fU
   have fV := @zhb c6 Z156
   obtain ⟨bx, K52⟩ := zl an bw
   refine zag (OpY.sEql (x := cY) (y := c1) rfl rfl (zar (zbi (cY = c1) rfl (fun aN => ?_) (fun aN => ?_))))
   ·
    replace h := ite_t aN h
    refine zam (zah rfl (zag (zai (v := zF) rfl (zar (zbv ?_)))))
    obtain rfl := zad h
    obtain rfl := bi _ rfl
    replace h := cV
    try dsimp only at h
    obtain rfl := zad h
    refine ⟨[zF], zrt, ⟨_, rfl, bx.done, ?_⟩⟩
    exact zrt
   replace h := ite_f aN h
   refine zbm (zbe (zah rfl (zag (zae (v := (zI aw)) rfl ?_))))
   refine zag (zca (z := (iw (aw + 1))) rfl rfl rfl (zag (zai (v := (zI (iw (aw + 1)))) rfl (zar ?_))))
   obtain rfl := zad h
   refine zap ⟨(iw (aw + 1)), rfl, ?_⟩
   exact ⟨_, (zef ⟨rfl, rfl, rfl, trivial⟩), bx, (zak (zak K46 K47) K52), trivial⟩
  replace h := ite_f aM h
  refine zcd rfl ?_
  have bz := aL.pick [] rfl rfl rfl
  have c7 : vL w cW [] [] := bz.1
  have K53 := ks w bz.2
  obtain rfl := zad h
  obtain rfl := bi _ rfl
  replace h := cV
  try dsimp only at h
  refine zap ?_
  exact ⟨_, rfl, (zef trivial), c7, (zak K46 K53), trivial⟩
 rintro _ fW ⟨u, rfl, rfl, c8, K54, -⟩
 replace h := cV
 try dsimp only at h
 refine zam (zah rfl (zag (zai (v := zT) rfl (zar (zbv ?_)))))
 obtain rfl := zad h
 refine ⟨[zT], zrt, ⟨_, rfl, c8.done, ?_⟩⟩
 exact zrt
theorem rLeaders_w (N : Nat) (p : TProb) (aw : Value) (ag : Value) (ai : Value) (ae : Value) (aj : Value) (w : World) (S : Nat → Prop) (p_h : Rs rI (vH w S [] w) aw p.Min) (bk : Rs rI (vH w S [] w) ag p.Max) (cL : Rs rTTest (vH w S [] w) ai p.Tests) (bl : Rs rArr2Int (vH w S [] w) ae p.Same) (cM : Rs rArr2Int (vH w S [] w) aj p.Different) (r : (List Int)) (h : rLeaders N p = some r) :
  Calls Try.prog 41 #[(zbr #[aw, ag, ai, ae, aj])] w (Ret w (fun v w' => ∃ (bm : Option Nat) (aV : Nat) (bn : List Value) (sp0 : List Value), (osv bm 0 r.length aV) = v ∧ NewOwn w w' [bm] [zab ([] ++ (bn ++ sp0))] ∧ Els rI (vH w None [bm] w') bn r ∧ (bn ++ sp0).length = aV * rI.sz ∧ True)) := by
 unfold rLeaders at h
 have hL : vL w w [] [] := Go.X.Loc.begin0 w
 refine calls_of (l := [(zbr #[aw, ag, ai, ae, aj])]) (rl := [.tmp 2]) (n := 65) Try.func41 rfl rfl rfl (zaj rfl) ?_
 refine zam (zah rfl (zag (zdo (cs := [aw, ag, ai, ae, aj]) rfl rfl hL ?_)))
 intro b1 w2 cN cO
 have K4 := ks w cO
 refine zag (zai (v := zN) rfl (zar (zam (zah rfl (zag (zdr zan ti3 cN ?_))))))
 intro b6 bo bp bq
 have br : Els rI (vH w None [some b1] w2) [] [] := zcn
 have K10 := ks w bq
 refine zag (zai (v := (osv (some b6) 0 (List.length ([] : (List Int))) 0)) rfl (zar (zam (zam (zah rfl (zag (zai (v := (zI 0)) rfl (zar ?_))))))))
 obtain ⟨cP, bu, cq⟩ := zee h
 refine zbt (fun e w' => ∃ (aa : (List Int)) (ab : Option Nat) (ac : Nat) (af : List Value) (ax : List Value) (aI : Nat) (u : Env), aa = cP ∧ e = upds [(1, (zal (some ⟨b1, 0, none⟩))), (3, (osv ab 0 aI ac))] u ∧ vL w w' [some b1, ab] [zab [aw, ag, ai, ae, aj], zab ([] ++ (ax ++ af))] ∧ Keep w.heap.size [some b6, some b1] bo [some b1, ab] w' ∧ Els rI (vH w None [some b1, ab] w') ax aa ∧ aI = List.length aa ∧ (ax ++ af).length = ac * rI.sz ∧ True) ?_ ?_
 ·
  refine zbc ?_
  have aW := bp.pick [1, 0] rfl rfl rfl
  have bw : vL w bo [some b1, some b6] [zab [aw, ag, ai, ae, aj], zab ([] ++ ([] ++ []))] := aW.1
  have K11 := ks w aW.2
  have cQ := ((br.mono (K10 None)).mono (K11 None))
  refine zbx bu (fun (ss : ((List Int) × Int)) (e : Env) (w' : World) => match ss with | (ah, ao) => ∃ (an : Option Nat) (am : Nat) (ay : List Value) (av : List Value) (aJ : Nat) (u : Env), e = upds [(1, (zal (some ⟨b1, 0, none⟩))), (3, (osv an 0 aJ am)), (4, (zI ao))] u ∧ vL w w' [some b1, an] [zab [aw, ag, ai, ae, aj], zab ([] ++ (av ++ ay))] ∧ Keep w.heap.size [some b6, some b1] bo [some b1, an] w' ∧ Els rI (vH w None [some b1, an] w') av ah ∧ aJ = List.length ah ∧ (av ++ ay).length = am * rI.sz ∧ True) ⟨some b6, 0, [], [], (List.length ([] : (List Int))), _, (zef ⟨rfl, rfl, rfl, trivial⟩), bw, K11, cQ, rfl, (show ([] ++ [] : List Value).length = 0 * rI.sz by simp), trivial⟩ ?_
  rintro ⟨ah, ao⟩ oo _ cR ⟨an, am, ay, av, aJ, u, rfl, aK, K12, aX, rfl, aY, -⟩ h bx
  rw [rLeaders_b1] at h
  refine zam (zam (zah rfl (zag (zae (v := (zI ao)) rfl (zag (zat (q := 1) zba rfl ti22 rfl rfl rfl (zag (zav (v := ag) zan rfl rfl (aK.at 0 rfl rfl) rfl ?_))))))))
  have cS := (((bk.mono (K4 S)).mono (K10 S)).mono (K12 S))
  refine zag (zcc (v := ag) zan rfl cS (zag (zcf ((ao : Int) < (p.Max.length : Int)) rfl rfl zbg (zar (zbi ((ao : Int) < (p.Max.length : Int)) rfl (fun aL => ?_) (fun aL => ?_))))))
  ·
   replace h := ite_t aL h
   refine zbm (zam (zbc (zah rfl (zag (zae (v := (osv an 0 ah.length am)) rfl ?_)))))
   refine zag (zae (v := (zI ao)) rfl ?_)
   have aZ : Els rI (vH w None [some b1, an] cR) [(zI ao)] [ao] := (zcq (a := [(zI ao)]) rfl zcn)
   refine zag (zco (r := rI) (vs := [(zI ao)]) (css := [[(zI ao)]]) (xs := [ao]) zan ti3 (zaj rfl) rfl rfl ⟨rfl, rfl, trivial⟩ (zaj rfl) aZ rfl aK ?_)
   intro cT cU cV a0 bz
   have K13 := ks w bz
   obtain ⟨bg, cW, h⟩ := zee h
   obtain ⟨cX, cY, cZ⟩ := zep cW
   have cr := (aZ.mono (K13 None))
   have c0 := (aX.mono (K13 None))
   refine zag (zcz (r := rI) (H := (vH w None [some cT, some b1, an] cU)) (cs := av) (sp := ay) (xs := ah) (ys := [ao]) (Y := bg) (n := ah.length) (cap := am) (i := 2) zan ti3 rfl rfl rfl rfl a0 rfl rfl c0 rfl aY (zdu (pre := []) (o := 0) (n := 1) (cap := 1) (a0.at 0 rfl rfl) cr rfl rfl rfl) (zcj (fun _ _ _ _ h => h) cr) cX cY cZ ?_)
   intro aM aH a1 a2 c1 bA bB bC bD
   have K14 := ks w bD
   refine zag (zai (v := (osv aM 0 bg.length aH)) rfl (zar (zbe (zah rfl (zag (zae (v := (zI ao)) rfl (zag (zca (z := (iw (ao + 1))) rfl rfl rfl (zag (zai (v := (zI (iw (ao + 1)))) rfl (zar ?_)))))))))))
   have a3 := bC.pick [1, 2] rfl rfl rfl
   have bE : vL w c1 [some b1, aM] [zab [aw, ag, ai, ae, aj], zab ([] ++ (a2 ++ a1))] := a3.1
   have K15 := ks w a3.2
   have c2 := ((bA.mono (K14 None)).mono (K15 None))
   obtain rfl := zad h
   refine zap ⟨(bg, (iw (ao + 1))), rfl, ?_⟩
   exact ⟨aM, aH, a1, a2, bg.length, _, (zef ⟨rfl, rfl, rfl, trivial⟩), bE, (zak (zak (zak K12 K13) K14) K15), c2, rfl, bB, trivial⟩
  replace h := ite_f aL h
  refine zcd rfl ?_
  obtain rfl := zad h
  obtain rfl := bx _ rfl
  replace h := cq
  try dsimp only at h
  refine zap ?_
  exact ⟨ah, an, am, ay, av, ah.length, _, rfl, (zef ⟨rfl, rfl, trivial⟩), aK, K12, aX, rfl, aY, trivial⟩
 rintro _ ct ⟨aa, ab, ac, af, ax, aI, u, rfl, rfl, bF, K16, bG, rfl, bH, -⟩
 replace h := cq
 try dsimp only at h
 refine zam (zam (zah rfl (zag (zai (v := (zI 0)) rfl (zar ?_)))))
 obtain ⟨c3, bI, cu⟩ := zee h
 refine zbt (fun e w' => ∃ (au : (List Int)) (az : List Value) (u : Env), au = c3 ∧ e = upds [(3, (osv ab 0 aa.length ac))] u ∧ vL w w' [ab] [zab ([] ++ (az ++ af))] ∧ Keep w.heap.size [some b1, ab] ct [ab] w' ∧ Els rI (vH w None [ab] w') az au ∧ aa.length = List.length au ∧ (az ++ af).length = ac * rI.sz ∧ True) ?_ ?_
 ·
  refine zbc ?_
  refine zbx bI (fun (ss : ((List Int) × Int)) (e : Env) (w' : World) => match ss with | (ak, ad) => ∃ (ar : List Value) (u : Env), e = upds [(1, (zal (some ⟨b1, 0, none⟩))), (3, (osv ab 0 aa.length ac)), (5, (zI ad))] u ∧ vL w w' [some b1, ab] [zab [aw, ag, ai, ae, aj], zab ([] ++ (ar ++ af))] ∧ Keep w.heap.size [some b1, ab] ct [some b1, ab] w' ∧ Els rI (vH w None [some b1, ab] w') ar ak ∧ aa.length = List.length ak ∧ (ar ++ af).length = ac * rI.sz ∧ True) ⟨ax, _, (zef ⟨rfl, rfl, rfl, trivial⟩), bF, zbp, bG, rfl, bH, trivial⟩ ?_
  rintro ⟨ak, ad⟩ oo _ bJ ⟨ar, u, rfl, aN, K17, aO, aP, a4, -⟩ h bK
  rw [rLeaders_b2] at h
  refine zam (zam (zah rfl (zag (zae (v := (zI ad)) rfl (zag (zae (v := (osv ab 0 aa.length ac)) rfl (zag (zcl (pre := []) (r := rI) (xs := ak) zan rfl (aN.at 1 rfl rfl) aO rfl aP (zag (zcf ((ad : Int) < (ak.length : Int)) rfl rfl zbg (zar (zbi ((ad : Int) < (ak.length : Int)) rfl (fun aQ => ?_) (fun aQ => ?_)))))))))))))
  ·
   replace h := ite_t aQ h
   refine zbm (zam (zbc (zam (zah rfl (zag (zai (v := (zI 0)) rfl (zar ?_)))))))
   obtain ⟨c4, bL, cv⟩ := zee h
   refine zbt (fun e w' => ∃ (ap : (List Int)) (aA : List Value) (u : Env), ap = c4 ∧ e = upds [(1, (zal (some ⟨b1, 0, none⟩))), (3, (osv ab 0 aa.length ac)), (5, (zI ad))] u ∧ vL w w' [some b1, ab] [zab [aw, ag, ai, ae, aj], zab ([] ++ (aA ++ af))] ∧ Keep w.heap.size [some b1, ab] bJ [some b1, ab] w' ∧ Els rI (vH w None [some b1, ab] w') aA ap ∧ aa.length = List.length ap ∧ (aA ++ af).length = ac * rI.sz ∧ True) ?_ ?_
   ·
    refine zbc ?_
    refine zbx bL (fun (ss : ((List Int) × Int)) (e : Env) (w' : World) => match ss with | (al, aB) => ∃ (aC : List Value) (u : Env), e = upds [(1, (zal (some ⟨b1, 0, none⟩))), (3, (osv ab 0 aa.length ac)), (5, (zI ad)), (6, (zI aB))] u ∧ vL w w' [some b1, ab] [zab [aw, ag, ai, ae, aj], zab ([] ++ (aC ++ af))] ∧ Keep w.heap.size [some b1, ab] bJ [some b1, ab] w' ∧ Els rI (vH w None [some b1, ab] w') aC al ∧ aa.length = List.length al ∧ (aC ++ af).length = ac * rI.sz ∧ True) ⟨ar, _, (zef ⟨rfl, rfl, rfl, rfl, trivial⟩), aN, zbp, aO, aP, a4, trivial⟩ ?_
    rintro ⟨al, aB⟩ oo _ w16 ⟨aC, u, rfl, aR, K18, a5, aD, a6, -⟩ h bM
    rw [rLeaders_b3] at h
    refine zam (zam (zah rfl (zag (zae (v := (zI aB)) rfl (zag (zat (q := 3) zba rfl ti24 rfl rfl rfl (zag (zav (v := ae) zbn rfl rfl (aR.at 0 rfl rfl) rfl ?_))))))))
    have bN := (((((bl.mono (K4 S)).mono (K10 S)).mono (K16 S)).mono (K17 S)).mono (K18 S))
    refine zag (zcc (v := ae) zbn rfl bN (zag (zcf ((aB : Int) < (p.Same.length : Int)) rfl rfl zbg (zar (zbi ((aB : Int) < (p.Same.length : Int)) rfl (fun aS => ?_) (fun aS => ?_))))))
    ·
     replace h := ite_t aS h
     refine zbm (zam (zbc (zam ?_)))
     obtain ⟨a7, a8, c5, cw, -, h⟩ := zix h
     obtain ⟨cx, bh, c10, c6, c7, q18, c8, c9⟩ := zcy bN cw
     obtain ⟨rfl, -⟩ := rArr2Int_open c9
     have da := (c8.part (us := [(zI a7.e0)]) 0 rfl)
     obtain ⟨a9, ba, db, cy, -, h⟩ := zix h
     obtain ⟨cz, bi, c11, dc, dd, q24, dh, di⟩ := zcy bN cy
     obtain ⟨rfl, -⟩ := rArr2Int_open di
     have dj := (dh.part (us := [(zI a9.e1)]) 1 rfl)
     refine zcx 13 [] [] (fun W1 => [.det (zal (some ⟨b1, 3, none⟩)), .det ae, .det (zI aB), .det (zal (some ⟨cx, (bh + a8 * rArr2Int.sz), none⟩)), .det (zal (some ⟨cx, (bh + a8 * rArr2Int.sz) + 0, none⟩)), .det (zI a7.e0), .det (zal (some ⟨b1, 3, none⟩)), .det ae, .det (zI aB), .det (zal (some ⟨cz, (bi + ba * rArr2Int.sz), none⟩)), .det (zal (some ⟨cz, (bi + ba * rArr2Int.sz) + 1, none⟩)), .det (zI a9.e1), .det (zI a7.e0)]) mixed rfl rfl rfl (fun _ => rfl) (fun _ => rfl) ?_ ?_
     ·
      intro W1 _
      exact trivial
     intro dk bO
     obtain ⟨aE, K19⟩ := zl aR bO
     refine zaw (fun _ _ => zaq (zat zba rfl ti24 rfl rfl rfl (er rfl))) (zaw (fun _ bP => zaq (zav zbn rfl rfl ((aE.ext bP).at 0 rfl rfl) rfl (er rfl))) (zaw (fun _ _ => zaq (zae rfl (er rfl))) (zaw (fun _ _ => zaq (zbs (r := rArr2Int) (v := ae) (n := a8) (m := (bh + a8 * rArr2Int.sz)) zbn ti45 rfl c7 rfl c5 cw rfl (er rfl))) (zaw (fun _ _ => zaq (zck (i := 0) (q := (bh + a8 * rArr2Int.sz) + 0) zcb ti3 rfl rfl (by decide) rfl (er rfl))) (zaw (fun _ bQ => zaq (zbu zay rfl rfl zek (zbz ((ke aE bQ) S) (zbz (K19 S) da)) (er rfl))) (zaw (fun _ _ => zaq (zat zba rfl ti24 rfl rfl rfl (er rfl))) ?_))))))
     refine zaw (fun _ bR => zaq (zav zbn rfl rfl ((aE.ext bR).at 0 rfl rfl) rfl (er rfl))) (zaw (fun _ _ => zaq (zae rfl (er rfl))) (zaw (fun _ _ => zaq (zbs (r := rArr2Int) (v := ae) (n := ba) (m := (bi + ba * rArr2Int.sz)) zbn ti45 rfl dd rfl db cy rfl (er rfl))) (zaw (fun _ _ => zaq (zck (i := 1) (q := (bi + ba * rArr2Int.sz) + 1) zcb ti3 rfl rfl (by decide) rfl (er rfl))) (zaw (fun _ bS => zaq (zbu zay rfl rfl zek (zbz ((ke aE bS) S) (zbz (K19 S) dj)) (er rfl))) (zaw (fun _ _ => zaq (zai rfl (er rfl))) (zdd ?_))))))
     rintro w31 Z33 bT dl ⟨-⟩ dm
     have dn := @zhb dk Z33
     obtain ⟨bb, K22⟩ := zl aE bT
     refine zag (zai (v := (zI a9.e1)) rfl (zar (zam ?_)))
     obtain ⟨aF, bU, dp, cA, dq, h⟩ := zix h
     have bj := ((a5.mono (K19 None)).mono (K22 None))
     obtain ⟨aU, aq⟩ := bb.row_some 1 rfl rfl (zev (pre := []) bj cA (Nat.lt_of_sub_eq_succ rfl))
     obtain ⟨dr, q30, ds, dt⟩ := zeo (pre := []) (sp := af) bj cA
     obtain rfl := ds
     obtain ⟨aG, bV, du, dv, dw, h⟩ := zix h
     obtain ⟨dx, q37, dy, dz⟩ := zeo (pre := []) (sp := af) bj dv
     obtain rfl := dy
     refine zcx 8 [] [] (fun W1 => [.det (osv ab 0 aa.length ac), .det (zI a7.e0), .det (zal (some ⟨aU, (0 + bU * rI.sz), none⟩)), .det (zI aF), .det (osv ab 0 aa.length ac), .det (zI a9.e1), .det (zal (some ⟨aU, (0 + bV * rI.sz), none⟩)), .det (zI aG)]) mixed rfl rfl rfl (fun _ => rfl) (fun _ => rfl) ?_ ?_
     ·
      intro W1 _
      exact trivial
     intro dA bW
     obtain ⟨aT, K23⟩ := zl bb bW
     refine zaw (fun _ _ => zaq (zae rfl (er rfl))) (zaw (fun _ _ => zaq (zae rfl (er rfl))) (zaw (fun _ _ => zaq (zbl (r := rI) (b := aU) (o := 0) (n := bU) (m := aa.length) (xs := al) (q := (0 + bU * rI.sz)) zan ti3 (zen aq) aD rfl dp dq rfl (er rfl))) (zaw (fun _ bX => zaq (zby zay rfl rfl (zer aq ((aT.ext bX).at 1 rfl rfl)) dt (er rfl))) (zaw (fun _ _ => zaq (zae rfl (er rfl))) (zaw (fun _ _ => zaq (zae rfl (er rfl))) (zaw (fun _ _ => zaq (zbl (r := rI) (b := aU) (o := 0) (n := bV) (m := aa.length) (xs := al) (q := (0 + bV * rI.sz)) zan ti3 (zen aq) aD rfl du dw rfl (er rfl))) ?_))))))
     refine zaw (fun _ bY => zaq (zby zay rfl rfl (zer aq ((aT.ext bY).at 1 rfl rfl)) dz (er rfl))) (zdd ?_)
     rintro w41 Z42 bZ dB ⟨-⟩ dC
     have dD := @zhb dA Z42
     obtain ⟨b0, K24⟩ := zl aT bZ
     refine zag (OpY.min (x := aF) (y := aG) rfl rfl (zag (zai (v := (zI (imin aF aG))) rfl (zar (zah rfl (zag (zae (v := (osv ab 0 aa.length ac)) rfl (zag (zae (v := (zI a7.e0)) rfl (zag (zae (v := (osv ab 0 aa.length ac)) rfl (zag (zae (v := (zI a9.e1)) rfl (zag (zae (v := (zI (imin aF aG))) rfl ?_)))))))))))))))
     refine zag (zae (v := (zI (imin aF aG))) rfl ?_)
     obtain ⟨x15, cB, cC, q42, cD, h⟩ := zix h
     refine zag (zbl (r := rI) (b := aU) (o := 0) (n := cB) (m := aa.length) (xs := al) (q := (0 + cB * rI.sz)) zan ti3 (zen aq) aD rfl cC cD rfl ?_)
     obtain ⟨cE, n15, dE, q46, cF, h⟩ := zux h
     obtain rfl := zin cC dE
     have dF := ((bj.mono (K23 None)).mono (K24 None))
     refine zdj (zdg (pre := []) (r := rI) (vs := [(zI (imin aF aG))]) (a := (imin aF aG)) ti3 rfl rfl rfl rfl b0 1 (congrArg some aq) rfl dF cD rfl cF ?_)
     have bc : aa.length = List.length cE := by rw [cF, List.length_set]; exact aD
     intro w42 b2 b3 b4 b5 dG
     have b7 : (b2 ++ af).length = ac * rI.sz := zhc a6 dG
     have K25 := ks w b4
     obtain ⟨x17, cG, cH, q51, cI, h⟩ := zix h
     refine zag (zbl (r := rI) (b := aU) (o := 0) (n := cG) (m := aa.length) (xs := cE) (q := (0 + cG * rI.sz)) zan ti3 (zen aq) bc rfl cH cI rfl ?_)
     obtain ⟨cJ, n17, dH, q55, cK, h⟩ := zux h
     obtain rfl := zin cH dH
     have dI := (b5.mono (K25 None))
     refine zdj (zdg (pre := []) (r := rI) (vs := [(zI (imin aF aG))]) (a := (imin aF aG)) ti3 rfl rfl rfl rfl b3 1 (congrArg some aq) rfl dI cI rfl cK ?_)
     have b8 : aa.length = List.length cJ := by rw [cK, List.length_set]; exact bc
     intro w43 bd b9 ca cb dJ
     have cc : (bd ++ af).length = ac * rI.sz := zhc b7 dJ
     have K26 := ks w ca
     refine zar (zbe (zah rfl (zag (zae (v := (zI aB)) rfl ?_))))
     refine zag (zca (z := (iw (aB + 1))) rfl rfl rfl (zag (zai (v := (zI (iw (aB + 1)))) rfl (zar ?_))))
     have dK := (cb.mono (K26 None))
     obtain rfl := zad h
     refine zap ⟨(cJ, (iw (aB + 1))), rfl, ?_⟩
     exact ⟨bd, _, (zef ⟨rfl, rfl, rfl, rfl, trivial⟩), b9, (zak (zak (zak (zak (zak (zak K18 K19) K22) K23) K24) K25) K26), dK, b8, cc, trivial⟩
    replace h := ite_f aS h
    refine zcd rfl ?_
    obtain rfl := zad h
    obtain rfl := bM _ rfl
    replace h := cv
    try dsimp only at h
    refine zap ?_
    exact ⟨al, aC, _, rfl, (zef ⟨rfl, rfl, rfl, trivial⟩), aR, K18, a5, aD, a6, trivial⟩
   rintro _ w44 ⟨ap, aA, u, rfl, rfl, cd, K27, ce, cg, ch, -⟩
   replace h := cv
   try dsimp only at h
   refine zbe (zah rfl (zag (zae (v := (zI ad)) rfl ?_)))
   refine zag (zca (z := (iw (ad + 1))) rfl rfl rfl (zag (zai (v := (zI (iw (ad + 1)))) rfl (zar ?_))))
   obtain rfl := zad h
   refine zap ⟨(ap, (iw (ad + 1))), rfl, ?_⟩
   exact ⟨aA, _, (zef ⟨rfl, rfl, rfl, trivial⟩), cd, (zak K17 K27), ce, cg, ch, trivial⟩
  replace h := ite_f aQ h
  refine zcd rfl ?_
  have be := aN.pick [1] rfl rfl rfl
  have ci : vL w bJ [ab] [zab ([] ++ (ar ++ af))] := be.1
  have K28 := ks w be.2
  have dL := (aO.mono (K28 None))
  obtain rfl := zad h
  obtain rfl := bK _ rfl
  replace h := cu
  try dsimp only at h
  refine zap ?_
  exact ⟨ak, ar, _, rfl, (zef zrt), ci, (zak K17 K28), dL, aP, a4, trivial⟩
 rintro _ w45 ⟨au, az, u, rfl, rfl, bf, K29, cj, ck, cp, -⟩
 replace h := cu
 try dsimp only at h
 refine zam (zah rfl (zag (zae (v := (osv ab 0 aa.length ac)) rfl (zag (zai (v := (osv ab 0 aa.length ac)) rfl (zar (zbv ?_)))))))
 obtain rfl := zad h
 refine ⟨[(osv ab 0 aa.length ac)], zrt, ⟨_, rfl, bf.done, ?_⟩⟩
 exact ⟨ab, ac, az, af, (by rw [← ck]; rfl), (bf.newOwn [0] rfl rfl rfl), (cj.mono (zdy [0] rfl)), cp, trivial⟩
theorem rClasses_w (N : Nat) (p : TProb) (a1 : Value) (ay : Value) (az : Value) (aA : Value) (aB : Value) (w : World) (S : Nat → Prop) (cu : Rs rI (vH w S [] w) a1 p.Min) (bq : Rs rI (vH w S [] w) ay p.Max) (br : Rs rTTest (vH w S [] w) az p.Tests) (bu : Rs rArr2Int (vH w S [] w) aA p.Same) (bw : Rs rArr2Int (vH w S [] w) aB p.Different) (r : (List (List Int))) (h : rClasses N p = some r) :
  Calls Try.prog 21 #[(zbr #[a1, ay, az, aA, aB])] w (Ret w (fun v w' => ∃ (bx : Option Nat) (a2 : Nat) (bz : List Value) (sp0 : List Value), (zO bx r a2) = v ∧ NewOwn w w' [bx] [zab ([] ++ (bz ++ sp0))] ∧ Els (rSl rI) (vH w None [bx] w') bz r ∧ (bz ++ sp0).length = a2 * (rSl rI).sz ∧ True)) := by
 unfold rClasses at h
 have hL : vL w w [] [] := Go.X.Loc.begin0 w
 refine calls_of (l := [(zbr #[a1, ay, az, aA, aB])]) (rl := [.tmp 2]) (n := 45) Try.func21 rfl rfl rfl (zaj rfl) ?_
 refine zam (zah rfl (zag (zdo (cs := [a1, ay, az, aA, aB]) rfl rfl hL ?_)))
 intro b1 w2 cv cw
 have K4 := ks w cw
 refine zag (zai (v := zN) rfl (zar (zam (zah rfl (zag (zdr zda ti22 cv ?_))))))
 intro b6 w10 aK bA
 have bB : Els (rSl rI) (vH w None [some b1] w2) [] [] := zcn
 have K10 := ks w bA
 refine zag (zai (v := (osv (some b6) 0 (List.length ([] : (List (List Int)))) 0)) rfl (zar (zam (zah rfl (zag (zcr (vs := [a1, ay, az, aA, aB]) zba rfl ti26 rfl (aK.at 1 rfl rfl) rfl rfl ?_))))))
 obtain ⟨au, cx, h⟩ := zee h
 have cy := ((cu.mono (K4 S)).mono (K10 S))
 have cz := ((bq.mono (K4 S)).mono (K10 S))
 have cA := ((br.mono (K4 S)).mono (K10 S))
 have cB := ((bu.mono (K4 S)).mono (K10 S))
 have cC := ((bw.mono (K4 S)).mono (K10 S))
 refine zag (zce en41 rfl rfl (rLeaders_w N p a1 ay az aA aB _ Any (cy.mono vw_any) (cz.mono vw_any) (cA.mono vw_any) (cB.mono vw_any) (cC.mono vw_any) au cx) ?_)
 rintro _ bC bD ⟨ab, ah, aw, ap, rfl, bE, aL, cD, -⟩
 replace aL := aL.mono (zbw (S := None) aK [ab])
 have a3 := aK.adoptL bD bE
 have bF := a3.1
 have K11 := ks w a3.2
 refine zag (zai (v := (zO ab au ah)) rfl (zar (zam (zam (zah rfl (zag (zai (v := (zI 0)) rfl (zar ?_))))))))
 obtain ⟨cE, bG, cd⟩ := zee h
 refine zbt (fun e w' => ∃ (ak : (List (List Int))) (av : Option Nat) (al : Nat) (aG : List Value) (aF : List Value) (aM : Nat) (u : Env), ak = cE ∧ e = upds [(3, (osv av 0 aM al))] u ∧ vL w w' [av] [zab ([] ++ (aF ++ aG))] ∧ Keep w.heap.size [ab, some b6, some b1] bC [av] w' ∧ Els (rSl rI) (vH w None [av] w') aF ak ∧ aM = List.length ak ∧ (aF ++ aG).length = al * (rSl rI).sz ∧ True) ?_ ?_
 ·
  refine zbc ?_
  have a4 := bF.pick [1, 0] rfl rfl rfl
  have bH : vL w bC [some b6, ab] [zab ([] ++ ([] ++ [])), zab ([] ++ (aw ++ ap))] := a4.1
  have K12 := ks w a4.2
  have cF := (((bB.mono (K10 None)).mono (K11 None)).mono (K12 None))
  refine zbx bG (fun (ss : ((List (List Int)) × Int)) (e : Env) (w' : World) => match ss with | (ae, an) => ∃ (ad : Option Nat) (af : Nat) (aj : List Value) (ag : List Value) (aN : Nat) (u : Env), e = upds [(3, (osv ad 0 aN af)), (4, (zO ab au ah)), (5, (zI an))] u ∧ vL w w' [ad, ab] [zab ([] ++ (ag ++ aj)), zab ([] ++ (aw ++ ap))] ∧ Keep w.heap.size [ab, some b6, some b1] bC [ad, ab] w' ∧ Els (rSl rI) (vH w None [ad, ab] w') ag ae ∧ aN = List.length ae ∧ (ag ++ aj).length = af * (rSl rI).sz ∧ True) ⟨some b6, 0, [], [], (List.length ([] : (List (List Int)))), _, (zef ⟨rfl, rfl, rfl, trivial⟩), bH, K12, cF, rfl, (show ([] ++ [] : List Value).length = 0 * (rSl rI).sz by simp), trivial⟩ ?_
  rintro ⟨ae, an⟩ oo _ ce ⟨ad, af, aj, ag, aN, u, rfl, aC, K13, aO, rfl, aP, -⟩ h bI
  rw [rClasses_b1] at h
  refine zam (zam (zah rfl (zag (zae (v := (zI an)) rfl (zag (zae (v := (zO ab au ah)) rfl ?_))))))
  have bn := (aL.mono (K13 None))
  refine zag (zcl (pre := []) (r := rI) (xs := au) zan rfl (aC.at 1 rfl rfl) bn rfl rfl (zag (zcf ((an : Int) < (au.length : Int)) rfl rfl zbg (zar (zbi ((an : Int) < (au.length : Int)) rfl (fun aQ => ?_) (fun aQ => ?_))))))
  ·
   replace h := ite_t aQ h
   refine zbm (zam (zbc (zam (zam (zah rfl (zag (zae (v := (zO ab au ah)) rfl ?_)))))))
   refine zag (zae (v := (zI an)) rfl ?_)
   obtain ⟨bJ, cg, cG, ch, cH, h⟩ := zix h
   obtain ⟨cI, a5⟩ := aC.row_some 1 rfl rfl (zev (pre := []) bn ch (Nat.lt_of_sub_eq_succ rfl))
   refine zag (zbl (r := rI) (b := cI) (o := 0) (n := cg) (m := au.length) (xs := au) (q := (0 + cg * rI.sz)) zan ti3 (zen a5) rfl rfl cG cH rfl ?_)
   obtain ⟨cJ, q15, cK, cL⟩ := zeo (pre := []) (sp := ap) bn ch
   obtain rfl := cK
   refine zag (zby (v := (zI bJ)) zay rfl rfl (zer a5 (aC.at 1 rfl rfl)) cL (zag (zae (v := (zI an)) rfl (zag (OpY.neq ((bJ : Int) ≠ an) rfl rfl zbg (zar (zbi ((bJ : Int) ≠ an) rfl (fun aR => ?_) (fun aR => ?_))))))))
   ·
    replace h := ite_t aR h
    refine zcd rfl (zah rfl (zag (zae (v := (zI an)) rfl ?_)))
    refine zag (zca (z := (iw (an + 1))) rfl rfl rfl (zag (zai (v := (zI (iw (an + 1)))) rfl (zar ?_))))
    obtain rfl := zad h
    refine zap ⟨(ae, (iw (an + 1))), rfl, ?_⟩
    exact ⟨ad, af, aj, ag, ae.length, _, (zef ⟨rfl, rfl, rfl, trivial⟩), aC, K13, aO, rfl, aP, trivial⟩
   replace h := ite_f aR h
   refine zbm (zam (zah rfl (zag (zdr zan ti3 aC ?_))))
   intro a6 bK bL bM
   have bN : Els rI (vH w None [ad, ab] ce) [] [] := zcn
   have K14 := ks w bM
   refine zag (zai (v := (osv (some a6) 0 (List.length ([] : (List Int))) 0)) rfl (zar (zam (zam (zah rfl (zag (zai (v := (zI 0)) rfl (zar ?_))))))))
   obtain ⟨cM, bO, ci⟩ := zee h
   refine zbt (fun e w' => ∃ (aa : (List Int)) (aq : Option Nat) (ai : Nat) (aS : List Value) (aH : List Value) (aT : Nat) (u : Env), aa = cM ∧ e = upds [(3, (zO ad ae af)), (4, (zO ab au ah)), (5, (zI an)), (6, (osv aq 0 aT ai))] u ∧ vL w w' [ad, ab, aq] [zab ([] ++ (ag ++ aj)), zab ([] ++ (aw ++ ap)), zab ([] ++ (aH ++ aS))] ∧ Keep w.heap.size [some a6, ad, ab] bK [ad, ab, aq] w' ∧ Els rI (vH w None [ad, ab, aq] w') aH aa ∧ aT = List.length aa ∧ (aH ++ aS).length = ai * rI.sz ∧ True) ?_ ?_
   ·
    refine zbc ?_
    have a7 := bL.pick [1, 2, 0] rfl rfl rfl
    have bP : vL w bK [ad, ab, some a6] [zab ([] ++ (ag ++ aj)), zab ([] ++ (aw ++ ap)), zab ([] ++ ([] ++ []))] := a7.1
    have K15 := ks w a7.2
    have cN := ((bN.mono (K14 None)).mono (K15 None))
    refine zbx bO (fun (ss : ((List Int) × Int)) (e : Env) (w' : World) => match ss with | (ac, ao) => ∃ (ar : Option Nat) (am : Nat) (aD : List Value) (ax : List Value) (aU : Nat) (u : Env), e = upds [(3, (zO ad ae af)), (4, (zO ab au ah)), (5, (zI an)), (6, (osv ar 0 aU am)), (7, (zI ao))] u ∧ vL w w' [ad, ab, ar] [zab ([] ++ (ag ++ aj)), zab ([] ++ (aw ++ ap)), zab ([] ++ (ax ++ aD))] ∧ Keep w.heap.size [some a6, ad, ab] bK [ad, ab, ar] w' ∧ Els rI (vH w None [ad, ab, ar] w') ax ac ∧ aU = List.length ac ∧ (ax ++ aD).length = am * rI.sz ∧ True) ⟨some a6, 0, [], [], (List.length ([] : (List Int))), _, (zef ⟨rfl, rfl, rfl, rfl, rfl, trivial⟩), bP, K15, cN, rfl, (show ([] ++ [] : List Value).length = 0 * rI.sz by simp), trivial⟩ ?_
    rintro ⟨ac, ao⟩ oo _ cO ⟨ar, am, aD, ax, aU, u, rfl, aE, K16, aV, rfl, aW, -⟩ h bQ
    rw [rClasses_b2] at h
    refine zam (zam (zah rfl (zag (zae (v := (zI ao)) rfl (zag (zae (v := (zO ab au ah)) rfl ?_))))))
    have bR := ((bn.mono (K14 None)).mono (K16 None))
    refine zag (zcl (pre := []) (r := rI) (xs := au) zan rfl (aE.at 1 rfl rfl) bR rfl rfl (zag (zcf ((ao : Int) < (au.length : Int)) rfl rfl zbg (zar (zbi ((ao : Int) < (au.length : Int)) rfl (fun aX => ?_) (fun aX => ?_))))))
    ·
     replace h := ite_t aX h
     refine zbm (zam (zbc (zam (zah rfl (zag (zae (v := (zO ab au ah)) rfl ?_))))))
     refine zag (zae (v := (zI ao)) rfl ?_)
     obtain ⟨bS, cj, cP, ck, cQ, h⟩ := zix h
     obtain ⟨cR, a8⟩ := aE.row_some 1 rfl rfl (zev (pre := []) bR ck (Nat.lt_of_sub_eq_succ rfl))
     refine zag (zbl (r := rI) (b := cR) (o := 0) (n := cj) (m := au.length) (xs := au) (q := (0 + cj * rI.sz)) zan ti3 (zen a8) rfl rfl cP cQ rfl ?_)
     obtain ⟨cS, q22, cT, cU⟩ := zeo (pre := []) (sp := ap) bR ck
     obtain rfl := cT
     refine zag (zby (v := (zI bS)) zay rfl rfl (zer a8 (aE.at 1 rfl rfl)) cU (zag (zae (v := (zI an)) rfl (zag (zdb ((bS : Int) = an) rfl rfl zbg (zar (zbi ((bS : Int) = an) rfl (fun aY => ?_) (fun aY => ?_))))))))
     ·
      replace h := ite_t aY h
      refine zah rfl (zag (zae (v := (zO ar ac am)) rfl (zag (zae (v := (zI ao)) rfl ?_))))
      have a9 : Els rI (vH w None [ad, ab, ar] cO) [(zI ao)] [ao] := (zcq (a := [(zI ao)]) rfl zcn)
      refine zag (zco (r := rI) (vs := [(zI ao)]) (css := [[(zI ao)]]) (xs := [ao]) zan ti3 (zaj rfl) rfl rfl ⟨rfl, rfl, trivial⟩ (zaj rfl) a9 rfl aE ?_)
      intro cV cW cX ba bT
      have K17 := ks w bT
      obtain ⟨bo, cY, h⟩ := zee h
      obtain ⟨cZ, c0, c1⟩ := zep cY
      have cp := (a9.mono (K17 None))
      have c2 := (aV.mono (K17 None))
      refine zag (zcz (r := rI) (H := (vH w None [some cV, ad, ab, ar] cW)) (cs := ax) (sp := aD) (xs := ac) (ys := [ao]) (Y := bo) (n := ac.length) (cap := am) (i := 3) zan ti3 rfl rfl rfl rfl ba rfl rfl c2 rfl aW (zdu (pre := []) (o := 0) (n := 1) (cap := 1) (ba.at 0 rfl rfl) cp rfl rfl rfl) (zcj (fun _ _ _ _ h => h) cp) cZ c0 c1 ?_)
      intro aZ aI bb bc c3 bU bV bW bX
      have K18 := ks w bX
      refine zag (zai (v := (zO aZ bo aI)) rfl (zar (zbe (zah rfl (zag (zae (v := (zI ao)) rfl (zag (zca (z := (iw (ao + 1))) rfl rfl rfl (zag (zai (v := (zI (iw (ao + 1)))) rfl (zar ?_)))))))))))
      have bd := bW.pick [1, 2, 3] rfl rfl rfl
      have bY : vL w c3 [ad, ab, aZ] [zab ([] ++ (ag ++ aj)), zab ([] ++ (aw ++ ap)), zab ([] ++ (bc ++ bb))] := bd.1
      have K19 := ks w bd.2
      have c4 := ((bU.mono (K18 None)).mono (K19 None))
      obtain rfl := zad h
      refine zap ⟨(bo, (iw (ao + 1))), rfl, ?_⟩
      exact ⟨aZ, aI, bb, bc, bo.length, _, (zef ⟨rfl, rfl, rfl, rfl, rfl, trivial⟩), bY, (zak (zak (zak K16 K17) K18) K19), c4, rfl, bV, trivial⟩
     replace h := ite_f aY h
     refine zbm (zbe (zah rfl (zag (zae (v := (zI ao)) rfl ?_))))
     refine zag (zca (z := (iw (ao + 1))) rfl rfl rfl (zag (zai (v := (zI (iw (ao + 1)))) rfl (zar ?_))))
     obtain rfl := zad h
     refine zap ⟨(ac, (iw (ao + 1))), rfl, ?_⟩
     exact ⟨ar, am, aD, ax, ac.length, _, (zef ⟨rfl, rfl, rfl, rfl, rfl, trivial⟩), aE, K16, aV, rfl, aW, trivial⟩
    replace h := ite_f aX h
    refine zcd rfl ?_
    obtain rfl := zad h
    obtain rfl := bQ _ rfl
    replace h := ci
    try dsimp only at h
    refine zap ?_
    exact ⟨ac, ar, am, aD, ax, ac.length, _, rfl, (zef ⟨rfl, rfl, rfl, rfl, trivial⟩), aE, K16, aV, rfl, aW, trivial⟩
   rintro _ cq ⟨aa, aq, ai, aS, aH, aT, u, rfl, rfl, be, K20, bZ, rfl, b0, -⟩
   replace h := ci
   try dsimp only at h
   refine zah rfl (zag (zae (v := (zO ad ae af)) rfl (zag (zae (v := (zO aq aa ai)) rfl ?_))))
   have cr := be.freezeRow 2 rfl rfl bZ rfl rfl rfl b0
   have bf := be.pick [0, 1] rfl rfl rfl
   have b2 : vL w cq [ad, ab] [zab ([] ++ (ag ++ aj)), zab ([] ++ (aw ++ ap))] := bf.1
   have K21 := ks w bf.2
   have bg : Els (rSl rI) (vH w None [ad, ab] cq) [(zO aq aa ai)] [aa] := (zcq (a := [(zO aq aa ai)]) ⟨_, rfl, cr⟩ zcn)
   refine zag (zco (r := (rSl rI)) (vs := [(zO aq aa ai)]) (css := [[(zO aq aa ai)]]) (xs := [aa]) zda ti22 (zaj rfl) rfl rfl ⟨(zes cr.one), rfl, trivial⟩ (zaj rfl) bg rfl b2 ?_)
   intro c5 c6 c7 bh b3
   have K22 := ks w b3
   obtain ⟨bp, c8, h⟩ := zee h
   obtain ⟨c9, da, db⟩ := zep c8
   have ct := (bg.mono (K22 None))
   have dc := ((((aO.mono (K14 None)).mono (K20 None)).mono (K21 None)).mono (K22 None))
   refine zag (zcz (r := (rSl rI)) (H := (vH w None [some c5, ad, ab] c6)) (cs := ag) (sp := aj) (xs := ae) (ys := [aa]) (Y := bp) (n := ae.length) (cap := af) (i := 1) zda ti22 rfl rfl rfl rfl bh rfl rfl dc rfl aP (zdu (pre := []) (o := 0) (n := 1) (cap := 1) (bh.at 0 rfl rfl) ct rfl rfl rfl) ct c9 da db ?_)
   intro a0 aJ bi bj dd b4 b5 b7 b8
   have K23 := ks w b8
   refine zag (zai (v := (zO a0 bp aJ)) rfl (zar (zbe (zah rfl (zag (zae (v := (zI an)) rfl (zag (zca (z := (iw (an + 1))) rfl rfl rfl (zag (zai (v := (zI (iw (an + 1)))) rfl (zar ?_)))))))))))
   have bk := b7.pick [1, 2] rfl rfl rfl
   have b9 : vL w dd [a0, ab] [zab ([] ++ (bj ++ bi)), zab ([] ++ (aw ++ ap))] := bk.1
   have K24 := ks w bk.2
   have dh := ((b4.mono (K23 None)).mono (K24 None))
   obtain rfl := zad h
   refine zap ⟨(bp, (iw (an + 1))), rfl, ?_⟩
   exact ⟨a0, aJ, bi, bj, bp.length, _, (zef ⟨rfl, rfl, rfl, trivial⟩), b9, (zak (zak (zak (zak (zak (zak K13 K14) K20) K21) K22) K23) K24), dh, rfl, b5, trivial⟩
  replace h := ite_f aQ h
  refine zcd rfl ?_
  have bl := aC.pick [0] rfl rfl rfl
  have ca : vL w ce [ad] [zab ([] ++ (ag ++ aj))] := bl.1
  have K25 := ks w bl.2
  have di := (aO.mono (K25 None))
  obtain rfl := zad h
  obtain rfl := bI _ rfl
  replace h := cd
  try dsimp only at h
  refine zap ?_
  exact ⟨ae, ad, af, aj, ag, ae.length, _, rfl, (zef zrt), ca, (zak K13 K25), di, rfl, aP, trivial⟩
 rintro _ w20 ⟨ak, av, al, aG, aF, aM, u, rfl, rfl, bm, K26, cb, rfl, cc, -⟩
 replace h := cd
 try dsimp only at h
 refine zam (zah rfl (zag (zae (v := (zO av ak al)) rfl (zag (zai (v := (zO av ak al)) rfl (zar (zbv ?_)))))))
 obtain rfl := zad h
 refine ⟨[(zO av ak al)], zrt, ⟨_, rfl, bm.done, ?_⟩⟩
 exact ⟨av, al, aF, aG, rfl, (bm.newOwn [0] rfl rfl rfl), (cb.mono (zdy [0] rfl)), cc, trivial⟩
end Go.Proofs.Ytaakoedphmeenaa.WR

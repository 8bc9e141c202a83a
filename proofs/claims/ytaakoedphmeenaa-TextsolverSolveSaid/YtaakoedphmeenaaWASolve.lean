/- Walks, written by a program of mine (wip/tool); the kernel checks them. -/
import Derived.Test.YtaakoedphmeenaaProg
import Derived.Test.YtaakoedphmeenaaSqSolve
import Derived.Test.YtaakoedphmeenaaPA
set_option maxRecDepth 100000
set_option maxHeartbeats 40000000
set_option linter.unusedVariables false
set_option linter.unusedSimpArgs false
namespace Go.Proofs.Ytaakoedphmeenaa.WA
open Go Go.RowKit Go.X Go.D 
theorem mixed : Try.prog.follows .mixedOrders = true := by kernel_rfl
theorem ti3 : TI Try.prog 3 1 8 (zI 0) := TI.mk (by kernel_rfl)
theorem ti9 : TI Try.prog 9 1 16 (zaf ⟨#[]⟩) := TI.mk (by kernel_rfl)
theorem en69 : Go.X.Enters Try.prog 69 := ⟨Try.f69, Try.func69, by kernel_rfl, by kernel_rfl⟩
theorem ti4 : TI Try.prog 4 1 1 zF := TI.mk (by kernel_rfl)
theorem ti44 : TI Try.prog 44 4 40 (zbr #[(zI 0), (zI 0), zF, (zaf ⟨#[]⟩)]) := TI.mk (by kernel_rfl)
theorem en53 : Go.X.Enters Try.prog 53 := ⟨Try.f53, Try.func53, by kernel_rfl, by kernel_rfl⟩
theorem ti5 : TI Try.prog 5 1 1 (zaa .u8 0) := TI.mk (by kernel_rfl)
theorem en54 : Go.X.Enters Try.prog 54 := ⟨Try.f54, Try.func54, by kernel_rfl, by kernel_rfl⟩
theorem en55 : Go.X.Enters Try.prog 55 := ⟨Try.f55, Try.func55, by kernel_rfl, by kernel_rfl⟩
theorem ti79 : TI Try.prog 79 1 4 (zaa .u32 0) := TI.mk (by kernel_rfl)
theorem ti23 : TI Try.prog 23 1 24 zN := TI.mk (by kernel_rfl)
theorem ti27 : TI Try.prog 27 1 24 zN := TI.mk (by kernel_rfl)
theorem en74 : Go.X.Enters Try.prog 74 := ⟨Try.f74, Try.func74, by kernel_rfl, by kernel_rfl⟩
theorem ti91 : TI Try.prog 91 1 8 (Value.map none) := TI.mk (by kernel_rfl)
theorem en64 : Go.X.Enters Try.prog 64 := ⟨Try.f64, Try.func64, by kernel_rfl, by kernel_rfl⟩
theorem pl93 : placesT Try.prog 93 = some [(0, 1), (1, 1), (2, 1), (3, 1)] := by kernel_rfl
theorem ti93 : TI Try.prog 93 4 64 (zbr #[zN, (zI 0), zN, (Value.map none)]) := TI.mk (by kernel_rfl)
theorem en65 : Go.X.Enters Try.prog 65 := ⟨Try.f65, Try.func65, by kernel_rfl, by kernel_rfl⟩
theorem mky_9 : MKey Try.prog 9 (fun x : List UInt8 => zS x) := MKey.str zax
theorem pClosure_w (N : Nat) (pattern : (List UInt8)) (vset : Int)  (w : World) (S : Nat → Prop)  (r : Int) (h : pClosure N pattern vset = some r) :
  Calls Try.prog 69 #[(zS pattern), (zaa .u32 vset)] w (Ret w (fun v w' => (zaa .u32 r) = v ∧ True)) := by
 unfold pClosure at h
 have hL : vL w w [] [] := Go.X.Loc.begin0 w
 refine calls_of (l := [(zS pattern), (zaa .u32 vset)]) (rl := [.tmp 4]) (n := 29) Try.func69 rfl rfl rfl (zaj rfl) ?_
 refine zam (zah rfl (zag (zai (v := (zaa .u32 0)) rfl (zar (zam (zam (zah rfl (zag (zae (v := (zS pattern)) rfl (zag (zdc zax rfl (zag (zae (v := (zI 0)) rfl (zar ?_))))))))))))))
 obtain ⟨ao, ak, an⟩ := zee h
 refine zbt (fun e w' => ∃ (ad : Int) (u : Env), ad = ao ∧ e = upds [(1, (zaa .u32 ad))] u ∧ vL w w' [] [] ∧ Keep w.heap.size [] w [] w' ∧ True) ?_ ?_
 ·
  refine zbc ?_
  refine zbx ak (fun (ss : (Int × Int)) (e : Env) (w' : World) => match ss with | (aa, ac) => ∃ (u : Env), e = upds [(0, (zS pattern)), (1, (zaa .u32 aa)), (7, (zI (pattern.length : Int))), (8, (zI ac))] u ∧ vL w w' [] [] ∧ Keep w.heap.size [] w [] w' ∧ True) ⟨_, (zef ⟨rfl, rfl, rfl, rfl, trivial⟩), hL, zbp, trivial⟩ ?_
  rintro ⟨aa, ac⟩ oo _ ap ⟨u, rfl, ae, K10, -⟩ h al
  rw [pClosure_b1] at h
  refine zam (zah rfl (zag (zcf ((ac : Int) < (pattern.length : Int)) rfl rfl zbg (zar (zam (zbi ((ac : Int) < (pattern.length : Int)) rfl (fun af => ?_) (fun af => ?_)))))))
  ·
   replace h := ite_t af h
   refine zbm (zam (zbc (zam (zah rfl (zag (zae (v := (zI ac)) rfl ?_))))))
   refine zag (zai (v := (zI ac)) rfl (zar (zam ?_)))
   obtain ⟨aq, h, ar⟩ := zee h
   refine zbt (fun e w' => ∃ (ai : Bool) (u : Env), ai = aq ∧ e = upds [(0, (zS pattern)), (1, (zaa .u32 aa)), (5, (zI ac)), (7, (zI (pattern.length : Int))), (8, (zI ac)), (21, (zac ai))] u ∧ vL w w' [] [] ∧ Keep w.heap.size [] ap [] w' ∧ True) ?_ ?_
   ·
    refine zah rfl (zag (zae (v := (zS pattern)) rfl (zag (zae (v := (zI ac)) rfl ?_))))
    obtain ⟨aj, au, av, aw, -, h⟩ := zix h
    refine zag (zdf (xs := pattern) (i := ac) (n := au) (a := aj) zax rfl rfl av aw (zag (zdb (((UInt8.toNat aj : Int) : Int) = 37) rfl rfl zbg (zag (zae (v := (zac (decide (((UInt8.toNat aj : Int) : Int) = 37)))) rfl ?_)))))
    by_cases ab : ((UInt8.toNat aj : Int) : Int) = 37
    ·
     replace h := ite_t ab h
     refine zbb rfl rfl (zed ab) (zae (v := (zaa .u32 aa)) rfl (zbb rfl rfl (zed ab) (zae (v := (zI ac)) rfl ?_)))
     obtain ⟨u10, ax, h⟩ := zee h
     have ay := chk_some ax
     refine zbb rfl rfl (zed ab) (OpY.ishr (x := aa) (y := ac) rfl rfl ay (zbb rfl rfl (zed ab) (OpY.iand (x := (bshr .u32 aa ac)) (y := 1) rfl rfl (zbb rfl rfl (zed ab) (zdb (((band .u32 (bshr .u32 aa ac) 1) : Int) = 1) rfl rfl zbg (zag (zbo (v := (zac (decide (((band .u32 (bshr .u32 aa ac) 1) : Int) = 1)))) rfl (zed ab) rfl (zar ?_))))))))
     obtain rfl := zad h
     refine zap ?_
     exact ⟨(decide (((band .u32 (bshr .u32 aa ac) 1) : Int) = 1)), _, rfl, (zef ⟨rfl, rfl, rfl, rfl, rfl, rfl, trivial⟩), ae, zbp, trivial⟩
    replace h := ite_f ab h
    refine zbj rfl rfl (zec ab) (zbj rfl rfl (zec ab) (zbj rfl rfl (zec ab) (zbj rfl rfl (zec ab) (zbj rfl rfl (zec ab) (zag (zbk (v := zF) rfl (zec ab) rfl (zar ?_)))))))
    obtain rfl := zad h
    refine zap ?_
    exact ⟨false, _, rfl, (zef ⟨rfl, rfl, rfl, rfl, rfl, rfl, trivial⟩), ae, zbp, trivial⟩
   rintro _ w11 ⟨ai, u, rfl, rfl, ah, K11, -⟩
   replace h := ar
   try dsimp only at h
   refine zci ai rfl (fun ag => ?_) (fun ag => ?_)
   ·
    replace h := ite_t ag h
    refine zah rfl (zag (zae (v := (zaa .u32 aa)) rfl (zag (zae (v := (zI ac)) rfl (zag (zca (z := (iw (ac + 1))) rfl rfl rfl ?_))))))
    obtain ⟨u11, az, h⟩ := zee h
    have aA := chk_some az
    refine zag (OpY.ishl (x := 1) (y := (iw (ac + 1))) rfl rfl aA (zag (OpY.ior (x := aa) (y := (bshl .u32 1 (iw (ac + 1)))) rfl rfl (zag (zai (v := (zaa .u32 (bor .u32 aa (bshl .u32 1 (iw (ac + 1)))))) rfl (zar (zbe (zah rfl (zag (zca (z := (iw (ac + 1))) rfl rfl rfl (zag (zae (v := (zI (iw (ac + 1)))) rfl (zar ?_)))))))))))))
    obtain rfl := zad h
    refine zap ⟨((bor .u32 aa (bshl .u32 1 (iw (ac + 1)))), (iw (ac + 1))), rfl, ?_⟩
    exact ⟨_, (zef ⟨rfl, rfl, rfl, rfl, trivial⟩), ah, (zak K10 K11), trivial⟩
   replace h := ite_f ag h
   refine zbm (zbe (zah rfl (zag (zca (z := (iw (ac + 1))) rfl rfl rfl ?_))))
   refine zag (zae (v := (zI (iw (ac + 1)))) rfl (zar ?_))
   obtain rfl := zad h
   refine zap ⟨(aa, (iw (ac + 1))), rfl, ?_⟩
   exact ⟨_, (zef ⟨rfl, rfl, rfl, rfl, trivial⟩), ah, (zak K10 K11), trivial⟩
  replace h := ite_f af h
  refine zcd rfl ?_
  obtain rfl := zad h
  obtain rfl := al _ rfl
  replace h := an
  try dsimp only at h
  refine zap ?_
  exact ⟨aa, _, rfl, (zef zrt), ae, K10, trivial⟩
 rintro _ w12 ⟨ad, u, rfl, rfl, am, K12, -⟩
 replace h := an
 try dsimp only at h
 refine zam (zah rfl (zag (zae (v := (zaa .u32 ad)) rfl (zag (zai (v := (zaa .u32 ad)) rfl (zar (zbv ?_)))))))
 obtain rfl := zad h
 refine ⟨[(zaa .u32 ad)], zrt, ⟨_, rfl, am.done, ?_⟩⟩
 exact zrt
theorem pBegin_w (N : Nat) (t : TTest)  (w : World) (S : Nat → Prop)  (r : Int) (h : pBegin N t = some r) :
  Calls Try.prog 53 #[(zbr #[(zI t.Var), (zI t.Kind), (zac t.Negated), (zS t.Text)])] w (Ret w (fun v w' => (zaa .u32 r) = v ∧ True)) := by
 unfold pBegin at h
 have hL : vL w w [] [] := Go.X.Loc.begin0 w
 refine calls_of (l := [(zbr #[(zI t.Var), (zI t.Kind), (zac t.Negated), (zS t.Text)])]) (rl := [.tmp 2]) (n := 9) Try.func53 rfl rfl rfl (zaj rfl) ?_
 refine zam (zah rfl (zag (zdo (cs := [(zI t.Var), (zI t.Kind), (zac t.Negated), (zS t.Text)]) rfl rfl hL ?_)))
 intro b1 w2 aa hS5
 refine zag (zai (v := (zaa .u32 0)) rfl (zar (zam (zam (zah rfl (zag (zat (q := 1) zbd rfl ti3 rfl rfl rfl (zag (zav (v := (zI t.Kind)) zay rfl rfl (aa.at 0 rfl rfl) rfl (zag (zdb ((t.Kind : Int) = 1) rfl rfl zbg (zar (zbi ((t.Kind : Int) = 1) rfl (fun ab => ?_) (fun ab => ?_))))))))))))))
 ·
  replace h := ite_t ab h
  refine zam (zah rfl (zag (zat (q := 3) zbd rfl ti9 rfl rfl rfl (zag (zav (v := (zS t.Text)) zax rfl rfl (aa.at 0 rfl rfl) rfl ?_)))))
  obtain ⟨r7, q8, h⟩ := zee h
  refine zag (zce en69 rfl rfl (pClosure_w N t.Text 1 _ Any r7 q8) ?_)
  rintro _ w10 ac ⟨rfl, -⟩
  have ad := aa.ext ac
  refine zag (zai (v := (zaa .u32 r7)) rfl (zar (zbv ?_)))
  obtain rfl := zad h
  refine ⟨[(zaa .u32 r7)], zrt, ⟨_, rfl, ad.done, ?_⟩⟩
  exact zrt
 replace h := ite_f ab h
 refine zbm (zam (zah rfl (zag (zai (v := (zaa .u32 0)) rfl ?_))))
 refine zar (zbv ?_)
 obtain rfl := zad h
 refine ⟨[(zaa .u32 0)], zrt, ⟨_, rfl, aa.done, ?_⟩⟩
 exact zrt
theorem pNext_w (N : Nat) (t : TTest) (s : Int) (c : Int)  (w : World) (S : Nat → Prop)  (r : Int) (h : pNext N t s c = some r) :
  Calls Try.prog 54 #[(zbr #[(zI t.Var), (zI t.Kind), (zac t.Negated), (zS t.Text)]), (zaa .u32 s), (zaa .u8 c)] w (Ret w (fun v w' => (zaa .u32 r) = v ∧ True)) := by
 unfold pNext at h
 have hL : vL w w [] [] := Go.X.Loc.begin0 w
 refine calls_of (l := [(zbr #[(zI t.Var), (zI t.Kind), (zac t.Negated), (zS t.Text)]), (zaa .u32 s), (zaa .u8 c)]) (rl := [.tmp 6]) (n := 81) Try.func54 rfl rfl rfl (zaj rfl) ?_
 refine zam (zah rfl (zag (zdo (cs := [(zI t.Var), (zI t.Kind), (zac t.Negated), (zS t.Text)]) rfl rfl hL ?_)))
 intro b1 w2 ai hS5
 refine zag (zai (v := (zaa .u32 0)) rfl (zar (zam (zam (zah rfl (zag (zat (q := 1) zbd rfl ti3 rfl rfl rfl (zag (zav (v := (zI t.Kind)) zay rfl rfl (ai.at 0 rfl rfl) rfl (zag (zdb ((t.Kind : Int) = 1) rfl rfl zbg (zar (zbi ((t.Kind : Int) = 1) rfl (fun ay => ?_) (fun ay => ?_))))))))))))))
 ·
  replace h := ite_t ay h
  refine zam (zah rfl (zag (zai (v := (zaa .u32 0)) rfl (zar (zam (zam (zah rfl (zag (zat (q := 3) zbd rfl ti9 rfl rfl rfl (zag (zav (v := (zS t.Text)) zax rfl rfl (ai.at 0 rfl rfl) rfl (zag (zdc zax rfl (zag (zae (v := (zI 0)) rfl (zar ?_))))))))))))))))
  obtain ⟨aF, az, aE⟩ := zee h
  refine zbt (fun e w' => ∃ (ae : Int) (u : Env), ae = aF ∧ e = upds [(3, (zal (some ⟨b1, 0, none⟩))), (7, (zaa .u32 ae))] u ∧ vL w w' [some b1] [zab [(zI t.Var), (zI t.Kind), (zac t.Negated), (zS t.Text)]] ∧ Keep w.heap.size [some b1] w2 [some b1] w' ∧ True) ?_ ?_
  ·
   refine zbc ?_
   refine zbx az (fun (ss : (Int × Int)) (e : Env) (w' : World) => match ss with | (aa, ab) => ∃ (u : Env), e = upds [(1, (zaa .u32 s)), (2, (zaa .u8 c)), (3, (zal (some ⟨b1, 0, none⟩))), (7, (zaa .u32 aa)), (15, (zI (t.Text.length : Int))), (16, (zI ab))] u ∧ vL w w' [some b1] [zab [(zI t.Var), (zI t.Kind), (zac t.Negated), (zS t.Text)]] ∧ Keep w.heap.size [some b1] w2 [some b1] w' ∧ True) ⟨_, (zef ⟨rfl, rfl, rfl, rfl, rfl, rfl, trivial⟩), ai, zbp, trivial⟩ ?_
   rintro ⟨aa, ab⟩ oo _ aG ⟨u, rfl, ag, K10, -⟩ h aA
   rw [pNext_b1] at h
   refine zam (zah rfl (zag (zcf ((ab : Int) < (t.Text.length : Int)) rfl rfl zbg (zar (zam (zbi ((ab : Int) < (t.Text.length : Int)) rfl (fun aj => ?_) (fun aj => ?_)))))))
   ·
    replace h := ite_t aj h
    refine zbm (zam (zbc (zam (zah rfl (zag (zae (v := (zI ab)) rfl ?_))))))
    refine zag (zai (v := (zI ab)) rfl (zar (zam (zam (zah rfl (zag (zae (v := (zaa .u32 s)) rfl (zag (zae (v := (zI ab)) rfl ?_)))))))))
    obtain ⟨u10, aH, h⟩ := zee h
    have aI := chk_some aH
    refine zag (OpY.ishr (x := s) (y := ab) rfl rfl aI (zag (OpY.iand (x := (bshr .u32 s ab)) (y := 1) rfl rfl (zag (zdb (((band .u32 (bshr .u32 s ab) 1) : Int) = 0) rfl rfl zbg (zar (zbi (((band .u32 (bshr .u32 s ab) 1) : Int) = 0) rfl (fun ak => ?_) (fun ak => ?_))))))))
    ·
     replace h := ite_t ak h
     refine zcd rfl (zah rfl (zag (zca (z := (iw (ab + 1))) rfl rfl rfl ?_)))
     refine zag (zae (v := (zI (iw (ab + 1)))) rfl (zar ?_))
     obtain rfl := zad h
     refine zap ⟨(aa, (iw (ab + 1))), rfl, ?_⟩
     exact ⟨_, (zef ⟨rfl, rfl, rfl, rfl, rfl, rfl, trivial⟩), ag, K10, trivial⟩
    replace h := ite_f ak h
    refine zbm (zam (zah rfl (zag (zat (q := 3) zbd rfl ti9 rfl rfl rfl ?_))))
    refine zag (zav (v := (zS t.Text)) zax rfl rfl (ag.at 0 rfl rfl) rfl (zag (zae (v := (zI ab)) rfl ?_)))
    obtain ⟨af, aJ, aK, aL, -, h⟩ := zix h
    refine zag (zdf (xs := t.Text) (i := ab) (n := aJ) (a := af) zax rfl rfl aK aL (zag (zai (v := (zaa .u8 (UInt8.toNat af : Int))) rfl (zar (zbc (zam (zah rfl (zag (zae (v := (zaa .u8 (UInt8.toNat af : Int))) rfl (zag (zdb (((UInt8.toNat af : Int) : Int) = 37) rfl rfl zbg (zag (zai (v := (zac (decide (((UInt8.toNat af : Int) : Int) = 37)))) rfl (zar (zbi (((UInt8.toNat af : Int) : Int) = 37) rfl (fun al => ?_) (fun al => ?_))))))))))))))))
    ·
     replace h := ite_t al h
     refine zah rfl (zag (zae (v := (zaa .u32 aa)) rfl (zag (zae (v := (zI ab)) rfl ?_))))
     obtain ⟨u11, aM, h⟩ := zee h
     have aN := chk_some aM
     refine zag (OpY.ishl (x := 1) (y := ab) rfl rfl aN (zag (OpY.ior (x := aa) (y := (bshl .u32 1 ab)) rfl rfl (zag (zai (v := (zaa .u32 (bor .u32 aa (bshl .u32 1 ab)))) rfl (zar (zbe (zbe (zah rfl (zag (zca (z := (iw (ab + 1))) rfl rfl rfl (zag (zae (v := (zI (iw (ab + 1)))) rfl (zar ?_))))))))))))))
     obtain rfl := zad h
     refine zap ⟨((bor .u32 aa (bshl .u32 1 ab)), (iw (ab + 1))), rfl, ?_⟩
     exact ⟨_, (zef ⟨rfl, rfl, rfl, rfl, rfl, rfl, trivial⟩), ag, K10, trivial⟩
    replace h := ite_f al h
    refine zam ?_
    obtain ⟨aO, h, aP⟩ := zee h
    refine zbt (fun e w' => ∃ (av : Bool) (u : Env), av = aO ∧ e = upds [(1, (zaa .u32 s)), (2, (zaa .u8 c)), (3, (zal (some ⟨b1, 0, none⟩))), (7, (zaa .u32 aa)), (8, (zI ab)), (15, (zI (t.Text.length : Int))), (16, (zI ab)), (35, (zac av))] u ∧ vL w w' [some b1] [zab [(zI t.Var), (zI t.Kind), (zac t.Negated), (zS t.Text)]] ∧ Keep w.heap.size [some b1] aG [some b1] w' ∧ True) ?_ ?_
    ·
     refine zah rfl (zag (zae (v := (zaa .u8 (UInt8.toNat af : Int))) rfl (zag (zdb (((UInt8.toNat af : Int) : Int) = 95) rfl rfl zbg (zag (zae (v := (zac (decide (((UInt8.toNat af : Int) : Int) = 95)))) rfl ?_))))))
     by_cases ad : ((UInt8.toNat af : Int) : Int) = 95
     ·
      replace h := ite_t ad h
      refine zbj rfl rfl (zed ad) (zbj rfl rfl (zed ad) (zbj rfl rfl (zed ad) (zag (zbo (v := zT) rfl (zed ad) rfl (zag (zai (v := zT) rfl (zar ?_)))))))
      obtain rfl := zad h
      refine zap ?_
      exact ⟨true, _, rfl, (zef ⟨rfl, rfl, rfl, rfl, rfl, rfl, rfl, rfl, trivial⟩), ag, zbp, trivial⟩
     replace h := ite_f ad h
     refine zbb rfl rfl (zec ad) (zae (v := (zaa .u8 (UInt8.toNat af : Int))) rfl (zbb rfl rfl (zec ad) (zae (v := (zaa .u8 c)) rfl (zbb rfl rfl (zec ad) (zdb (((UInt8.toNat af : Int) : Int) = c) rfl rfl zbg (zag (zbk (v := (zac (decide (((UInt8.toNat af : Int) : Int) = c)))) rfl (zec ad) rfl (zag (zai (v := (zac (decide (((UInt8.toNat af : Int) : Int) = c)))) rfl (zar ?_))))))))))
     obtain rfl := zad h
     refine zap ?_
     exact ⟨(decide (((UInt8.toNat af : Int) : Int) = c)), _, rfl, (zef ⟨rfl, rfl, rfl, rfl, rfl, rfl, rfl, rfl, trivial⟩), ag, zbp, trivial⟩
    rintro _ w11 ⟨av, u, rfl, rfl, aq, K11, -⟩
    replace h := aP
    try dsimp only at h
    refine zci av rfl (fun am => ?_) (fun am => ?_)
    ·
     replace h := ite_t am h
     refine zah rfl (zag (zae (v := (zaa .u32 aa)) rfl (zag (zae (v := (zI ab)) rfl (zag (zca (z := (iw (ab + 1))) rfl rfl rfl ?_))))))
     obtain ⟨u12, aQ, h⟩ := zee h
     have aR := chk_some aQ
     refine zag (OpY.ishl (x := 1) (y := (iw (ab + 1))) rfl rfl aR (zag (OpY.ior (x := aa) (y := (bshl .u32 1 (iw (ab + 1)))) rfl rfl (zag (zai (v := (zaa .u32 (bor .u32 aa (bshl .u32 1 (iw (ab + 1)))))) rfl (zar (zbe (zbe (zah rfl (zag (zca (z := (iw (ab + 1))) rfl rfl rfl (zag (zae (v := (zI (iw (ab + 1)))) rfl (zar ?_))))))))))))))
     obtain rfl := zad h
     refine zap ⟨((bor .u32 aa (bshl .u32 1 (iw (ab + 1)))), (iw (ab + 1))), rfl, ?_⟩
     exact ⟨_, (zef ⟨rfl, rfl, rfl, rfl, rfl, rfl, trivial⟩), aq, (zak K10 K11), trivial⟩
    replace h := ite_f am h
    refine zbm (zbe (zbe (zah rfl (zag (zca (z := (iw (ab + 1))) rfl rfl rfl ?_)))))
    refine zag (zae (v := (zI (iw (ab + 1)))) rfl (zar ?_))
    obtain rfl := zad h
    refine zap ⟨(aa, (iw (ab + 1))), rfl, ?_⟩
    exact ⟨_, (zef ⟨rfl, rfl, rfl, rfl, rfl, rfl, trivial⟩), aq, (zak K10 K11), trivial⟩
   replace h := ite_f aj h
   refine zcd rfl ?_
   obtain rfl := zad h
   obtain rfl := aA _ rfl
   replace h := aE
   try dsimp only at h
   refine zap ?_
   exact ⟨aa, _, rfl, (zef ⟨rfl, rfl, trivial⟩), ag, K10, trivial⟩
  rintro _ w12 ⟨ae, u, rfl, rfl, ar, K12, -⟩
  replace h := aE
  try dsimp only at h
  refine zam (zah rfl (zag (zat (q := 3) zbd rfl ti9 rfl rfl rfl (zag (zav (v := (zS t.Text)) zax rfl rfl (ar.at 0 rfl rfl) rfl (zag (zae (v := (zaa .u32 ae)) rfl ?_)))))))
  obtain ⟨aB, aS, h⟩ := zee h
  refine zag (zce en69 rfl rfl (pClosure_w N t.Text ae _ Any aB aS) ?_)
  rintro _ w13 aC ⟨rfl, -⟩
  have aD := ar.ext aC
  refine zag (zai (v := (zaa .u32 aB)) rfl (zar (zbv ?_)))
  obtain rfl := zad h
  refine ⟨[(zaa .u32 aB)], zrt, ⟨_, rfl, aD.done, ?_⟩⟩
  exact zrt
 replace h := ite_f ay h
 refine zbm (zam (zbc (zam (zah rfl (zag (zae (v := (zaa .u32 s)) rfl ?_))))))
 refine zag (OpY.geq ((s : Int) ≥ 100) rfl rfl zbg (zag (zai (v := (zac (decide ((s : Int) ≥ 100)))) rfl (zar (zbi ((s : Int) ≥ 100) rfl (fun an => ?_) (fun an => ?_))))))
 ·
  replace h := ite_t an h
  refine zam (zah rfl (zag (zae (v := (zaa .u32 s)) rfl (zag (zai (v := (zaa .u32 s)) rfl (zar (zbv ?_)))))))
  obtain rfl := zad h
  refine ⟨[(zaa .u32 s)], zrt, ⟨_, rfl, ai.done, ?_⟩⟩
  exact zrt
 replace h := ite_f an h
 refine zam ?_
 obtain ⟨aT, h, aU⟩ := zee h
 refine zbt (fun e w' => ∃ (aw : Bool) (u : Env), aw = aT ∧ e = upds [(1, (zaa .u32 s)), (2, (zaa .u8 c)), (3, (zal (some ⟨b1, 0, none⟩))), (57, (zac aw))] u ∧ vL w w' [some b1] [zab [(zI t.Var), (zI t.Kind), (zac t.Negated), (zS t.Text)]] ∧ Keep w.heap.size [some b1] w2 [some b1] w' ∧ True) ?_ ?_
 ·
  refine zah rfl (zag (zae (v := (zaa .u32 s)) rfl (zag (zds (x := s) (z := (iw s)) zdm zay rfl rfl (zag (zat (q := 3) zbd rfl ti9 rfl rfl rfl (zag (zav (v := (zS t.Text)) zax rfl rfl (ai.at 0 rfl rfl) rfl (zag (zdc zax rfl (zag (zdb (((iw s) : Int) = (t.Text.length : Int)) rfl rfl zbg (zag (zae (v := (zac (decide (((iw s) : Int) = (t.Text.length : Int))))) rfl ?_))))))))))))))
  by_cases ac : ((iw s) : Int) = (t.Text.length : Int)
  ·
   replace h := ite_t ac h
   refine zbj rfl rfl (zed ac) (zbj rfl rfl (zed ac) (zbj rfl rfl (zed ac) (zbj rfl rfl (zed ac) (zbj rfl rfl (zed ac) (zbj rfl rfl (zed ac) (zag (zbo (v := zT) rfl (zed ac) rfl (zag (zai (v := zT) rfl (zar ?_))))))))))
   obtain rfl := zad h
   refine zap ?_
   exact ⟨true, _, rfl, (zef ⟨rfl, rfl, rfl, rfl, trivial⟩), ai, zbp, trivial⟩
  replace h := ite_f ac h
  refine zbb rfl rfl (zec ac) (zae (v := (zaa .u8 c)) rfl (zbb rfl rfl (zec ac) (zat (q := 3) zbd rfl ti9 rfl rfl rfl (zbb rfl rfl (zec ac) (zav (v := (zS t.Text)) zax rfl rfl (ai.at 0 rfl rfl) rfl (zbb rfl rfl (zec ac) (zae (v := (zaa .u32 s)) rfl ?_)))))))
  obtain ⟨au, aV, aW, aX, -, h⟩ := zix h
  refine zbb rfl rfl (zec ac) (zdf (xs := t.Text) (i := s) (n := aV) (a := au) zax rfl rfl aW aX (zbb rfl rfl (zec ac) (OpY.gtr ((c : Int) > (UInt8.toNat au : Int)) rfl rfl zbg (zag (zbk (v := (zac (decide ((c : Int) > (UInt8.toNat au : Int))))) rfl (zec ac) rfl (zag (zai (v := (zac (decide ((c : Int) > (UInt8.toNat au : Int))))) rfl (zar ?_))))))))
  obtain rfl := zad h
  refine zap ?_
  exact ⟨(decide ((c : Int) > (UInt8.toNat au : Int))), _, rfl, (zef ⟨rfl, rfl, rfl, rfl, trivial⟩), ai, zbp, trivial⟩
 rintro _ w14 ⟨aw, u, rfl, rfl, ah, K13, -⟩
 replace h := aU
 try dsimp only at h
 refine zci aw rfl (fun ao => ?_) (fun ao => ?_)
 ·
  replace h := ite_t ao h
  refine zam (zah rfl (zag (zai (v := (zaa .u32 101)) rfl (zar (zbv ?_)))))
  obtain rfl := zad h
  refine ⟨[(zaa .u32 101)], zrt, ⟨_, rfl, ah.done, ?_⟩⟩
  exact zrt
 replace h := ite_f ao h
 refine zam (zah rfl (zag (zae (v := (zaa .u8 c)) rfl (zag (zat (q := 3) zbd rfl ti9 rfl rfl rfl (zag (zav (v := (zS t.Text)) zax rfl rfl (ah.at 0 rfl rfl) rfl (zag (zae (v := (zaa .u32 s)) rfl ?_)))))))))
 obtain ⟨ax, aY, aZ, a0, -, h⟩ := zix h
 refine zag (zdf (xs := t.Text) (i := s) (n := aY) (a := ax) zax rfl rfl aZ a0 (zag (zcf ((c : Int) < (UInt8.toNat ax : Int)) rfl rfl zbg (zag (zai (v := (zac (decide ((c : Int) < (UInt8.toNat ax : Int))))) rfl (zar (zbi ((c : Int) < (UInt8.toNat ax : Int)) rfl (fun ap => ?_) (fun ap => ?_))))))))
 ·
  replace h := ite_t ap h
  refine zam (zah rfl (zag (zai (v := (zaa .u32 100)) rfl (zar (zbv ?_)))))
  obtain rfl := zad h
  refine ⟨[(zaa .u32 100)], zrt, ⟨_, rfl, ah.done, ?_⟩⟩
  exact zrt
 replace h := ite_f ap h
 refine zbm (zbe (zam (zah rfl (zag (zae (v := (zaa .u32 s)) rfl ?_)))))
 refine zag (zca (z := (uw32 (s + 1))) rfl rfl rfl (zag (zai (v := (zaa .u32 (uw32 (s + 1)))) rfl (zar (zbv ?_)))))
 obtain rfl := zad h
 refine ⟨[(zaa .u32 (uw32 (s + 1)))], zrt, ⟨_, rfl, ah.done, ?_⟩⟩
 exact zrt
theorem pPassed_w (N : Nat) (t : TTest) (s : Int)  (w : World) (S : Nat → Prop)  (r : Bool) (h : pPassed N t s = some r) :
  Calls Try.prog 55 #[(zbr #[(zI t.Var), (zI t.Kind), (zac t.Negated), (zS t.Text)]), (zaa .u32 s)] w (Ret w (fun v w' => (zac r) = v ∧ True)) := by
 unfold pPassed at h
 have hL : vL w w [] [] := Go.X.Loc.begin0 w
 refine calls_of (l := [(zbr #[(zI t.Var), (zI t.Kind), (zac t.Negated), (zS t.Text)]), (zaa .u32 s)]) (rl := [.tmp 4]) (n := 51) Try.func55 rfl rfl rfl (zaj rfl) ?_
 refine zam (zah rfl (zag (zdo (cs := [(zI t.Var), (zI t.Kind), (zac t.Negated), (zS t.Text)]) rfl rfl hL ?_)))
 intro b1 w2 ad hS5
 refine zag (zai (v := zF) rfl (zar (zam (zah rfl (zag (zai (v := zF) rfl (zar (zam (zam (zah rfl (zag (zat (q := 1) zbd rfl ti3 rfl rfl rfl (zag (zav (v := (zI t.Kind)) zay rfl rfl (ad.at 0 rfl rfl) rfl (zar ?_)))))))))))))))
 obtain ⟨ai, h, aj⟩ := zee h
 refine zbt (fun e w' => ∃ (ac : Bool) (u : Env), ac = ai ∧ e = upds [(2, (zal (some ⟨b1, 0, none⟩))), (5, (zac ac))] u ∧ vL w w' [some b1] [zab [(zI t.Var), (zI t.Kind), (zac t.Negated), (zS t.Text)]] ∧ Keep w.heap.size [some b1] w2 [some b1] w' ∧ True) ?_ ?_
 ·
  refine zbc (zam (zah rfl (zag (zdb ((t.Kind : Int) = 1) rfl rfl zbg ?_))))
  refine zag (zai (v := (zac (decide ((t.Kind : Int) = 1)))) rfl (zar (zbi ((t.Kind : Int) = 1) rfl (fun ae => ?_) (fun ae => ?_))))
  ·
   replace h := ite_t ae h
   refine zah rfl (zag (zae (v := (zaa .u32 s)) rfl (zag (zat (q := 3) zbd rfl ti9 rfl rfl rfl (zag (zav (v := (zS t.Text)) zax rfl rfl (ad.at 0 rfl rfl) rfl (zag (zdc zax rfl ?_))))))))
   obtain ⟨u10, ak, h⟩ := zee h
   have al := chk_some ak
   refine zag (OpY.ishr (x := s) (y := (t.Text.length : Int)) rfl rfl al (zag (OpY.iand (x := (bshr .u32 s (t.Text.length : Int))) (y := 1) rfl rfl (zag (zdb (((band .u32 (bshr .u32 s (t.Text.length : Int)) 1) : Int) = 1) rfl rfl zbg (zag (zai (v := (zac (decide (((band .u32 (bshr .u32 s (t.Text.length : Int)) 1) : Int) = 1)))) rfl (zar (zbe ?_)))))))))
   obtain rfl := zad h
   refine zap ?_
   exact ⟨(decide (((band .u32 (bshr .u32 s (t.Text.length : Int)) 1) : Int) = 1)), _, rfl, (zef ⟨rfl, rfl, trivial⟩), ad, zbp, trivial⟩
  replace h := ite_f ae h
  refine zam (zah rfl (zag (zdb ((t.Kind : Int) = 0) rfl rfl zbg (zag (zai (v := (zac (decide ((t.Kind : Int) = 0)))) rfl (zar (zbi ((t.Kind : Int) = 0) rfl (fun af => ?_) (fun af => ?_))))))))
  ·
   replace h := ite_t af h
   refine zah rfl (zag (zae (v := (zaa .u32 s)) rfl (zag (zds (x := s) (z := (iw s)) zdm zay rfl rfl (zag (zat (q := 3) zbd rfl ti9 rfl rfl rfl (zag (zav (v := (zS t.Text)) zax rfl rfl (ad.at 0 rfl rfl) rfl (zag (zdc zax rfl (zag (zdb (((iw s) : Int) = (t.Text.length : Int)) rfl rfl zbg (zag (zai (v := (zac (decide (((iw s) : Int) = (t.Text.length : Int))))) rfl ?_))))))))))))))
   refine zar (zbe ?_)
   obtain rfl := zad h
   refine zap ?_
   exact ⟨(decide (((iw s) : Int) = (t.Text.length : Int))), _, rfl, (zef ⟨rfl, rfl, trivial⟩), ad, zbp, trivial⟩
  replace h := ite_f af h
  refine zam (zah rfl (zag (zdb ((t.Kind : Int) = 2) rfl rfl zbg (zag (zai (v := (zac (decide ((t.Kind : Int) = 2)))) rfl (zar (zbi ((t.Kind : Int) = 2) rfl (fun ag => ?_) (fun ag => ?_))))))))
  ·
   replace h := ite_t ag h
   refine zah rfl (zag (zae (v := (zaa .u32 s)) rfl (zag (zdb ((s : Int) = 100) rfl rfl zbg (zag (zae (v := (zac (decide ((s : Int) = 100)))) rfl ?_))))))
   by_cases aa : (s : Int) = 100
   ·
    replace h := ite_t aa h
    refine zbj rfl rfl (zed aa) (zbj rfl rfl (zed aa) (zbj rfl rfl (zed aa) (zbj rfl rfl (zed aa) (zbj rfl rfl (zed aa) (zbj rfl rfl (zed aa) (zag (zbo (v := zT) rfl (zed aa) rfl (zag (zai (v := zT) rfl (zar (zbe ?_)))))))))))
    obtain rfl := zad h
    refine zap ?_
    exact ⟨true, _, rfl, (zef ⟨rfl, rfl, trivial⟩), ad, zbp, trivial⟩
   replace h := ite_f aa h
   refine zbb rfl rfl (zec aa) (zae (v := (zaa .u32 s)) rfl (zbb rfl rfl (zec aa) (zds (x := s) (z := (iw s)) zdm zay rfl rfl (zbb rfl rfl (zec aa) (zat (q := 3) zbd rfl ti9 rfl rfl rfl (zbb rfl rfl (zec aa) (zav (v := (zS t.Text)) zax rfl rfl (ad.at 0 rfl rfl) rfl (zbb rfl rfl (zec aa) (zdc zax rfl (zbb rfl rfl (zec aa) (zcf (((iw s) : Int) < (t.Text.length : Int)) rfl rfl zbg (zag (zbk (v := (zac (decide (((iw s) : Int) < (t.Text.length : Int))))) rfl (zec aa) rfl ?_)))))))))))))
   refine zag (zai (v := (zac (decide (((iw s) : Int) < (t.Text.length : Int))))) rfl (zar (zbe ?_)))
   obtain rfl := zad h
   refine zap ?_
   exact ⟨(decide (((iw s) : Int) < (t.Text.length : Int))), _, rfl, (zef ⟨rfl, rfl, trivial⟩), ad, zbp, trivial⟩
  replace h := ite_f ag h
  refine zah rfl (zag (zae (v := (zaa .u32 s)) rfl (zag (zdb ((s : Int) = 100) rfl rfl zbg (zag (zae (v := (zac (decide ((s : Int) = 100)))) rfl ?_))))))
  by_cases ab : (s : Int) = 100
  ·
   replace h := ite_t ab h
   refine zbj rfl rfl (zed ab) (zbj rfl rfl (zed ab) (zbj rfl rfl (zed ab) (zbj rfl rfl (zed ab) (zbj rfl rfl (zed ab) (zbj rfl rfl (zed ab) (zag (zbo (v := zT) rfl (zed ab) rfl (zag (zai (v := zT) rfl (zar (zbe ?_)))))))))))
   obtain rfl := zad h
   refine zap ?_
   exact ⟨true, _, rfl, (zef ⟨rfl, rfl, trivial⟩), ad, zbp, trivial⟩
  replace h := ite_f ab h
  refine zbb rfl rfl (zec ab) (zae (v := (zaa .u32 s)) rfl (zbb rfl rfl (zec ab) (zds (x := s) (z := (iw s)) zdm zay rfl rfl (zbb rfl rfl (zec ab) (zat (q := 3) zbd rfl ti9 rfl rfl rfl (zbb rfl rfl (zec ab) (zav (v := (zS t.Text)) zax rfl rfl (ad.at 0 rfl rfl) rfl (zbb rfl rfl (zec ab) (zdc zax rfl (zbb rfl rfl (zec ab) (zeb (((iw s) : Int) ≤ (t.Text.length : Int)) rfl rfl zbg (zag (zbk (v := (zac (decide (((iw s) : Int) ≤ (t.Text.length : Int))))) rfl (zec ab) rfl ?_)))))))))))))
  refine zag (zai (v := (zac (decide (((iw s) : Int) ≤ (t.Text.length : Int))))) rfl (zar (zbe ?_)))
  obtain rfl := zad h
  refine zap ?_
  exact ⟨(decide (((iw s) : Int) ≤ (t.Text.length : Int))), _, rfl, (zef ⟨rfl, rfl, trivial⟩), ad, zbp, trivial⟩
 rintro _ w10 ⟨ac, u, rfl, rfl, ah, K10, -⟩
 replace h := aj
 try dsimp only at h
 refine zam (zah rfl (zag (zae (v := (zac ac)) rfl (zag (zat (q := 2) zbd rfl ti4 rfl rfl rfl (zag (zav (v := (zac t.Negated)) zdp rfl rfl (ah.at 0 rfl rfl) rfl (zag (OpY.neqBool (x := ac) (y := t.Negated) zdp rfl rfl (zag (zai (v := (zac (!(ac == t.Negated)))) rfl (zar (zbv ?_)))))))))))))
 obtain rfl := zad h
 refine ⟨[(zac (!(ac == t.Negated)))], zrt, ⟨_, rfl, ah.done, ?_⟩⟩
 exact zrt
theorem pPasses_w (N : Nat) (t : TTest) (text : (List UInt8))  (w : World) (S : Nat → Prop)  (r : Bool) (h : pPasses N t text = some r) :
  Calls Try.prog 28 #[(zbr #[(zI t.Var), (zI t.Kind), (zac t.Negated), (zS t.Text)]), (zS text)] w (Ret w (fun v w' => (zac r) = v ∧ True)) := by
 unfold pPasses at h
 have hL : vL w w [] [] := Go.X.Loc.begin0 w
 refine calls_of (l := [(zbr #[(zI t.Var), (zI t.Kind), (zac t.Negated), (zS t.Text)]), (zS text)]) (rl := [.tmp 4]) (n := 25) Try.func28 rfl rfl rfl (zaj rfl) ?_
 refine zam (zah rfl (zag (zdo (cs := [(zI t.Var), (zI t.Kind), (zac t.Negated), (zS t.Text)]) rfl rfl hL ?_)))
 intro b1 w2 aF hS5
 refine zag (zai (v := zF) rfl (zar (zam (zah rfl (zag (zcr (vs := [(zI t.Var), (zI t.Kind), (zac t.Negated), (zS t.Text)]) zbd rfl ti44 rfl (aF.at 0 rfl rfl) rfl rfl ?_))))))
 obtain ⟨r6, q7, h⟩ := zee h
 refine zag (zce en53 rfl rfl (pBegin_w N t _ Any r6 q7) ?_)
 rintro _ w9 ao ⟨rfl, -⟩
 have ap := aF.ext ao
 refine zag (zai (v := (zaa .u32 r6)) rfl (zar (zam (zam (zah rfl (zag (zae (v := (zS text)) rfl (zag (OpY.strBytes (H := (vH w None [some b1] w9)) (s := text) zax zcg zcw rfl ap ?_)))))))))
 intro ab af ac ag aq ar aJ ah au
 have K10 := ks w au
 have aG := (ar.mono (K10 None))
 refine zag (zcl (pre := []) (r := (rInt .u8)) (xs := (sby text)) zcg rfl (ah.at 0 rfl rfl) aG rfl rfl (zag (zae (v := (zI 0)) rfl (zar ?_))))
 obtain ⟨aK, av, aH⟩ := zee h
 refine zbt (fun e w' => ∃ (ai : Int) (u : Env), ai = aK ∧ e = upds [(2, (zal (some ⟨b1, 0, none⟩))), (5, (zaa .u32 ai))] u ∧ vL w w' [some b1] [zab [(zI t.Var), (zI t.Kind), (zac t.Negated), (zS t.Text)]] ∧ Keep w.heap.size [some ab, some b1] aq [some b1] w' ∧ True) ?_ ?_
 ·
  refine zbc ?_
  have aj := ah.pick [1, 0] rfl rfl rfl
  have aw : vL w aq [some b1, some ab] [zab [(zI t.Var), (zI t.Kind), (zac t.Negated), (zS t.Text)], zab ([] ++ (ag ++ ac))] := aj.1
  have K11 := ks w aj.2
  refine zbx av (fun (ss : (Int × Int)) (e : Env) (w' : World) => match ss with | (ak, ad) => ∃ (u : Env), e = upds [(2, (zal (some ⟨b1, 0, none⟩))), (5, (zaa .u32 ak)), (11, (osv (some ab) 0 (List.length (sby text)) af)), (12, (zI (List.length (sby text) : Int))), (13, (zI ad))] u ∧ vL w w' [some b1, some ab] [zab [(zI t.Var), (zI t.Kind), (zac t.Negated), (zS t.Text)], zab ([] ++ (ag ++ ac))] ∧ Keep w.heap.size [some ab, some b1] aq [some b1, some ab] w' ∧ True) ⟨_, (zef ⟨rfl, rfl, rfl, rfl, rfl, trivial⟩), aw, K11, trivial⟩ ?_
  rintro ⟨ak, ad⟩ oo _ aL ⟨u, rfl, aa, K12, -⟩ h ax
  rw [pPasses_b1] at h
  refine zam (zah rfl (zag (zcf ((ad : Int) < (List.length (sby text) : Int)) rfl rfl zbg (zar (zam (zbi ((ad : Int) < (List.length (sby text) : Int)) rfl (fun ae => ?_) (fun ae => ?_)))))))
  ·
   replace h := ite_t ae h
   refine zbm (zam (zbc (zam (zah rfl ?_))))
   obtain ⟨an, aI, aM, aN, aO, h⟩ := zix h
   refine zag (zbl (r := (rInt .u8)) (b := ab) (o := 0) (n := aI) (m := (List.length (sby text))) (xs := (sby text)) (q := (0 + aI * (rInt .u8).sz)) zcg ti5 rfl rfl rfl aM aO rfl ?_)
   have aP := (aG.mono (K12 None))
   obtain ⟨aQ, q14, aR, aS⟩ := zeo (pre := []) (sp := ac) aP aN
   obtain rfl := aR
   refine zag (zby (v := (zaa .u8 an)) zcw rfl rfl (aa.at 1 rfl rfl) aS (zag (zai (v := (zaa .u8 an)) rfl (zar (zah rfl (zag (zcr (vs := [(zI t.Var), (zI t.Kind), (zac t.Negated), (zS t.Text)]) zbd rfl ti44 rfl (aa.at 0 rfl rfl) rfl rfl (zag (zae (v := (zaa .u32 ak)) rfl (zag (zae (v := (zaa .u8 an)) rfl ?_)))))))))))
   obtain ⟨ay, aT, h⟩ := zee h
   refine zag (zce en54 rfl rfl (pNext_w N t ak an _ Any ay aT) ?_)
   rintro _ w12 az ⟨rfl, -⟩
   obtain ⟨aA, K13⟩ := zl aa az
   refine zag (zai (v := (zaa .u32 ay)) rfl (zar (zbe (zah rfl (zag (zca (z := (iw (ad + 1))) rfl rfl rfl (zag (zae (v := (zI (iw (ad + 1)))) rfl (zar ?_)))))))))
   obtain rfl := zad h
   refine zap ⟨(ay, (iw (ad + 1))), rfl, ?_⟩
   exact ⟨_, (zef ⟨rfl, rfl, rfl, rfl, rfl, trivial⟩), aA, (zak K12 K13), trivial⟩
  replace h := ite_f ae h
  refine zcd rfl ?_
  have al := aa.pick [0] rfl rfl rfl
  have aB : vL w aL [some b1] [zab [(zI t.Var), (zI t.Kind), (zac t.Negated), (zS t.Text)]] := al.1
  have K14 := ks w al.2
  obtain rfl := zad h
  obtain rfl := ax _ rfl
  replace h := aH
  try dsimp only at h
  refine zap ?_
  exact ⟨ak, _, rfl, (zef ⟨rfl, rfl, trivial⟩), aB, (zak K12 K14), trivial⟩
 rintro _ w13 ⟨ai, u, rfl, rfl, am, K15, -⟩
 replace h := aH
 try dsimp only at h
 refine zam (zah rfl (zag (zcr (vs := [(zI t.Var), (zI t.Kind), (zac t.Negated), (zS t.Text)]) zbd rfl ti44 rfl (am.at 0 rfl rfl) rfl rfl (zag (zae (v := (zaa .u32 ai)) rfl ?_)))))
 obtain ⟨aC, aU, h⟩ := zee h
 refine zag (zce en55 rfl rfl (pPassed_w N t ai _ Any aC aU) ?_)
 rintro _ w14 aD ⟨rfl, -⟩
 have aE := am.ext aD
 refine zag (zai (v := (zac aC)) rfl (zar (zbv ?_)))
 obtain rfl := zad h
 refine ⟨[(zac aC)], zrt, ⟨_, rfl, aE.done, ?_⟩⟩
 exact zrt
theorem pKey_w (N : Nat) (l : (List Int)) (left : Int) (am : Value) (w : World) (S : Nat → Prop) (aS : Rs (rInt .u32) (vH w S [] w) am l) (r : (List UInt8)) (h : pKey N l left = some r) :
  Calls Try.prog 74 #[am, (zI left)] w (Ret w (fun v w' => (zS r) = v ∧ True)) := by
 unfold pKey at h
 have hL : vL w w [] [] := Go.X.Loc.begin0 w
 refine calls_of (l := [am, (zI left)]) (rl := [.tmp 4]) (n := 31) Try.func74 rfl rfl rfl (zaj rfl) ?_
 refine zam (zah rfl (zag (zai (v := (zS ([] : List UInt8))) rfl (zar (zam (zah rfl (zag (zae (v := (zI left)) rfl (zag (zds (x := left) (z := (uw8 left)) zay zcw rfl rfl ?_))))))))))
 have aN : Els (rInt .u8) (vH w None [] w) [(zaa .u8 (uw8 left))] [(uw8 left)] := (zcq (a := [(zaa .u8 (uw8 left))]) rfl zcn)
 refine zag (zco (r := (rInt .u8)) (vs := [(zaa .u8 (uw8 left))]) (css := [[(zaa .u8 (uw8 left))]]) (xs := [(uw8 left)]) zcg ti5 (zaj rfl) rfl rfl ⟨rfl, rfl, trivial⟩ (zaj rfl) aN rfl hL ?_)
 intro b1 w5 aT aU aV
 have K7 := ks w aV
 refine zag (zai (v := (osv (some b1) 0 1 1)) rfl (zar (zam (zam (zah rfl (zag (zae (v := am) rfl ?_)))))))
 have f9 := (aS.mono (K7 S))
 refine zag (zcc (v := am) zdq rfl f9 (zag (zae (v := (zI 0)) rfl (zar ?_))))
 obtain ⟨aW, aE, aO⟩ := zee h
 refine zbt (fun e w' => ∃ (aj : (List Int)) (ae : Option Nat) (ad : Nat) (ai : List Value) (ag : List Value) (an : Nat) (u : Env), aj = aW ∧ e = upds [(5, (osv ae 0 an ad))] u ∧ vL w w' [ae] [zab ([] ++ (ag ++ ai))] ∧ Keep w.heap.size [some b1] w5 [ae] w' ∧ Els (rInt .u8) (vH w None [ae] w') ag aj ∧ an = List.length aj ∧ (ag ++ ai).length = ad * (rInt .u8).sz ∧ True) ?_ ?_
 ·
  refine zbc ?_
  have aX := (aN.mono (K7 None))
  refine zbx aE (fun (ss : ((List Int) × Int)) (e : Env) (w' : World) => match ss with | (ak, ao) => ∃ (ac : Option Nat) (ab : Nat) (ah : List Value) (af : List Value) (ap : Nat) (u : Env), e = upds [(5, (osv ac 0 ap ab)), (11, am), (12, (zI (l.length : Int))), (13, (zI ao))] u ∧ vL w w' [ac] [zab ([] ++ (af ++ ah))] ∧ Keep w.heap.size [some b1] w5 [ac] w' ∧ Els (rInt .u8) (vH w None [ac] w') af ak ∧ ap = List.length ak ∧ (af ++ ah).length = ab * (rInt .u8).sz ∧ True) ⟨some b1, 1, [], [(zaa .u8 (uw8 left))], 1, _, (zef ⟨rfl, rfl, rfl, rfl, trivial⟩), aU, zbp, aX, rfl, aT, trivial⟩ ?_
  rintro ⟨ak, ao⟩ oo _ aY ⟨ac, ab, ah, af, ap, u, rfl, au, K10, av, rfl, aw, -⟩ h aF
  rw [pKey_b1] at h
  refine zam (zah rfl (zag (zcf ((ao : Int) < (l.length : Int)) rfl rfl zbg (zar (zam (zbi ((ao : Int) < (l.length : Int)) rfl (fun aq => ?_) (fun aq => ?_)))))))
  ·
   replace h := ite_t aq h
   refine zbm (zam (zbc (zam (zah rfl ?_))))
   obtain ⟨aa, aP, aZ, aQ, -, h⟩ := zix h
   have a0 := (f9.mono (K10 S))
   obtain ⟨b12, a1, c10, a2, a3, q14, a4, a5⟩ := zcy a0 aQ
   obtain rfl := a5
   refine zag (zbs (r := (rInt .u32)) (v := am) (n := aP) (m := (a1 + aP * (rInt .u32).sz)) zdq ti79 rfl a3 rfl aZ aQ rfl (zag (zbu (v := (zaa .u32 aa)) zdm rfl rfl zek a4 (zag (zai (v := (zaa .u32 aa)) rfl (zar (zah rfl (zag (zae (v := (zO ac ak ab)) rfl (zag (zae (v := (zaa .u32 aa)) rfl (zag (zds (x := aa) (z := (uw8 aa)) zdm zcw rfl rfl (zag (zae (v := (zaa .u32 aa)) rfl ?_)))))))))))))))
   refine zag (OpY.ishr (x := aa) (y := 8) rfl rfl (by decide) (zag (zds (x := (bshr .u32 aa 8)) (z := (uw8 (bshr .u32 aa 8))) zdm zcw rfl rfl (zag (zae (v := (zaa .u32 aa)) rfl (zag (OpY.ishr (x := aa) (y := 16) rfl rfl (by decide) (zag (zds (x := (bshr .u32 aa 16)) (z := (uw8 (bshr .u32 aa 16))) zdm zcw rfl rfl ?_)))))))))
   have ax : Els (rInt .u8) (vH w None [ac] aY) [(zaa .u8 (uw8 aa)), (zaa .u8 (uw8 (bshr .u32 aa 8))), (zaa .u8 (uw8 (bshr .u32 aa 16)))] [(uw8 aa), (uw8 (bshr .u32 aa 8)), (uw8 (bshr .u32 aa 16))] := (zcq (a := [(zaa .u8 (uw8 aa))]) rfl (zcq (a := [(zaa .u8 (uw8 (bshr .u32 aa 8)))]) rfl (zcq (a := [(zaa .u8 (uw8 (bshr .u32 aa 16)))]) rfl zcn)))
   refine zag (zco (r := (rInt .u8)) (vs := [(zaa .u8 (uw8 aa)), (zaa .u8 (uw8 (bshr .u32 aa 8))), (zaa .u8 (uw8 (bshr .u32 aa 16)))]) (css := [[(zaa .u8 (uw8 aa))], [(zaa .u8 (uw8 (bshr .u32 aa 8)))], [(zaa .u8 (uw8 (bshr .u32 aa 16)))]]) (xs := [(uw8 aa), (uw8 (bshr .u32 aa 8)), (uw8 (bshr .u32 aa 16))]) zcg ti5 (zaj rfl) rfl rfl ⟨rfl, rfl, ⟨rfl, rfl, ⟨rfl, rfl, trivial⟩⟩⟩ (zaj rfl) ax rfl au ?_)
   intro a6 a7 a8 ay aG
   have K11 := ks w aG
   obtain ⟨aD, a9, h⟩ := zee h
   obtain ⟨ba, bb, bc⟩ := zep a9
   have aR := (ax.mono (K11 None))
   have bd := (av.mono (K11 None))
   refine zag (zcz (r := (rInt .u8)) (H := (vH w None [some a6, ac] a7)) (cs := af) (sp := ah) (xs := ak) (ys := [(uw8 aa), (uw8 (bshr .u32 aa 8)), (uw8 (bshr .u32 aa 16))]) (Y := aD) (n := ak.length) (cap := ab) (i := 1) zcg ti5 rfl rfl rfl rfl ay rfl rfl bd rfl aw (zdu (pre := []) (o := 0) (n := 3) (cap := 3) (ay.at 0 rfl rfl) aR rfl rfl rfl) (zcj (fun _ _ _ _ h => h) aR) ba bb bc ?_)
   intro ar al az aA be aH aI aJ aK
   have K12 := ks w aK
   refine zag (zai (v := (zO ar aD al)) rfl (zar (zbe (zah rfl (zag (zca (z := (iw (ao + 1))) rfl rfl rfl (zag (zae (v := (zI (iw (ao + 1)))) rfl (zar ?_)))))))))
   have aB := aJ.pick [1] rfl rfl rfl
   have aL : vL w be [ar] [zab ([] ++ (aA ++ az))] := aB.1
   have K13 := ks w aB.2
   have bf := ((aH.mono (K12 None)).mono (K13 None))
   obtain rfl := zad h
   refine zap ⟨(aD, (iw (ao + 1))), rfl, ?_⟩
   exact ⟨ar, al, az, aA, aD.length, _, (zef ⟨rfl, rfl, rfl, rfl, trivial⟩), aL, (zak (zak (zak K10 K11) K12) K13), bf, rfl, aI, trivial⟩
  replace h := ite_f aq h
  refine zcd rfl ?_
  obtain rfl := zad h
  obtain rfl := aF _ rfl
  replace h := aO
  try dsimp only at h
  refine zap ?_
  exact ⟨ak, ac, ab, ah, af, ak.length, _, rfl, (zef zrt), au, K10, av, rfl, aw, trivial⟩
 rintro _ w13 ⟨aj, ae, ad, ai, ag, an, u, rfl, rfl, aC, K14, aM, rfl, bg, -⟩
 replace h := aO
 try dsimp only at h
 refine zam (zah rfl (zag (zae (v := (zO ae aj ad)) rfl (zag (OpY.strRow (pre := []) (cs := ag) (sp := ai) (xs := aj) zcg zax zcw rfl (aC.at 0 rfl rfl) aM rfl (zag (zai (v := (zS (bstr aj))) rfl (zar (zbv ?_)))))))))
 obtain rfl := zad h
 refine ⟨[(zS (bstr aj))], zrt, ⟨_, rfl, aC.done, ?_⟩⟩
 exact zrt
theorem pFind_w (N : Nat) : ∀ (f : TFinder) (l : (List Int)) (text : (List Int)) (left : Int) (af : Nat) (aj : Value) (ac : Option Nat) (ae : Nat) (ag : List Value) (ah : List Value) (aa : Nat) (aR : Value) (ab : Option Nat) (ad : Nat) (ap : List Value) (ax : List Value) (X : List (Option Nat)) (w : World) (S : Nat → Prop) (hL : Go.X.Loc X [] w w [some af, ac, some aa, ab] [zab [aj, (zI f.most), (zO ac f.out ae), (Value.map (some aa))], zab ([] ++ (ag ++ ah)), (mcont (fun x : List UInt8 => zS x) (fun x : Bool => zac x) f.dead), zab ([] ++ (ap ++ ax))]) (bk : Rs rTTest (vH w S [some af, ac, some aa, ab] w) aj f.tests) (au : Els rStr (vH w S [some af, ac, some aa, ab] w) ag f.out) (av : (ag ++ ah).length = ae * rStr.sz) (ca : Rs (rInt .u32) (vH w S [some af, ac, some aa, ab] w) aR l) (aE : Els (rInt .u8) (vH w S [some af, ac, some aa, ab] w) ap text) (aF : (ap ++ ax).length = ad * (rInt .u8).sz) (r : (Bool × (List (List UInt8)) × (List ((List UInt8) × Bool)))) (h : pFind N f l text left = some r), Calls Try.prog 64 #[(zal (some ⟨af, 0, none⟩)), aR, (zO ab text ad), (zI left)] w (fun e w' => ∃ (az : Option Nat) (aO : Nat) (aJ : List Value) (aS : List Value) (bl : List Value) (bH : List Value), e = Ending.returned (zac r.1) ∧ Go.X.Loc X [] w w' [some af, az, some aa, ab] [zab [aj, (zI f.most), (zO az r.2.1 aO), (Value.map (some aa))], zab ([] ++ (aJ ++ aS)), (mcont (fun x : List UInt8 => zS x) (fun x : Bool => zac x) r.2.2), zab ([] ++ (bl ++ bH))] ∧ Keep w.heap.size [some af, ac, some aa, ab] w [some af, az, some aa, ab] w' ∧ Els rStr (vH w S [some af, az, some aa, ab] w') aJ r.2.1 ∧ (aJ ++ aS).length = aO * rStr.sz ∧ Els (rInt .u8) (vH w S [some af, az, some aa, ab] w') bl text ∧ (bl ++ bH).length = ad * (rInt .u8).sz ∧ True) := by
 induction N with
 | zero => intro f l text left af aj ac ae ag ah aa aR ab ad ap ax X w S hL bk au av ca aE aF r h; cases (show (none : Option (Bool × (List (List UInt8)) × (List ((List UInt8) × Bool)))) = some r from h)
 | succ N ih =>
  intro f l text left af aj ac ae ag ah aa aR ab ad ap ax X w S hL bk au av ca aE aF r h
  replace h : pFind_step N (pFind N) f l text left = some r := h
  unfold pFind_step at h
  refine calls_of (l := [(zal (some ⟨af, 0, none⟩)), aR, (zO ab text ad), (zI left)]) (rl := [.tmp 8]) (n := 116) Try.func64 rfl rfl rfl (zaj rfl) ?_
  refine zam (zah rfl (zag (zai (v := zF) rfl (zar (zam (zam (zah rfl (zag (zae (v := (zI left)) rfl (zag (zdb ((left : Int) = 0) rfl rfl zbg (zar (zbi ((left : Int) = 0) rfl (fun c2 => ?_) (fun c2 => ?_))))))))))))))
  ·
   replace h := ite_t c2 h
   refine zam (zam (zah rfl (zag (zae (v := (zal (some ⟨af, 0, none⟩))) rfl (zag (zdk (b := ⟨af, 0, none⟩) rfl (zag (zat (q := 0) zde rfl ti23 rfl rfl rfl (zag (zav (v := aj) zbh rfl rfl (hL.at 0 rfl rfl) rfl (zag (zcc (v := aj) zbh rfl bk (zag (zae (v := (zI 0)) rfl (zar ?_)))))))))))))))
   obtain ⟨e7, c3, c4⟩ := zee h
   refine zbt (fun e w' => ∃  (a0 : List Value) (a5 : List Value) (u : Env), (Sum.inl ()) = e7 ∧ e = upds [(0, (zal (some ⟨af, 0, none⟩))), (2, (zO ab text ad))] u ∧ Go.X.Loc X [] w w' [some af, ac, some aa, ab] [zab [aj, (zI f.most), (zO ac f.out ae), (Value.map (some aa))], zab ([] ++ (ag ++ ah)), (mcont (fun x : List UInt8 => zS x) (fun x : Bool => zac x) f.dead), zab ([] ++ (a0 ++ a5))] ∧ Keep w.heap.size [some af, ac, some aa, ab] w [some af, ac, some aa, ab] w' ∧ Els (rInt .u8) (vH w S [some af, ac, some aa, ab] w') a0 text ∧ (a0 ++ a5).length = ad * (rInt .u8).sz ∧ True) ?_ ?_
   ·
    refine zbc ?_
    refine zbx c3 (fun (ss : Int) (e : Env) (w' : World) => match ss with | bB => ∃ (aP : List Value) (aT : List Value) (u : Env), e = upds [(0, (zal (some ⟨af, 0, none⟩))), (1, aR), (2, (zO ab text ad)), (22, aj), (23, (zI (f.tests.length : Int))), (24, (zI bB))] u ∧ Go.X.Loc X [] w w' [some af, ac, some aa, ab] [zab [aj, (zI f.most), (zO ac f.out ae), (Value.map (some aa))], zab ([] ++ (ag ++ ah)), (mcont (fun x : List UInt8 => zS x) (fun x : Bool => zac x) f.dead), zab ([] ++ (aP ++ aT))] ∧ Keep w.heap.size [some af, ac, some aa, ab] w [some af, ac, some aa, ab] w' ∧ Els (rInt .u8) (vH w S [some af, ac, some aa, ab] w') aP text ∧ (aP ++ aT).length = ad * (rInt .u8).sz ∧ True) ⟨ap, ax, _, (zef ⟨rfl, rfl, rfl, rfl, rfl, rfl, trivial⟩), hL, zbp, aE, aF, trivial⟩ ?_
    rintro bB oo _ w10 ⟨aP, aT, u, rfl, cb, K10, bI, bJ, -⟩ h cc
    rw [pFind_b1] at h
    refine zam (zah rfl (zag (zcf ((bB : Int) < (f.tests.length : Int)) rfl rfl zbg (zar (zam (zbi ((bB : Int) < (f.tests.length : Int)) rfl (fun bK => ?_) (fun bK => ?_)))))))
    ·
     replace h := ite_t bK h
     refine zbm (zam (zbc (zam (zah rfl (zag (zae (v := (zI bB)) rfl ?_))))))
     obtain ⟨aU, eH, e8, eI, -, h⟩ := zix h
     have e9 := (bk.mono (K10 S))
     obtain ⟨b10, fa, c10, fb, fc, q14, fd, fe⟩ := zcy e9 eI
     obtain ⟨rfl, -⟩ := rTTest_open fe
     refine zag (zbs (r := rTTest) (v := aj) (n := eH) (m := (fa + eH * rTTest.sz)) zbh ti44 rfl fc rfl e8 eI rfl (zag (OpY.ldRoA (vs := [(zI aU.Var), (zI aU.Kind), (zac aU.Negated), (zS aU.Text)]) zbd rfl ti44 rfl rfl zek fd (zag (zdw (cs := [(zI 0), (zI 0), zF, (zaf (s8 []))]) ti44 rfl cb ?_)))))
     intro b11 w11 c5 c6
     have K11 := ks w c6
     refine zag (zai (v := (zI bB)) rfl (zdj (zdi (vs := [(zI aU.Var), (zI aU.Kind), (zac aU.Negated), (zS aU.Text)]) ti44 rfl rfl rfl rfl (zej rfl (zej rfl (zej rfl (zej rfl zeu)))) c5 0 rfl rfl (zaj rfl) ?_)))
     intro w12 c7 c8
     have K12 := ks w c8
     refine zar (zam ?_)
     obtain ⟨eJ, c9, ff, eK, -, h⟩ := zix h
     have fg := (((ca.mono (K10 S)).mono (K11 S)).mono (K12 S))
     obtain ⟨fh, eL, c11, fi, fj, q20, fk, fm⟩ := zcy fg eK
     obtain rfl := fm
     refine zcx 5 [] [] (fun W1 => [.det (zbr #[(zI aU.Var), (zI aU.Kind), (zac aU.Negated), (zS aU.Text)]), .det aR, .det (zI bB), .det (zal (some ⟨fh, (eL + c9 * (rInt .u32).sz), none⟩)), .det (zaa .u32 eJ)]) mixed rfl rfl rfl (fun _ => rfl) (fun _ => rfl) ?_ ?_
     ·
      intro W1 _
      exact trivial
     intro fo da
     obtain ⟨bL, K13⟩ := zl c7 da
     refine zaw (fun _ db => zaq (zcr (vs := [(zI aU.Var), (zI aU.Kind), (zac aU.Negated), (zS aU.Text)]) zbd rfl ti44 rfl ((bL.ext db).at 0 rfl rfl) rfl rfl (er rfl))) (zaw (fun _ _ => zaq (zae rfl (er rfl))) (zaw (fun _ _ => zaq (zae rfl (er rfl))) (zaw (fun _ _ => zaq (zbs (r := (rInt .u32)) (v := aR) (n := c9) (m := (eL + c9 * (rInt .u32).sz)) zdq ti79 rfl fj rfl ff eK rfl (er rfl))) (zaw (fun _ dc => zaq (zbu zdm rfl rfl zek (zbz ((ke bL dc) S) (zbz (K13 S) fk)) (er rfl))) (zdd ?_)))))
     rintro w19 Z25 dd fp ⟨-⟩ fq
     have fs := @zhb fo Z25
     obtain ⟨dh, K15⟩ := zl bL dd
     obtain ⟨di, fu, h⟩ := zee h
     refine zag (zce en55 rfl rfl (pPassed_w N aU eJ _ Any di fu) ?_)
     rintro _ eM dj ⟨rfl, -⟩
     obtain ⟨cd, K16⟩ := zl dh dj
     refine zag (OpY.not (x := di) rfl (zar (zci (!di) rfl (fun bM => ?_) (fun bM => ?_))))
     ·
      replace h := ite_t bM h
      refine zam (zah rfl (zag (zai (v := zF) rfl (zar ?_))))
      have ce := cd.pick [1, 2, 3, 4] rfl rfl rfl
      have dk : Go.X.Loc X [] w eM [some af, ac, some aa, ab] [zab [aj, (zI f.most), (zO ac f.out ae), (Value.map (some aa))], zab ([] ++ (ag ++ ah)), (mcont (fun x : List UInt8 => zS x) (fun x : Bool => zac x) f.dead), zab ([] ++ (aP ++ aT))] := ce.1
      have K17 := ks w ce.2
      refine zbv ?_
      obtain rfl := zad h
      obtain rfl := cc _ rfl
      replace h := c4
      try dsimp only at h
      obtain rfl := zad h
      refine ⟨[zF], zrt, ?_⟩
      have fv := (((((((au.mono (K10 S)).mono (K11 S)).mono (K12 S)).mono (K13 S)).mono (K15 S)).mono (K16 S)).mono (K17 S))
      have fw := ((((((bI.mono (K11 S)).mono (K12 S)).mono (K13 S)).mono (K15 S)).mono (K16 S)).mono (K17 S))
      exact ⟨ac, ae, ag, ah, aP, aT, rfl, dk, (zak (zak (zak (zak (zak (zak K10 K11) K12) K13) K15) K16) K17), fv, av, fw, bJ, trivial⟩
     replace h := ite_f bM h
     refine zbm (zbe (zah rfl (zag (zca (z := (iw (bB + 1))) rfl rfl rfl ?_))))
     refine zag (zae (v := (zI (iw (bB + 1)))) rfl (zar ?_))
     have cg := cd.pick [1, 2, 3, 4] rfl rfl rfl
     have dl : Go.X.Loc X [] w eM [some af, ac, some aa, ab] [zab [aj, (zI f.most), (zO ac f.out ae), (Value.map (some aa))], zab ([] ++ (ag ++ ah)), (mcont (fun x : List UInt8 => zS x) (fun x : Bool => zac x) f.dead), zab ([] ++ (aP ++ aT))] := cg.1
     have K18 := ks w cg.2
     have fx := ((((((bI.mono (K11 S)).mono (K12 S)).mono (K13 S)).mono (K15 S)).mono (K16 S)).mono (K18 S))
     obtain rfl := zad h
     refine zap ⟨(iw (bB + 1)), rfl, ?_⟩
     exact ⟨aP, aT, _, (zef ⟨rfl, rfl, rfl, rfl, rfl, rfl, trivial⟩), dl, (zak (zak (zak (zak (zak (zak K10 K11) K12) K13) K15) K16) K18), fx, bJ, trivial⟩
    replace h := ite_f bK h
    refine zcd rfl ?_
    obtain rfl := zad h
    obtain rfl := cc _ rfl
    replace h := c4
    try dsimp only at h
    refine zap ?_
    exact ⟨aP, aT, _, rfl, (zef ⟨rfl, rfl, trivial⟩), cb, K10, bI, bJ, trivial⟩
   rintro _ w21 ⟨a0, a5, u, rfl, rfl, dm, K19, ch, dn, -⟩
   replace h := c4
   try dsimp only at h
   refine zam (Swp.drawP [7, 8, 11] [0, 1, 2, 3, 4, 5, 6, 9, 10] [(37, (zal (some ⟨af, 0, none⟩))), (38, (zal (some ⟨af, 0, none⟩))), (39, (zal (some ⟨af, 0, none⟩))), (40, (zal (some ⟨af, 2, none⟩))), (41, (zO ac f.out ae)), (42, (zO ab text ad)), (43, (zS (bstr text))), (46, (zal (some ⟨af, 0, none⟩))), (47, (zal (some ⟨af, 2, none⟩)))] mixed rfl rfl rfl rfl ?_)
   intro fy dp
   obtain ⟨bN, K20⟩ := zl dm dp
   refine ⟨?_, ?_⟩
   ·
    refine zao (i := 0) rfl rfl (zaq (zae rfl zrr)) (zao (i := 1) rfl rfl (zaq (zae rfl zrr)) (zao (i := 2) rfl rfl (zaq (zdk (b := ⟨af, 0, none⟩) rfl zrr)) (zao (i := 3) rfl rfl (zaq (zat (q := 2) zde rfl ti27 rfl rfl rfl zrr)) (zao (i := 4) rfl rfl (zaq (zav (v := (zO ac f.out ae)) zaz rfl rfl (bN.at 0 rfl rfl) rfl zrr)) (zao (i := 5) rfl rfl (zaq (zae rfl zrr)) (zao (i := 6) rfl rfl (zaq (OpY.strRow (pre := []) (cs := a0) (sp := a5) (xs := text) zcg zax zcw rfl (bN.at 3 rfl rfl) (ch.mono (K20 S)) rfl zrr)) ?_))))))
    refine zao (i := 9) rfl rfl (zaq (zdk (b := ⟨af, 0, none⟩) rfl zrr)) (zao (i := 10) rfl rfl (zaq (zat (q := 2) zde rfl ti27 rfl rfl rfl zrr)) ?_)
    exact zch
   have ci : Els rStr (vH w None [some af, ac, some aa, ab] fy) [(zS (bstr text))] [(bstr text)] := (zcq (a := [(zS (bstr text))]) rfl zcn)
   refine RlL.op (zco (r := rStr) (vs := [(zS (bstr text))]) (css := [[(zS (bstr text))]]) (xs := [(bstr text)]) zaz ti9 (zaj rfl) rfl rfl ⟨rfl, rfl, trivial⟩ (zaj rfl) ci rfl bN ?_)
   intro fz fA fB bO dq
   have K21 := ks w dq
   refine ⟨?_, ?_⟩
   ·
    refine zao (i := 0) rfl rfl (zaq (zae rfl zrr)) (zao (i := 1) rfl rfl (zaq (zae rfl zrr)) (zao (i := 2) rfl rfl (zaq (zdk (b := ⟨af, 0, none⟩) rfl zrr)) (zao (i := 3) rfl rfl (zaq (zat (q := 2) zde rfl ti27 rfl rfl rfl zrr)) (zao (i := 4) rfl rfl (zaq (zav (v := (zO ac f.out ae)) zaz rfl rfl (bO.at 1 rfl rfl) rfl zrr)) (zao (i := 5) rfl rfl (zaq (zae rfl zrr)) (zao (i := 9) rfl rfl (zaq (zdk (b := ⟨af, 0, none⟩) rfl zrr)) ?_))))))
    refine zao (i := 10) rfl rfl (zaq (zat (q := 2) zde rfl ti27 rfl rfl rfl zrr)) ?_
    exact zch
   obtain ⟨cj, fC, h⟩ := zee h
   obtain ⟨fD, fE, fF⟩ := zep fC
   have eN := (ci.mono (K21 None))
   have fG := (((au.mono (K19 S)).mono (K20 S)).mono (K21 S))
   refine RlL.op (zcz (r := rStr) (H := (vH w S [some fz, some af, ac, some aa, ab] fA)) (cs := ag) (sp := ah) (xs := f.out) (ys := [(bstr text)]) (Y := cj) (n := f.out.length) (cap := ae) (i := 2) zaz ti9 rfl rfl rfl rfl bO rfl rfl fG rfl av (zdu (pre := []) (o := 0) (n := 1) (cap := 1) (bO.at 0 rfl rfl) eN rfl rfl rfl) (zcj (fun _ _ _ _ h => h) eN) fD fE fF ?_)
   intro a6 aV ck cp w24 dr ds dt du
   have K22 := ks w du
   refine ⟨?_, ?_⟩
   ·
    refine zao (i := 0) rfl rfl (zaq (zae rfl zrr)) (zao (i := 1) rfl rfl (zaq (zae rfl zrr)) (zao (i := 2) rfl rfl (zaq (zdk (b := ⟨af, 0, none⟩) rfl zrr)) (zao (i := 3) rfl rfl (zaq (zat (q := 2) zde rfl ti27 rfl rfl rfl zrr)) (zao (i := 5) rfl rfl (zaq (zae rfl zrr)) (zao (i := 9) rfl rfl (zaq (zdk (b := ⟨af, 0, none⟩) rfl zrr)) (zao (i := 10) rfl rfl (zaq (zat (q := 2) zde rfl ti27 rfl rfl rfl zrr)) ?_))))))
    exact zch
   refine RlL.op0 (zdi (vs := [(zO a6 cj aV)]) ti27 rfl rfl (zes (zem a6 0 cj.length aV)) rfl (zej (zem a6 0 cj.length aV) zeu) dt 1 rfl rfl (zaj rfl) ?_)
   intro fH dv dw
   have K23 := ks w dw
   refine ⟨?_, ?_⟩
   ·
    refine zao (i := 9) rfl rfl (zaq (zdk (b := ⟨af, 0, none⟩) rfl zrr)) ?_
    exact zch
   refine RlL.fin ?_
   refine zam (zah rfl (zag (zai (v := zT) rfl (zar ?_))))
   have cq := dv.pick [1, 2, 3, 4] rfl rfl rfl
   have dx : Go.X.Loc X [] w fH [some af, a6, some aa, ab] [zab [aj, (zI f.most), (zO a6 cj aV), (Value.map (some aa))], zab ([] ++ (cp ++ ck)), (mcont (fun x : List UInt8 => zS x) (fun x : Bool => zac x) f.dead), zab ([] ++ (a0 ++ a5))] := cq.1
   have K24 := ks w cq.2
   refine zbv ?_
   obtain rfl := zad h
   refine ⟨[zT], zrt, ?_⟩
   have fI := (((dr.mono (K22 S)).mono (K23 S)).mono (K24 S))
   have fJ := (((((ch.mono (K20 S)).mono (K21 S)).mono (K22 S)).mono (K23 S)).mono (K24 S))
   exact ⟨a6, aV, cp, ck, a0, a5, rfl, dx, (zak (zak (zak (zak (zak K19 K20) K21) K22) K23) K24), fI, ds, fJ, dn, trivial⟩
  replace h := ite_f c2 h
  refine zbm (zam (zah rfl (zag (zae (v := aR) rfl ?_))))
  refine zag (zae (v := (zI left)) rfl ?_)
  obtain ⟨bi, fK, h⟩ := zee h
  refine zag (zce en74 rfl rfl (pKey_w N l left aR _ Any (ca.mono vw_any) bi fK) ?_)
  rintro _ eO dy ⟨rfl, -⟩
  obtain ⟨bD, K25⟩ := zl hL dy
  refine zag (zai (v := (zS bi)) rfl (zar (zam (zam (zah rfl (zag (zae (v := (zal (some ⟨af, 0, none⟩))) rfl (zag (zdk (b := ⟨af, 0, none⟩) rfl (zag (zat (q := 3) zde rfl ti91 rfl rfl rfl (zag (zav (v := (Value.map (some aa))) Try.underlying91 rfl rfl (bD.at 0 rfl rfl) rfl (zag (zae (v := (zS bi)) rfl (zag (OpY.look0 (kf := (fun x : List UInt8 => zS x)) (vf := (fun x : Bool => zac x)) (m := f.dead) (x := bi) (z := false) mky_9 Try.underlying91 ti4 rfl (bD.at 2 rfl rfl) rfl (zar ?_))))))))))))))))))
  refine zci (mget f.dead bi false).1 rfl (fun bP => ?_) (fun bP => ?_)
  ·
   replace h := ite_t bP h
   refine zam (zah rfl (zag (zai (v := zF) rfl (zar (zbv ?_)))))
   obtain rfl := zad h
   refine ⟨[zF], zrt, ?_⟩
   have fL := (au.mono (K25 S))
   have fM := (aE.mono (K25 S))
   exact ⟨ac, ae, ag, ah, ap, ax, rfl, bD, K25, fL, av, fM, aF, trivial⟩
  replace h := ite_f bP h
  refine zbm (zam (zah rfl (zag (zai (v := zF) rfl ?_))))
  refine zar (zam (zam (zah rfl (zag (zai (v := (zaa .i32 32)) rfl (zar ?_))))))
  obtain ⟨fN, dz, eP⟩ := zee h
  refine zbt (fun e w' => ∃ (a4 : (List (List UInt8))) (aQ : (List ((List UInt8) × Bool))) (ak : Bool) (aW : Option Nat) (aX : Nat) (bm : List Value) (a7 : List Value) (bQ : Nat) (a8 : List Value) (bn : List Value) (u : Env), (a4, aQ, ak) = fN ∧ e = upds [(0, (zal (some ⟨af, 0, none⟩))), (2, (zO ab text ad)), (11, (zS bi)), (12, (zac ak))] u ∧ Go.X.Loc X [] w w' [some af, aW, some aa, ab] [zab [aj, (zI f.most), (osv aW 0 bQ aX), (Value.map (some aa))], zab ([] ++ (a7 ++ bm)), (mcont (fun x : List UInt8 => zS x) (fun x : Bool => zac x) aQ), zab ([] ++ (a8 ++ bn))] ∧ Keep w.heap.size [some af, ac, some aa, ab] eO [some af, aW, some aa, ab] w' ∧ Els rStr (vH w S [some af, aW, some aa, ab] w') a7 a4 ∧ bQ = List.length a4 ∧ (a7 ++ bm).length = aX * rStr.sz ∧ Els (rInt .u8) (vH w S [some af, aW, some aa, ab] w') a8 text ∧ (a8 ++ bn).length = ad * (rInt .u8).sz ∧ True) ?_ ?_
  ·
   refine zbc ?_
   have fO := (au.mono (K25 S))
   have fP := (aE.mono (K25 S))
   refine zbx dz (fun (ss : ((List (List UInt8)) × (List ((List UInt8) × Bool)) × Bool × Int)) (e : Env) (w' : World) => match ss with | (al, ar, aq, ao) => ∃ (ai : Option Nat) (ay : Nat) (aK : List Value) (aI : List Value) (bR : Nat) (a9 : List Value) (bo : List Value) (u : Env), e = upds [(0, (zal (some ⟨af, 0, none⟩))), (1, aR), (2, (zO ab text ad)), (3, (zI left)), (11, (zS bi)), (12, (zac aq)), (13, (zaa .i32 ao))] u ∧ Go.X.Loc X [] w w' [some af, ai, some aa, ab] [zab [aj, (zI f.most), (osv ai 0 bR ay), (Value.map (some aa))], zab ([] ++ (aI ++ aK)), (mcont (fun x : List UInt8 => zS x) (fun x : Bool => zac x) ar), zab ([] ++ (a9 ++ bo))] ∧ Keep w.heap.size [some af, ac, some aa, ab] eO [some af, ai, some aa, ab] w' ∧ Els rStr (vH w S [some af, ai, some aa, ab] w') aI al ∧ bR = List.length al ∧ (aI ++ aK).length = ay * rStr.sz ∧ Els (rInt .u8) (vH w S [some af, ai, some aa, ab] w') a9 text ∧ (a9 ++ bo).length = ad * (rInt .u8).sz ∧ True) ⟨ac, ae, ah, ag, f.out.length, ap, ax, _, (zef ⟨rfl, rfl, rfl, rfl, rfl, rfl, rfl, trivial⟩), bD, zbp, fO, rfl, av, fP, aF, trivial⟩ ?_
   rintro ⟨al, ar, aq, ao⟩ oo _ fQ ⟨ai, ay, aK, aI, bR, a9, bo, u, rfl, cr, K26, bE, rfl, bS, ct, cu, -⟩ h dA
   rw [pFind_b2] at h
   refine zam (zam ?_)
   obtain ⟨fR, h, fS⟩ := zee h
   refine zbt (fun e w' => ∃ (cY : Bool) (a1 : List Value) (ba : List Value) (u : Env), cY = fR ∧ e = upds [(0, (zal (some ⟨af, 0, none⟩))), (1, aR), (2, (zO ab text ad)), (3, (zI left)), (11, (zS bi)), (12, (zac aq)), (13, (zaa .i32 ao)), (70, (zac cY))] u ∧ Go.X.Loc X [] w w' [some af, ai, some aa, ab] [zab [aj, (zI f.most), (zO ai al ay), (Value.map (some aa))], zab ([] ++ (aI ++ aK)), (mcont (fun x : List UInt8 => zS x) (fun x : Bool => zac x) ar), zab ([] ++ (a1 ++ ba))] ∧ Keep w.heap.size [some af, ai, some aa, ab] fQ [some af, ai, some aa, ab] w' ∧ Els (rInt .u8) (vH w S [some af, ai, some aa, ab] w') a1 text ∧ (a1 ++ ba).length = ad * (rInt .u8).sz ∧ True) ?_ ?_
   ·
    by_cases an : (ao : Int) ≤ 126
    ·
     replace h := ite_t an h
     refine zcx 12 [] [] (fun W1 => [.det (zaa .i32 ao), .det (zac (decide ((ao : Int) ≤ 126))), .det (zac (decide ((ao : Int) ≤ 126))), .det (zal (some ⟨af, 0, none⟩)), .det (zal (some ⟨af, 0, none⟩)), .det (zal (some ⟨af, 2, none⟩)), .det (zO ai al ay), .det (zI (al.length : Int)), .det (zal (some ⟨af, 0, none⟩)), .det (zal (some ⟨af, 0, none⟩)), .det (zal (some ⟨af, 1, none⟩)), .det (zI f.most)]) mixed rfl rfl rfl (fun _ => rfl) (fun _ => rfl) ?_ ?_
     ·
      intro W1 _
      exact trivial
     intro fT dB
     obtain ⟨bp, K27⟩ := zl cr dB
     refine zaw (fun _ _ => zaq (zae rfl (er rfl))) (zaw (fun _ _ => zaq (zeb ((ao : Int) ≤ 126) rfl rfl zbg (er rfl))) (zaw (fun _ _ => zaq (zae rfl (er rfl))) (zaw (fun _ _ => zcp rfl rfl (zed an) (zae rfl (er rfl))) (zaw (fun _ _ => zcp rfl rfl (zed an) (zdk (b := ⟨af, 0, none⟩) rfl (er rfl))) (zaw (fun _ _ => zcp rfl rfl (zed an) (zat zde rfl ti27 rfl rfl rfl (er rfl))) (zaw (fun _ dC => zcp rfl rfl (zed an) (zav zaz rfl rfl ((bp.ext dC).at 0 rfl rfl) rfl (er rfl))) ?_))))))
     refine zaw (fun _ cv => zcp rfl rfl (zed an) (zcl (pre := []) (r := rStr) (xs := al) zaz rfl ((bp.ext cv).at 1 rfl rfl) ((bE.mono (K27 S)).mono ((ke bp cv) S)) rfl rfl (er rfl))) (zaw (fun _ _ => zcp rfl rfl (zed an) (zae rfl (er rfl))) (zaw (fun _ _ => zcp rfl rfl (zed an) (zdk (b := ⟨af, 0, none⟩) rfl (er rfl))) (zaw (fun _ _ => zcp rfl rfl (zed an) (zat zde rfl ti3 rfl rfl rfl (er rfl))) (zaw (fun _ dD => zcp rfl rfl (zed an) (zav zay rfl rfl ((bp.ext dD).at 0 rfl rfl) rfl (er rfl))) (zdd ?_)))))
     rintro w41 Z38 dE fU ⟨-⟩ fV
     have fW := @zhb fT Z38
     obtain ⟨dF, K29⟩ := zl bp dE
     refine zbb rfl rfl (zed an) (zcf (((al.length : Int) : Int) < f.most) rfl rfl zbg (zag (zbo (v := (zac (decide (((al.length : Int) : Int) < f.most)))) rfl (zed an) rfl (zar ?_))))
     have fX := ((ct.mono (K27 S)).mono (K29 S))
     obtain rfl := zad h
     refine zap ?_
     exact ⟨(decide (((al.length : Int) : Int) < f.most)), a9, bo, _, rfl, (zef ⟨rfl, rfl, rfl, rfl, rfl, rfl, rfl, rfl, trivial⟩), dF, (zak K27 K29), fX, cu, trivial⟩
    replace h := ite_f an h
    refine zcx 12 [] [] (fun W1 => [.det (zaa .i32 ao), .det (zac (decide ((ao : Int) ≤ 126))), .det (zac (decide ((ao : Int) ≤ 126))), .det undef, .det undef, .det undef, .det undef, .det undef, .det undef, .det undef, .det undef, .det undef]) mixed rfl rfl rfl (fun _ => rfl) (fun _ => rfl) ?_ ?_
    ·
     intro W1 _
     exact trivial
    intro fY dG
    obtain ⟨dH, K30⟩ := zl cr dG
    refine zaw (fun _ _ => zaq (zae rfl (er rfl))) (zaw (fun _ _ => zaq (zeb ((ao : Int) ≤ 126) rfl rfl zbg (er rfl))) (zaw (fun _ _ => zaq (zae rfl (er rfl))) (zaw (fun _ _ => zdh rfl rfl (zec an) (er rfl)) (zaw (fun _ _ => zdh rfl rfl (zec an) (er rfl)) (zaw (fun _ _ => zdh rfl rfl (zec an) (er rfl)) (zaw (fun _ _ => zdh rfl rfl (zec an) (er rfl)) ?_))))))
    refine zaw (fun _ _ => zdh rfl rfl (zec an) (er rfl)) (zaw (fun _ _ => zdh rfl rfl (zec an) (er rfl)) (zaw (fun _ _ => zdh rfl rfl (zec an) (er rfl)) (zaw (fun _ _ => zdh rfl rfl (zec an) (er rfl)) (zaw (fun _ _ => zdh rfl rfl (zec an) (er rfl)) (zdd ?_)))))
    rintro w55 Z51 dI fZ ⟨-⟩ f0
    have f1 := @zhb fY Z51
    obtain ⟨dJ, K31⟩ := zl dH dI
    refine zbj rfl rfl (zec an) (zag (zbk (v := zF) rfl (zec an) rfl (zar ?_)))
    have f2 := ((ct.mono (K30 S)).mono (K31 S))
    obtain rfl := zad h
    refine zap ?_
    exact ⟨false, a9, bo, _, rfl, (zef ⟨rfl, rfl, rfl, rfl, rfl, rfl, rfl, rfl, trivial⟩), dJ, (zak K30 K31), f2, cu, trivial⟩
   rintro _ f3 ⟨cY, a1, ba, u, rfl, rfl, cw, K32, cx, cy, -⟩
   replace h := fS
   try dsimp only at h
   refine zci cY rfl (fun bT => ?_) (fun bT => ?_)
   ·
    replace h := ite_t bT h
    refine zbm (zam (zbc (zam (zah rfl (zag (zae (v := aR) rfl ?_))))))
    have eQ := (((ca.mono (K25 S)).mono (K26 S)).mono (K32 S))
    refine zag (zcc (v := aR) zdq rfl eQ ?_)
    obtain ⟨bb, f4, h⟩ := zee h
    obtain ⟨bj, f5, f6, f7, f8⟩ := mk1_some f4
    refine zag (zdl (r := (rInt .u32)) (H := (vH w None [some af, ai, some aa, ab] f3)) (zc := [(zaa .u32 0)]) (x := 0) zdq ti79 rfl rfl rfl rfl f5 f6 f7 f8 cw ?_)
    intro aB dK cz dL dM cA dN
    have K33 := ks w dN
    refine zag (zai (v := (zO (some aB) bb bj)) rfl (zar (zam (zam (zah rfl (zag (zae (v := (zal (some ⟨af, 0, none⟩))) rfl (zag (zdk (b := ⟨af, 0, none⟩) rfl (zag (zat (q := 0) zde rfl ti23 rfl rfl rfl (zag (zav (v := aj) zbh rfl rfl (cA.at 1 rfl rfl) rfl ?_)))))))))))))
    have cZ := ((((bk.mono (K25 S)).mono (K26 S)).mono (K32 S)).mono (K33 S))
    refine zag (zcc (v := aj) zbh rfl cZ (zag (zae (v := (zI 0)) rfl (zar ?_))))
    obtain ⟨f9, dO, eR⟩ := zee h
    refine zbt (fun e w' => ∃ (aG : (List Int)) (aL : List Value) (aN : List Value) (aY : List Value) (u : Env), aG = f9 ∧ e = upds [(0, (zal (some ⟨af, 0, none⟩))), (1, aR), (2, (zO ab text ad)), (3, (zI left)), (11, (zS bi)), (12, (zac aq)), (13, (zaa .i32 ao)), (14, (zO (some aB) bb bj))] u ∧ Go.X.Loc X [] w w' [some af, ai, some aa, ab, some aB] [zab [aj, (zI f.most), (zO ai al ay), (Value.map (some aa))], zab ([] ++ (aI ++ aK)), (mcont (fun x : List UInt8 => zS x) (fun x : Bool => zac x) ar), zab ([] ++ (aL ++ aN)), zab ([] ++ (aY ++ []))] ∧ Keep w.heap.size [some aB, some af, ai, some aa, ab] dK [some af, ai, some aa, ab, some aB] w' ∧ Els (rInt .u8) (vH w S [some af, ai, some aa, ab, some aB] w') aL text ∧ (aL ++ aN).length = ad * (rInt .u8).sz ∧ Els (rInt .u32) (vH w None [some af, ai, some aa, ab, some aB] w') aY aG ∧ bb.length = List.length aG ∧ (aY ++ []).length = bj * (rInt .u32).sz ∧ True) ?_ ?_
    ·
     refine zbc ?_
     have cB := cA.pick [1, 2, 3, 4, 0] rfl rfl rfl
     have dP : Go.X.Loc X [] w dK [some af, ai, some aa, ab, some aB] [zab [aj, (zI f.most), (zO ai al ay), (Value.map (some aa))], zab ([] ++ (aI ++ aK)), (mcont (fun x : List UInt8 => zS x) (fun x : Bool => zac x) ar), zab ([] ++ (a1 ++ ba)), zab ([] ++ (cz ++ []))] := cB.1
     have K34 := ks w cB.2
     have ga := ((cx.mono (K33 S)).mono (K34 S))
     have gb := ((dL.mono (K33 None)).mono (K34 None))
     refine zbx dO (fun (ss : ((List Int) × Int)) (e : Env) (w' : World) => match ss with | (aM, bq) => ∃ (a2 : List Value) (bc : List Value) (br : List Value) (u : Env), e = upds [(0, (zal (some ⟨af, 0, none⟩))), (1, aR), (2, (zO ab text ad)), (3, (zI left)), (11, (zS bi)), (12, (zac aq)), (13, (zaa .i32 ao)), (14, (zO (some aB) bb bj)), (79, aj), (80, (zI (f.tests.length : Int))), (81, (zI bq))] u ∧ Go.X.Loc X [] w w' [some af, ai, some aa, ab, some aB] [zab [aj, (zI f.most), (zO ai al ay), (Value.map (some aa))], zab ([] ++ (aI ++ aK)), (mcont (fun x : List UInt8 => zS x) (fun x : Bool => zac x) ar), zab ([] ++ (a2 ++ bc)), zab ([] ++ (br ++ []))] ∧ Keep w.heap.size [some aB, some af, ai, some aa, ab] dK [some af, ai, some aa, ab, some aB] w' ∧ Els (rInt .u8) (vH w S [some af, ai, some aa, ab, some aB] w') a2 text ∧ (a2 ++ bc).length = ad * (rInt .u8).sz ∧ Els (rInt .u32) (vH w None [some af, ai, some aa, ab, some aB] w') br aM ∧ bb.length = List.length aM ∧ (br ++ []).length = bj * (rInt .u32).sz ∧ True) ⟨a1, ba, cz, _, (zef ⟨rfl, rfl, rfl, rfl, rfl, rfl, rfl, rfl, rfl, rfl, rfl, trivial⟩), dP, K34, ga, cy, gb, rfl, dM, trivial⟩ ?_
     rintro ⟨aM, bq⟩ oo _ w58 ⟨a2, bc, br, u, rfl, cC, K35, cD, cE, cF, bU, cG, -⟩ h dQ
     rw [pFind_b3] at h
     refine zam (zah rfl (zag (zcf ((bq : Int) < (f.tests.length : Int)) rfl rfl zbg (zar (zam (zbi ((bq : Int) < (f.tests.length : Int)) rfl (fun bV => ?_) (fun bV => ?_)))))))
     ·
      replace h := ite_t bV h
      refine zbm (zam (zbc (zam (zah rfl (zag (zae (v := (zI bq)) rfl ?_))))))
      obtain ⟨aZ, eS, gc, eT, -, h⟩ := zix h
      have gd := (cZ.mono (K35 S))
      obtain ⟨b15, gf, c13, gg, gh, q37, gi, gj⟩ := zcy gd eT
      obtain ⟨rfl, -⟩ := rTTest_open gj
      refine zag (zbs (r := rTTest) (v := aj) (n := eS) (m := (gf + eS * rTTest.sz)) zbh ti44 rfl gh rfl gc eT rfl (zag (OpY.ldRoA (vs := [(zI aZ.Var), (zI aZ.Kind), (zac aZ.Negated), (zS aZ.Text)]) zbd rfl ti44 rfl rfl zek gi (zag (zdw (cs := [(zI 0), (zI 0), zF, (zaf (s8 []))]) ti44 rfl cC ?_)))))
      intro b16 w59 dR dS
      have K36 := ks w dS
      refine zag (zai (v := (zI bq)) rfl (zdj (zdi (vs := [(zI aZ.Var), (zI aZ.Kind), (zac aZ.Negated), (zS aZ.Text)]) ti44 rfl rfl rfl rfl (zej rfl (zej rfl (zej rfl (zej rfl zeu)))) dR 0 rfl rfl (zaj rfl) ?_)))
      intro w60 dT dU
      have K37 := ks w dU
      refine zar ?_
      obtain ⟨eU, dV, gk, eV, -, h⟩ := zix h
      have gl := ((((eQ.mono (K33 S)).mono (K35 S)).mono (K36 S)).mono (K37 S))
      obtain ⟨gm, eW, c14, gn, go, q43, gp, gq⟩ := zcy gl eV
      obtain rfl := gq
      obtain ⟨c0, gr, h⟩ := zee h
      refine zcx 10 [] [] (fun W1 => [.det (zO (some aB) bb bj), .det (zI bq), .det (zbr #[(zI aZ.Var), (zI aZ.Kind), (zac aZ.Negated), (zS aZ.Text)]), .det aR, .det (zI bq), .det (zal (some ⟨gm, (eW + dV * (rInt .u32).sz), none⟩)), .det (zaa .u32 eU), .det (zaa .i32 ao), .det (zaa .u8 (uw8 ao)), .det (zaa .u32 c0)]) mixed rfl rfl rfl (fun _ => rfl) (fun _ => rfl) ?_ ?_
      ·
       intro W1 _
       exact trivial
      intro gs dW
      obtain ⟨bW, K38⟩ := zl dT dW
      refine zaw (fun _ _ => zaq (zae rfl (er rfl))) (zaw (fun _ _ => zaq (zae rfl (er rfl))) (zaw (fun _ dX => zaq (zcr (vs := [(zI aZ.Var), (zI aZ.Kind), (zac aZ.Negated), (zS aZ.Text)]) zbd rfl ti44 rfl ((bW.ext dX).at 0 rfl rfl) rfl rfl (er rfl))) (zaw (fun _ _ => zaq (zae rfl (er rfl))) (zaw (fun _ _ => zaq (zae rfl (er rfl))) (zaw (fun _ _ => zaq (zbs (r := (rInt .u32)) (v := aR) (n := dV) (m := (eW + dV * (rInt .u32).sz)) zdq ti79 rfl go rfl gk eV rfl (er rfl))) (zaw (fun _ dY => zaq (zbu zdm rfl rfl zek (zbz ((ke bW dY) S) (zbz (K38 S) gp)) (er rfl))) ?_))))))
      refine zaw (fun _ _ => zaq (zae rfl (er rfl))) (zaw (fun _ _ => zaq (zds Try.underlying21 zcw rfl rfl (er rfl))) (DrH.det ?_ ?_))
      ·
       rintro w71 Z61 gu gv ⟨-⟩
       refine zaq (zce en54 rfl rfl (pNext_w N aZ eU (uw8 ao) _ Any c0 gr) ?_)
       rintro _ w72 dZ ⟨rfl, -⟩
       exact ⟨dZ, rfl⟩
      refine zdd ?_
      rintro w73 Z62 d0 gw ⟨-⟩ gx
      have gz := @zhb gs Z62
      obtain ⟨d1, K40⟩ := zl bW d0
      obtain ⟨x19, eX, eY, q48, eZ, h⟩ := zix h
      refine zag (zbl (r := (rInt .u32)) (b := aB) (o := 0) (n := eX) (m := bb.length) (xs := aM) (q := (0 + eX * (rInt .u32).sz)) zdq ti79 rfl bU rfl eY eZ rfl ?_)
      obtain ⟨e2, n15, gA, q52, e3, h⟩ := zux h
      obtain rfl := zin eY gA
      have gB := ((((cF.mono (K36 None)).mono (K37 None)).mono (K38 None)).mono (K40 None))
      refine zdj (zdg (pre := []) (r := (rInt .u32)) (vs := [(zaa .u32 c0)]) (a := c0) ti79 rfl rfl rfl rfl d1 5 rfl rfl gB eZ rfl e3 ?_)
      have d2 : bb.length = List.length e2 := by rw [e3, List.length_set]; exact bU
      intro gC bX d3 d4 d5 gE
      have d6 : (bX ++ []).length = bj * (rInt .u32).sz := zhc cG gE
      have K41 := ks w d4
      refine zar (zbe (zah rfl (zag (zca (z := (iw (bq + 1))) rfl rfl rfl ?_))))
      refine zag (zae (v := (zI (iw (bq + 1)))) rfl (zar ?_))
      have cH := d3.pick [1, 2, 3, 4, 5] rfl rfl rfl
      have d7 : Go.X.Loc X [] w gC [some af, ai, some aa, ab, some aB] [zab [aj, (zI f.most), (zO ai al ay), (Value.map (some aa))], zab ([] ++ (aI ++ aK)), (mcont (fun x : List UInt8 => zS x) (fun x : Bool => zac x) ar), zab ([] ++ (a2 ++ bc)), zab ([] ++ (bX ++ []))] := cH.1
      have K42 := ks w cH.2
      have gF := ((((((cD.mono (K36 S)).mono (K37 S)).mono (K38 S)).mono (K40 S)).mono (K41 S)).mono (K42 S))
      have gG := ((d5.mono (K41 None)).mono (K42 None))
      obtain rfl := zad h
      refine zap ⟨(e2, (iw (bq + 1))), rfl, ?_⟩
      exact ⟨a2, bc, bX, _, (zef ⟨rfl, rfl, rfl, rfl, rfl, rfl, rfl, rfl, rfl, rfl, rfl, trivial⟩), d7, (zak (zak (zak (zak (zak (zak K35 K36) K37) K38) K40) K41) K42), gF, cE, gG, d2, d6, trivial⟩
     replace h := ite_f bV h
     refine zcd rfl ?_
     obtain rfl := zad h
     obtain rfl := dQ _ rfl
     replace h := eR
     try dsimp only at h
     refine zap ?_
     exact ⟨aM, a2, bc, br, _, rfl, (zef ⟨rfl, rfl, rfl, rfl, rfl, rfl, rfl, rfl, trivial⟩), cC, K35, cD, cE, cF, bU, cG, trivial⟩
    rintro _ gH ⟨aG, aL, aN, aY, u, rfl, rfl, d8, K43, cI, bF, cJ, cK, cL, -⟩
    replace h := eR
    try dsimp only at h
    refine zam (zah rfl (zag (zae (v := (zal (some ⟨af, 0, none⟩))) rfl (zag (zae (v := (zO (some aB) bb bj)) rfl (zag (zae (v := (zO ab text ad)) rfl (zag (zae (v := (zaa .i32 ao)) rfl (zag (zds (x := ao) (z := (uw8 ao)) Try.underlying21 zcw rfl rfl ?_)))))))))))
    have bY : Els (rInt .u8) (vH w None [some af, ai, some aa, ab, some aB] gH) [(zaa .u8 (uw8 ao))] [(uw8 ao)] := (zcq (a := [(zaa .u8 (uw8 ao))]) rfl zcn)
    refine zag (zco (r := (rInt .u8)) (vs := [(zaa .u8 (uw8 ao))]) (css := [[(zaa .u8 (uw8 ao))]]) (xs := [(uw8 ao)]) zcg ti5 (zaj rfl) rfl rfl ⟨rfl, rfl, trivial⟩ (zaj rfl) bY rfl d8 ?_)
    intro bC e4 gI bG d9
    have K44 := ks w d9
    obtain ⟨b9, gJ, h⟩ := zee h
    obtain ⟨gK, gM, c1⟩ := zep gJ
    by_cases cM : text.length + 1 ≤ ad
    ·
     have cN := (bY.mono (K44 None))
     have gN := (cI.mono (K44 S))
     refine zag (OpY.apRoom (r := (rInt .u8)) (H := (vH w S [some bC, some af, ai, some aa, ab, some aB] e4)) (cs := aL) (sp := aN) (xs := text) (ys := [(uw8 ao)]) (Y := b9) (n := text.length) (cap := ad) (i := 4) zcg ti5 rfl rfl rfl bG rfl rfl gN rfl bF (zdu (pre := []) (o := 0) (n := 1) (cap := 1) (bG.at 0 rfl rfl) cN rfl rfl rfl) (zcj (fun _ _ _ _ h => h) cN) (zaj rfl) cM c1 ?_)
     intro ea eb w77 ec ed bZ ee
     have K45 := ks w ee
     refine zag (zae (v := (zI left)) rfl (zag (OpY.sub (z := (iw (left - 1))) rfl rfl rfl ?_)))
     obtain ⟨aA, ef, h⟩ := zee h
     have b0 := bZ.lendW [1, 2, 3, 4] rfl rfl rfl
     have eg := (((cZ.mono (K43 S)).mono (K44 S)).mono (K45 S))
     have eh := (((((bE.mono (K32 S)).mono (K33 S)).mono (K43 S)).mono (K44 S)).mono (K45 S))
     have ei := ((cJ.mono (K44 None)).mono (K45 None))
     have ej := (ec.mono (K45 S))
     refine zag (zdt en64 rfl rfl (ih (TFinder.mk f.tests f.most al ar) aG b9 (iw (left - 1)) af aj ai ay aI aK aa (zO (some aB) bb bj) ab ad eb ea [some af, ai, some aa, ab] _ Any b0 (eg.mono (zcv [1, 2, 3, 4] rfl)) (eh.mono (zcv [1, 2, 3, 4] rfl)) bS (zet (pre := []) (o := 0) (n := bb.length) (cap := bj) bZ 5 [1, 2, 3, 4] rfl rfl rfl rfl ei (zcv [1, 2, 3, 4] rfl) rfl rfl cK cL) (ej.mono (zcv [1, 2, 3, 4] rfl)) ed aA ef) ?_)
     rintro _ bd ⟨am, aw, aC, aH, bu, aD, rfl, b1, K46, b2, bw, b3, b4, -⟩
     refine ⟨_, rfl, ?_⟩
     have bx := bZ.backW [1, 2, 3, 4] [0, 5] rfl rfl rfl rfl b1
     have bz : Go.X.Loc X [] w bd [some af, am, some aa, ab, some bC, some aB] [zab [aj, (zI f.most), (zO am aA.2.1 aw), (Value.map (some aa))], zab ([] ++ (aC ++ aH)), (mcont (fun x : List UInt8 => zS x) (fun x : Bool => zac x) aA.2.2), zab ([] ++ (bu ++ aD)), zab ([] ++ ([(zaa .u8 (uw8 ao))] ++ [])), zab ([] ++ (aY ++ []))] := bx.1
     have K47 := ks w bx.2
     have bA : Els rStr (vH w S [some af, am, some aa, ab, some bC, some aB] bd) aC aA.2.1 := zcj (fun _ _ _ _ h => h) b2
     have b5 : Els (rInt .u8) (vH w S [some af, am, some aa, ab, some bC, some aB] bd) bu b9 := zcj (fun _ _ _ _ h => h) b3
     refine zar ?_
     refine zci aA.1 rfl (fun a3 => ?_) (fun a3 => ?_)
     ·
      replace h := ite_t a3 h
      refine zah rfl (zag (zai (v := zT) rfl (zar (zbe (zah rfl (zag (zae (v := (zaa .i32 ao)) rfl (zag (zca (z := (iw32 (ao + 1))) rfl rfl rfl (zag (zai (v := (zaa .i32 (iw32 (ao + 1)))) rfl (zar ?_))))))))))))
      obtain ⟨be, bf, rfl, ek⟩ := Els.shrink (show Els (rInt .u8) _ _ (_ ++ _) by rw [← c1]; exact b5)
      have e5 : be ++ (bf ++ aD) = (be ++ bf) ++ aD := (List.append_assoc _ _ _).symm
      have em : (be ++ (bf ++ aD)).length = ad * (rInt .u8).sz := by rw [e5]; exact b4
      have en : Go.X.Loc X [] w bd [some af, am, some aa, ab, some bC, some aB] [zab [aj, (zI f.most), (zO am aA.2.1 aw), (Value.map (some aa))], zab ([] ++ (aC ++ aH)), (mcont (fun x : List UInt8 => zS x) (fun x : Bool => zac x) aA.2.2), zab ([] ++ (be ++ (bf ++ aD))), zab ([] ++ ([(zaa .u8 (uw8 ao))] ++ [])), zab ([] ++ (aY ++ []))] := by rw [e5]; exact bz
      have cO := en.pick [0, 1, 2, 3] rfl rfl rfl
      have eo : Go.X.Loc X [] w bd [some af, am, some aa, ab] [zab [aj, (zI f.most), (zO am aA.2.1 aw), (Value.map (some aa))], zab ([] ++ (aC ++ aH)), (mcont (fun x : List UInt8 => zS x) (fun x : Bool => zac x) aA.2.2), zab ([] ++ (be ++ (bf ++ aD)))] := cO.1
      have K48 := ks w cO.2
      have ep := (bA.mono (K48 S))
      have gO := (ek.mono (K48 S))
      obtain rfl := zad h
      refine zap ⟨(aA.2.1, aA.2.2, true, (iw32 (ao + 1))), rfl, ?_⟩
      exact ⟨am, aw, aH, aC, aA.2.1.length, be, (bf ++ aD), _, (zef ⟨rfl, rfl, rfl, rfl, rfl, rfl, rfl, trivial⟩), eo, (zak (zak (zak (zak (zak (zak (zak K26 K32) K33) K43) K44) K45) K47) K48), ep, rfl, bw, gO, em, trivial⟩
     replace h := ite_f a3 h
     refine zbm (zbe (zah rfl (zag (zae (v := (zaa .i32 ao)) rfl ?_))))
     refine zag (zca (z := (iw32 (ao + 1))) rfl rfl rfl (zag (zai (v := (zaa .i32 (iw32 (ao + 1)))) rfl (zar ?_))))
     obtain ⟨bg, bh, rfl, es⟩ := Els.shrink (show Els (rInt .u8) _ _ (_ ++ _) by rw [← c1]; exact b5)
     have e6 : bg ++ (bh ++ aD) = (bg ++ bh) ++ aD := (List.append_assoc _ _ _).symm
     have et : (bg ++ (bh ++ aD)).length = ad * (rInt .u8).sz := by rw [e6]; exact b4
     have eu : Go.X.Loc X [] w bd [some af, am, some aa, ab, some bC, some aB] [zab [aj, (zI f.most), (zO am aA.2.1 aw), (Value.map (some aa))], zab ([] ++ (aC ++ aH)), (mcont (fun x : List UInt8 => zS x) (fun x : Bool => zac x) aA.2.2), zab ([] ++ (bg ++ (bh ++ aD))), zab ([] ++ ([(zaa .u8 (uw8 ao))] ++ [])), zab ([] ++ (aY ++ []))] := by rw [e6]; exact bz
     have cP := eu.pick [0, 1, 2, 3] rfl rfl rfl
     have ew : Go.X.Loc X [] w bd [some af, am, some aa, ab] [zab [aj, (zI f.most), (zO am aA.2.1 aw), (Value.map (some aa))], zab ([] ++ (aC ++ aH)), (mcont (fun x : List UInt8 => zS x) (fun x : Bool => zac x) aA.2.2), zab ([] ++ (bg ++ (bh ++ aD)))] := cP.1
     have K49 := ks w cP.2
     have gP := (bA.mono (K49 S))
     have gQ := (es.mono (K49 S))
     obtain rfl := zad h
     refine zap ⟨(aA.2.1, aA.2.2, aq, (iw32 (ao + 1))), rfl, ?_⟩
     exact ⟨am, aw, aH, aC, aA.2.1.length, bg, (bh ++ aD), _, (zef ⟨rfl, rfl, rfl, rfl, rfl, rfl, rfl, trivial⟩), ew, (zak (zak (zak (zak (zak (zak (zak K26 K32) K33) K43) K44) K45) K47) K49), gP, rfl, bw, gQ, et, trivial⟩
    have cN := (bY.mono (K44 None))
    have ex := (cI.mono (K44 S))
    refine zag (OpY.apNew (r := (rInt .u8)) (H := (vH w S [some bC, some af, ai, some aa, ab, some aB] e4)) (cs := aL) (sp := aN) (xs := text) (ys := [(uw8 ao)]) (Y := b9) (n := text.length) (cap := ad) (i := 4) zcg ti5 rfl rfl rfl rfl bG rfl rfl ex rfl bF (zdu (pre := []) (o := 0) (n := 1) (cap := 1) (bG.at 0 rfl rfl) cN rfl rfl rfl) (zcj (fun _ _ _ _ h => h) cN) (zaj rfl) cM gK gM c1 ?_)
    intro cQ cR ey ez w79 eA eB b6 eC
    have K50 := ks w eC
    refine zag (zae (v := (zI left)) rfl (zag (OpY.sub (z := (iw (left - 1))) rfl rfl rfl ?_)))
    obtain ⟨aA, ef, h⟩ := zee h
    have b0 := b6.lendW [2, 3, 4, 0] rfl rfl rfl
    have eg := (((cZ.mono (K43 S)).mono (K44 S)).mono (K50 S))
    have eh := (((((bE.mono (K32 S)).mono (K33 S)).mono (K43 S)).mono (K44 S)).mono (K50 S))
    have ei := ((cJ.mono (K44 None)).mono (K50 None))
    have ej := (eA.mono (K50 S))
    refine zag (zdt en64 rfl rfl (ih (TFinder.mk f.tests f.most al ar) aG b9 (iw (left - 1)) af aj ai ay aI aK aa (zO (some aB) bb bj) (some cQ) cR ez ey [some af, ai, some aa, some cQ] _ Any b0 (eg.mono (zcv [2, 3, 4, 0] rfl)) (eh.mono (zcv [2, 3, 4, 0] rfl)) bS (zet (pre := []) (o := 0) (n := bb.length) (cap := bj) b6 6 [2, 3, 4, 0] rfl rfl rfl rfl ei (zcv [2, 3, 4, 0] rfl) rfl rfl cK cL) (ej.mono (zcv [2, 3, 4, 0] rfl)) eB aA ef) ?_)
    rintro _ bd ⟨am, aw, aC, aH, bu, aD, rfl, b1, K46, b2, bw, b3, b4, -⟩
    refine ⟨_, rfl, ?_⟩
    have bx := b6.backW [2, 3, 4, 0] [1, 5, 6] rfl rfl rfl rfl b1
    have bz : Go.X.Loc X [] w bd [some af, am, some aa, some cQ, some bC, ab, some aB] [zab [aj, (zI f.most), (zO am aA.2.1 aw), (Value.map (some aa))], zab ([] ++ (aC ++ aH)), (mcont (fun x : List UInt8 => zS x) (fun x : Bool => zac x) aA.2.2), zab ([] ++ (bu ++ aD)), zab ([] ++ ([(zaa .u8 (uw8 ao))] ++ [])), zab ([] ++ (aL ++ aN)), zab ([] ++ (aY ++ []))] := bx.1
    have K47 := ks w bx.2
    have bA : Els rStr (vH w S [some af, am, some aa, some cQ, some bC, ab, some aB] bd) aC aA.2.1 := zcj (fun _ _ _ _ h => h) b2
    have b5 : Els (rInt .u8) (vH w S [some af, am, some aa, some cQ, some bC, ab, some aB] bd) bu b9 := zcj (fun _ _ _ _ h => h) b3
    refine zar ?_
    refine zci aA.1 rfl (fun a3 => ?_) (fun a3 => ?_)
    ·
     replace h := ite_t a3 h
     refine zah rfl (zag (zai (v := zT) rfl (zar (zbe (zah rfl (zag (zae (v := (zaa .i32 ao)) rfl (zag (zca (z := (iw32 (ao + 1))) rfl rfl rfl (zag (zai (v := (zaa .i32 (iw32 (ao + 1)))) rfl (zar ?_))))))))))))
     have cS := bz.pick [0, 1, 2, 5] rfl rfl rfl
     have eD : Go.X.Loc X [] w bd [some af, am, some aa, ab] [zab [aj, (zI f.most), (zO am aA.2.1 aw), (Value.map (some aa))], zab ([] ++ (aC ++ aH)), (mcont (fun x : List UInt8 => zS x) (fun x : Bool => zac x) aA.2.2), zab ([] ++ (aL ++ aN))] := cS.1
     have K51 := ks w cS.2
     have gR := (bA.mono (K51 S))
     have gU := (((ex.mono (K50 S)).mono (K47 S)).mono (K51 S))
     obtain rfl := zad h
     refine zap ⟨(aA.2.1, aA.2.2, true, (iw32 (ao + 1))), rfl, ?_⟩
     exact ⟨am, aw, aH, aC, aA.2.1.length, aL, aN, _, (zef ⟨rfl, rfl, rfl, rfl, rfl, rfl, rfl, trivial⟩), eD, (zak (zak (zak (zak (zak (zak (zak K26 K32) K33) K43) K44) K50) K47) K51), gR, rfl, bw, gU, bF, trivial⟩
    replace h := ite_f a3 h
    refine zbm (zbe (zah rfl (zag (zae (v := (zaa .i32 ao)) rfl ?_))))
    refine zag (zca (z := (iw32 (ao + 1))) rfl rfl rfl (zag (zai (v := (zaa .i32 (iw32 (ao + 1)))) rfl (zar ?_))))
    have cT := bz.pick [0, 1, 2, 5] rfl rfl rfl
    have eE : Go.X.Loc X [] w bd [some af, am, some aa, ab] [zab [aj, (zI f.most), (zO am aA.2.1 aw), (Value.map (some aa))], zab ([] ++ (aC ++ aH)), (mcont (fun x : List UInt8 => zS x) (fun x : Bool => zac x) aA.2.2), zab ([] ++ (aL ++ aN))] := cT.1
    have K52 := ks w cT.2
    have gV := (bA.mono (K52 S))
    have gW := (((ex.mono (K50 S)).mono (K47 S)).mono (K52 S))
    obtain rfl := zad h
    refine zap ⟨(aA.2.1, aA.2.2, aq, (iw32 (ao + 1))), rfl, ?_⟩
    exact ⟨am, aw, aH, aC, aA.2.1.length, aL, aN, _, (zef ⟨rfl, rfl, rfl, rfl, rfl, rfl, rfl, trivial⟩), eE, (zak (zak (zak (zak (zak (zak (zak K26 K32) K33) K43) K44) K50) K47) K52), gV, rfl, bw, gW, bF, trivial⟩
   replace h := ite_f bT h
   refine zcd rfl ?_
   have ep := (bE.mono (K32 S))
   obtain rfl := zad h
   obtain rfl := dA _ rfl
   replace h := eP
   try dsimp only at h
   refine zap ?_
   exact ⟨al, ar, aq, ai, ay, aK, aI, al.length, a1, ba, _, rfl, (zef ⟨rfl, rfl, rfl, rfl, trivial⟩), cw, (zak K26 K32), ep, rfl, bS, cx, cy, trivial⟩
  rintro _ w80 ⟨a4, aQ, ak, aW, aX, bm, a7, bQ, a8, bn, u, rfl, rfl, b7, K53, cU, rfl, cV, cW, cX, -⟩
  replace h := eP
  try dsimp only at h
  refine zam (zam (zah rfl (zag (zae (v := (zac ak)) rfl (zag (OpY.not (x := ak) rfl (zar (zci (!ak) rfl (fun b8 => ?_) (fun b8 => ?_)))))))))
  ·
   replace h := ite_t b8 h
   refine zah rfl (zag (zae (v := (zal (some ⟨af, 0, none⟩))) rfl (zag (zdk (b := ⟨af, 0, none⟩) rfl (zag (zat (q := 3) zde rfl ti91 rfl rfl rfl (zag (zav (v := (Value.map (some aa))) Try.underlying91 rfl rfl (b7.at 0 rfl rfl) rfl (zag (zae (v := (zS bi)) rfl (zdj (OpY.mapPut (kf := (fun x : List UInt8 => zS x)) (vf := (fun x : Bool => zac x)) (m := aQ) (x := bi) (y := true) mky_9 Try.underlying91 rfl rfl rfl b7 2 rfl rfl ?_))))))))))))
   intro w81 eF eG
   have K54 := ks w eG
   refine zar (zam (zah rfl (zag (zae (v := (zac ak)) rfl ?_))))
   refine zag (zai (v := (zac ak)) rfl (zar (zbv ?_)))
   obtain rfl := zad h
   refine ⟨[(zac ak)], zrt, ?_⟩
   have gX := (cU.mono (K54 S))
   have gY := (cW.mono (K54 S))
   exact ⟨aW, aX, a7, bm, a8, bn, rfl, eF, (zak (zak K25 K53) K54), gX, cV, gY, cX, trivial⟩
  replace h := ite_f b8 h
  refine zbm (zam (zah rfl (zag (zae (v := (zac ak)) rfl ?_))))
  refine zag (zai (v := (zac ak)) rfl (zar (zbv ?_)))
  obtain rfl := zad h
  refine ⟨[(zac ak)], zrt, ?_⟩
  exact ⟨aW, aX, a7, bm, a8, bn, rfl, b7, (zak K25 K53), cU, cV, cW, cX, trivial⟩
theorem pWords_w (N : Nat) (l : (List TTest)) (length : Int) (most : Int) (ad : Value) (w : World) (S : Nat → Prop) (bV : Rs rTTest (vH w S [] w) ad l) (r : (List (List UInt8))) (h : pWords N l length most = some r) :
  Calls Try.prog 39 #[ad, (zI length), (zI most)] w (Ret w (fun v w' => ∃ (a4 : Option Nat) (aK : Nat) (a5 : List Value) (sp0 : List Value), (zO a4 r aK) = v ∧ NewOwn w w' [a4] [zab ([] ++ (a5 ++ sp0))] ∧ Els rStr (vH w None [a4] w') a5 r ∧ (a5 ++ sp0).length = aK * rStr.sz ∧ True)) := by
 unfold pWords at h
 have hL : vL w w [] [] := Go.X.Loc.begin0 w
 refine calls_of (l := [ad, (zI length), (zI most)]) (rl := [.tmp 6]) (n := 28) Try.func39 rfl rfl rfl (zaj rfl) ?_
 refine zam (zah rfl (zag (zai (v := zN) rfl (zar (zam (zam ?_))))))
 obtain ⟨s3, h, g4⟩ := zee h
 refine zbt (fun e w' => ∃ (x2 : Bool) (u : Env), x2 = s3 ∧ e = upds [(0, ad), (1, (zI length)), (2, (zI most)), (13, (zac x2))] u ∧ vL w w' [] [] ∧ Keep w.heap.size [] w [] w' ∧ True) ?_ ?_
 ·
  refine zah rfl (zag (zae (v := (zI length)) rfl (zag (zcf ((length : Int) < 0) rfl rfl zbg (zag (zae (v := (zac (decide ((length : Int) < 0)))) rfl ?_))))))
  by_cases av : (length : Int) < 0
  ·
   replace h := ite_t av h
   refine zbj rfl rfl (zed av) (zbj rfl rfl (zed av) (zag (zbo (v := zT) rfl (zed av) rfl (zar ?_))))
   obtain rfl := zad h
   refine zap ?_
   exact ⟨true, _, rfl, (zef ⟨rfl, rfl, rfl, rfl, trivial⟩), hL, zbp, trivial⟩
  replace h := ite_f av h
  refine zbb rfl rfl (zec av) (zae (v := (zI most)) rfl (zbb rfl rfl (zec av) (zeb ((most : Int) ≤ 0) rfl rfl zbg (zag (zbk (v := (zac (decide ((most : Int) ≤ 0)))) rfl (zec av) rfl (zar ?_))))))
  obtain rfl := zad h
  refine zap ?_
  exact ⟨(decide ((most : Int) ≤ 0)), _, rfl, (zef ⟨rfl, rfl, rfl, rfl, trivial⟩), hL, zbp, trivial⟩
 rintro _ w6 ⟨x2, u, rfl, rfl, bN, K8, -⟩
 replace h := g4
 try dsimp only at h
 refine zci x2 rfl (fun a6 => ?_) (fun a6 => ?_)
 ·
  replace h := ite_t a6 h
  refine zam (zah rfl (zag (zai (v := zN) rfl (zar ?_))))
  have a7 := bN.addNil
  have aL : vL w w6 [none] [zab ([] ++ ([] ++ []))] := a7.1
  have a8 : Els rStr (vH w None [none] w6) [] [] := zcn
  refine zbv ?_
  obtain rfl := zad h
  refine ⟨[(osv none 0 (List.length ([] : (List (List UInt8)))) 0)], zrt, ⟨_, rfl, aL.done, ?_⟩⟩
  exact ⟨none, 0, [], [], rfl, (aL.newOwn [0] rfl rfl rfl), (a8.mono (zdy [0] rfl)), (show ([] ++ [] : List Value).length = 0 * rStr.sz by simp), trivial⟩
 replace h := ite_f a6 h
 refine zbm (zam (zah rfl (zag (zae (v := ad) rfl ?_))))
 refine zag (zae (v := (zI most)) rfl (zag (OpY.makeMap (kf := (fun x : List UInt8 => zS x)) (vf := (fun x : Bool => zac x)) bN ?_)))
 intro aa w10 a9 ba
 have K10 := ks w ba
 have bb := ((bV.mono (K8 S)).mono (K10 S))
 refine zag (OpY.build (zc := [zN, (zI 0), zN, (Value.map none)]) (cs := [ad, (zI most), zN, (Value.map (some aa))]) (is := [0, 1, 3]) (vs := [ad, (zI most), (Value.map (some aa))]) (css := [[ad], [(zI most)], [(Value.map (some aa))]]) pl93 ti93 rfl rfl rfl ⟨(zes bb.one), ⟨rfl, rfl, trivial⟩⟩ rfl (zag (zdo (cs := [ad, (zI most), zN, (Value.map (some aa))]) rfl rfl a9 ?_)))
 intro ab a1 aM bc
 have K11 := ks w bc
 refine zag (zai (v := (zal (some ⟨ab, 0, none⟩))) rfl (zar (zam (zah rfl (zag (zae (v := (zal (some ⟨ab, 0, none⟩))) rfl (zag (zae (v := (zal (some ⟨ab, 0, none⟩))) rfl ?_))))))))
 obtain ⟨bW, h, bX⟩ := zee h
 refine zag (zdt (T := fun e w' => ∃ (az : (List Int)) (ac : Option Nat) (ai : Nat) (am : List Value) (ak : List Value) (aA : Nat), az = bW ∧ e = Ending.returned (osv ac 0 aA ai) ∧ vL w w' [some ab, some aa, ac] [zab [ad, (zI most), zN, (Value.map (some aa))], (mcont (fun x : List UInt8 => zS x) (fun x : Bool => zac x) ([] : (List ((List UInt8) × Bool)))), zab ([] ++ (ak ++ am))] ∧ Keep w.heap.size [some ab, some aa] a1 [some ab, some aa, ac] w' ∧ Els (rInt .u32) (vH w None [some ab, some aa, ac] w') ak az ∧ aA = List.length az ∧ (ak ++ am).length = ai * (rInt .u32).sz ∧ True) en65 rfl rfl ?_ ?_)
 ·
  refine calls_of (l := [(zal (some ⟨ab, 0, none⟩))]) (rl := [.tmp 2]) (n := 22) Try.func65 rfl rfl rfl (zaj rfl) ?_
  refine zam (zah rfl (zag (zai (v := zN) rfl (zar (zam (zah rfl (zag (zai (v := zN) rfl (zar (zam (zam (zah rfl (zag (zae (v := (zal (some ⟨ab, 0, none⟩))) rfl (zag (zdk (b := ⟨ab, 0, none⟩) rfl (zag (zat (q := 0) zde rfl ti23 rfl rfl rfl (zag (zav (v := ad) zbh rfl rfl (aM.at 0 rfl rfl) rfl ?_))))))))))))))))))))
  have bO := (bb.mono (K11 S))
  refine zag (zcc (v := ad) zbh rfl bO (zag (zae (v := (zI 0)) rfl (zar ?_))))
  obtain ⟨bY, bd, bP⟩ := zee h
  refine zbt (fun e w' => ∃ (au : (List Int)) (af : Option Nat) (ae : Nat) (aq : List Value) (an : List Value) (aB : Nat) (u : Env), au = bY ∧ e = upds [(3, (osv af 0 aB ae))] u ∧ vL w w' [af, some ab, some aa] [zab ([] ++ (an ++ aq)), zab [ad, (zI most), zN, (Value.map (some aa))], (mcont (fun x : List UInt8 => zS x) (fun x : Bool => zac x) ([] : (List ((List UInt8) × Bool))))] ∧ Keep w.heap.size [some ab, some aa] a1 [af, some ab, some aa] w' ∧ Els (rInt .u32) (vH w None [af, some ab, some aa] w') an au ∧ aB = List.length au ∧ (an ++ aq).length = ae * (rInt .u32).sz ∧ True) ?_ ?_
  ·
   refine zbc ?_
   have aN := aM.addNil
   have be : vL w a1 [none, some ab, some aa] [zab ([] ++ ([] ++ [])), zab [ad, (zI most), zN, (Value.map (some aa))], (mcont (fun x : List UInt8 => zS x) (fun x : Bool => zac x) ([] : (List ((List UInt8) × Bool))))] := aN.1
   have K12 := ks w aN.2
   refine zbx bd (fun (ss : ((List Int) × Int)) (e : Env) (w' : World) => match ss with | (aw, aC) => ∃ (ah : Option Nat) (ag : Nat) (ar : List Value) (ao : List Value) (aD : Nat) (u : Env), e = upds [(3, (osv ah 0 aD ag)), (9, ad), (10, (zI (l.length : Int))), (11, (zI aC))] u ∧ vL w w' [ah, some ab, some aa] [zab ([] ++ (ao ++ ar)), zab [ad, (zI most), zN, (Value.map (some aa))], (mcont (fun x : List UInt8 => zS x) (fun x : Bool => zac x) ([] : (List ((List UInt8) × Bool))))] ∧ Keep w.heap.size [some ab, some aa] a1 [ah, some ab, some aa] w' ∧ Els (rInt .u32) (vH w None [ah, some ab, some aa] w') ao aw ∧ aD = List.length aw ∧ (ao ++ ar).length = ag * (rInt .u32).sz ∧ True) ⟨none, 0, [], [], (List.length ([] : (List Int))), _, (zef ⟨rfl, rfl, rfl, rfl, trivial⟩), be, K12, (zcn (r := (rInt .u32))), rfl, (show ([] ++ [] : List Value).length = 0 * (rInt .u32).sz by simp), trivial⟩ ?_
   rintro ⟨aw, aC⟩ oo _ w12 ⟨ah, ag, ar, ao, aD, u, rfl, aO, K13, aP, rfl, aQ, -⟩ h bf
   rw [pWords_b1] at h
   refine zam (zah rfl (zag (zcf ((aC : Int) < (l.length : Int)) rfl rfl zbg (zar (zam (zbi ((aC : Int) < (l.length : Int)) rfl (fun aE => ?_) (fun aE => ?_)))))))
   ·
    replace h := ite_t aE h
    refine zbm (zam (zbc (zam (zah rfl ?_))))
    obtain ⟨ap, bQ, bZ, bR, -, h⟩ := zix h
    have b0 := (bO.mono (K13 S))
    obtain ⟨b12, b1, c10, b2, b3, q14, b4, b5⟩ := zcy b0 bR
    obtain ⟨rfl, -⟩ := rTTest_open b5
    refine zag (zbs (r := rTTest) (v := ad) (n := bQ) (m := (b1 + bQ * rTTest.sz)) zbh ti44 rfl b3 rfl bZ bR rfl (zag (OpY.ldRoA (vs := [(zI ap.Var), (zI ap.Kind), (zac ap.Negated), (zS ap.Text)]) zbd rfl ti44 rfl rfl zek b4 (zag (zdw (cs := [(zI 0), (zI 0), zF, (zaf (s8 []))]) ti44 rfl aO ?_)))))
    intro bS w13 bg bh
    have K14 := ks w bh
    refine zdj (zdi (vs := [(zI ap.Var), (zI ap.Kind), (zac ap.Negated), (zS ap.Text)]) ti44 rfl rfl rfl rfl (zej rfl (zej rfl (zej rfl (zej rfl zeu)))) bg 0 rfl rfl (zaj rfl) ?_)
    intro w14 aR bi
    have K15 := ks w bi
    refine zar (zah rfl (zag (zae (v := (zO ah aw ag)) rfl ?_)))
    refine zag (zcr (vs := [(zI ap.Var), (zI ap.Kind), (zac ap.Negated), (zS ap.Text)]) zbd rfl ti44 rfl (aR.at 0 rfl rfl) rfl rfl ?_)
    obtain ⟨ax, b6, h⟩ := zee h
    refine zag (zce en53 rfl rfl (pBegin_w N ap _ Any ax b6) ?_)
    rintro _ b7 bj ⟨rfl, -⟩
    obtain ⟨bk, K16⟩ := zl aR bj
    have aS : Els (rInt .u32) (vH w None [some bS, ah, some ab, some aa] b7) [(zaa .u32 ax)] [ax] := (zcq (a := [(zaa .u32 ax)]) rfl zcn)
    refine zag (zco (r := (rInt .u32)) (vs := [(zaa .u32 ax)]) (css := [[(zaa .u32 ax)]]) (xs := [ax]) zdq ti79 (zaj rfl) rfl rfl ⟨rfl, rfl, trivial⟩ (zaj rfl) aS rfl bk ?_)
    intro b8 b9 ca aT bl
    have K17 := ks w bl
    obtain ⟨a2, cb, h⟩ := zee h
    obtain ⟨cc, cd, ce⟩ := zep cb
    have bT := (aS.mono (K17 None))
    have cg := ((((aP.mono (K14 None)).mono (K15 None)).mono (K16 None)).mono (K17 None))
    refine zag (zcz (r := (rInt .u32)) (H := (vH w None [some b8, some bS, ah, some ab, some aa] b9)) (cs := ao) (sp := ar) (xs := aw) (ys := [ax]) (Y := a2) (n := aw.length) (cap := ag) (i := 2) zdq ti79 rfl rfl rfl rfl aT rfl rfl cg rfl aQ (zdu (pre := []) (o := 0) (n := 1) (cap := 1) (aT.at 0 rfl rfl) bT rfl rfl rfl) (zcj (fun _ _ _ _ h => h) bT) cc cd ce ?_)
    intro aF ay aU aV ch bm bn bo bp
    have K18 := ks w bp
    refine zag (zai (v := (zO aF a2 ay)) rfl (zar (zbe (zah rfl (zag (zca (z := (iw (aC + 1))) rfl rfl rfl (zag (zae (v := (zI (iw (aC + 1)))) rfl (zar ?_)))))))))
    have aW := bo.pick [2, 3, 4] rfl rfl rfl
    have bq : vL w ch [aF, some ab, some aa] [zab ([] ++ (aV ++ aU)), zab [ad, (zI most), zN, (Value.map (some aa))], (mcont (fun x : List UInt8 => zS x) (fun x : Bool => zac x) ([] : (List ((List UInt8) × Bool))))] := aW.1
    have K19 := ks w aW.2
    have ci := ((bm.mono (K18 None)).mono (K19 None))
    obtain rfl := zad h
    refine zap ⟨(a2, (iw (aC + 1))), rfl, ?_⟩
    exact ⟨aF, ay, aU, aV, a2.length, _, (zef ⟨rfl, rfl, rfl, rfl, trivial⟩), bq, (zak (zak (zak (zak (zak (zak K13 K14) K15) K16) K17) K18) K19), ci, rfl, bn, trivial⟩
   replace h := ite_f aE h
   refine zcd rfl ?_
   obtain rfl := zad h
   obtain rfl := bf _ rfl
   replace h := bP
   try dsimp only at h
   refine zap ?_
   exact ⟨aw, ah, ag, ar, ao, aw.length, _, rfl, (zef zrt), aO, K13, aP, rfl, aQ, trivial⟩
  rintro _ cj ⟨au, af, ae, aq, an, aB, u, rfl, rfl, br, K20, bu, rfl, bw, -⟩
  replace h := bP
  try dsimp only at h
  refine zam (zah rfl (zag (zae (v := (zO af au ae)) rfl (zag (zai (v := (zO af au ae)) rfl (zar (zbv ?_)))))))
  refine ⟨[(zO af au ae)], zrt, ?_⟩
  have aX := br.pick [1, 2, 0] rfl rfl rfl
  have bx : vL w cj [some ab, some aa, af] [zab [ad, (zI most), zN, (Value.map (some aa))], (mcont (fun x : List UInt8 => zS x) (fun x : Bool => zac x) ([] : (List ((List UInt8) × Bool)))), zab ([] ++ (an ++ aq))] := aX.1
  have K21 := ks w aX.2
  have ck := (bu.mono (K21 None))
  obtain rfl := zad h
  exact ⟨au, af, ae, aq, an, au.length, rfl, rfl, bx, (zak K20 K21), ck, rfl, bw, trivial⟩
 rintro _ a3 ⟨az, ac, ai, am, ak, aA, rfl, rfl, bz, K22, bA, rfl, bB, -⟩
 refine ⟨_, rfl, ?_⟩
 replace h := bX
 try dsimp only at h
 refine zag (zae (v := (zI length)) rfl ?_)
 have aY := bz.addNil
 have bC : vL w a3 [none, some ab, some aa, ac] [zab ([] ++ ([] ++ [])), zab [ad, (zI most), zN, (Value.map (some aa))], (mcont (fun x : List UInt8 => zS x) (fun x : Bool => zac x) ([] : (List ((List UInt8) × Bool)))), zab ([] ++ (ak ++ am))] := aY.1
 have K23 := ks w aY.2
 have bD : Els rStr (vH w None [none, some ab, some aa, ac] a3) [] [] := zcn
 have aZ := bC.addNil
 have aG : vL w a3 [none, none, some ab, some aa, ac] [zab ([] ++ ([] ++ [])), zab ([] ++ ([] ++ [])), zab [ad, (zI most), (osv none 0 (List.length ([] : (List (List UInt8)))) 0), (Value.map (some aa))], (mcont (fun x : List UInt8 => zS x) (fun x : Bool => zac x) ([] : (List ((List UInt8) × Bool)))), zab ([] ++ (ak ++ am))] := aZ.1
 have K24 := ks w aZ.2
 have bE : Els (rInt .u8) (vH w None [none, none, some ab, some aa, ac] a3) [] [] := zcn
 obtain ⟨aH, cp, h⟩ := zee h
 have bF := aG.lendW [2, 1, 3, 0] rfl rfl rfl
 have cq := ((((bb.mono (K11 S)).mono (K22 S)).mono (K23 S)).mono (K24 S))
 have cr := (bD.mono (K24 None))
 have ct := ((bA.mono (K23 None)).mono (K24 None))
 refine zag (zdt en64 rfl rfl (pFind_w N (TFinder.mk l most ([] : (List (List UInt8))) ([] : (List ((List UInt8) × Bool)))) az ([] : (List Int)) length ab ad none 0 [] [] aa (zO ac az ai) none 0 [] [] [some ab, none, some aa, none] _ Any bF (cq.mono (zcv [2, 1, 3, 0] rfl)) (cr.mono (zcv [2, 1, 3, 0] rfl)) (show ([] ++ [] : List Value).length = 0 * rStr.sz by simp) (zet (pre := []) (o := 0) (n := az.length) (cap := ai) aG 4 [2, 1, 3, 0] rfl rfl rfl rfl ct (zcv [2, 1, 3, 0] rfl) rfl rfl rfl bB) (bE.mono (zcv [2, 1, 3, 0] rfl)) (show ([] ++ [] : List Value).length = 0 * (rInt .u8).sz by simp) aH cp) ?_)
 rintro _ bU ⟨al, aj, aI, a0, bG, bH, rfl, bI, K25, bJ, bK, cu, cv, -⟩
 refine ⟨_, rfl, ?_⟩
 have bL := aG.backW [2, 1, 3, 0] [4] rfl rfl rfl rfl bI
 have aJ : vL w bU [some ab, al, some aa, none, ac] [zab [ad, (zI most), (zO al aH.2.1 aj), (Value.map (some aa))], zab ([] ++ (aI ++ a0)), (mcont (fun x : List UInt8 => zS x) (fun x : Bool => zac x) aH.2.2), zab ([] ++ (bG ++ bH)), zab ([] ++ (ak ++ am))] := bL.1
 have bM : Els rStr (vH w None [some ab, al, some aa, none, ac] bU) aI aH.2.1 := zcj (fun _ _ _ _ h => h) bJ
 refine zar (zam (zah rfl (zag (zae (v := (zal (some ⟨ab, 0, none⟩))) rfl ?_))))
 refine zag (zdk (b := ⟨ab, 0, none⟩) rfl (zag (zat (q := 2) zde rfl ti27 rfl rfl rfl (zag (zav (v := (zO al aH.2.1 aj)) zaz rfl rfl (aJ.at 0 rfl rfl) rfl (zag (zai (v := (zO al aH.2.1 aj)) rfl (zar (zbv ?_)))))))))
 obtain rfl := zad h
 refine ⟨[(zO al aH.2.1 aj)], zrt, ⟨_, rfl, aJ.done, ?_⟩⟩
 exact ⟨al, aj, aI, a0, rfl, (aJ.newOwn [1] rfl rfl rfl), (bM.mono (zdy [1] rfl)), bK, trivial⟩
end Go.Proofs.Ytaakoedphmeenaa.WA

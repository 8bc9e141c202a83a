/- Walks, written by a program of mine (wip/tool); the kernel checks them. -/
import Derived.Test.YtaakoedphmeenaaProg
import Derived.Test.YtaakoedphmeenaaSqLengths
import Derived.Test.YtaakoedphmeenaaPT
import Derived.Test.YtaakoedphmeenaaWALengths
import Derived.Test.YtaakoedphmeenaaWRLengths
set_option maxRecDepth 100000
set_option maxHeartbeats 40000000
set_option linter.unusedVariables false
set_option linter.unusedSimpArgs false
namespace Go.Proofs.Ytaakoedphmeenaa.WT
open Go Go.RowKit Go.X Go.D Go.Proofs.Ytaakoedphmeenaa.WA Go.Proofs.Ytaakoedphmeenaa.WR
theorem en66 : Go.X.Enters Try.prog 66 := ⟨Try.f66, Try.func66, by kernel_rfl, by kernel_rfl⟩
theorem en50 : Go.X.Enters Try.prog 50 := ⟨Try.f50, Try.func50, by kernel_rfl, by kernel_rfl⟩
theorem en28 : Go.X.Enters Try.prog 28 := ⟨Try.f28, Try.func28, by kernel_rfl, by kernel_rfl⟩
theorem ti31 : TI Try.prog 31 5 120 (zbq #[zN, zN, zN, zN, zN]) := TI.mk (by kernel_rfl)
theorem en40 : Go.X.Enters Try.prog 40 := ⟨Try.f40, Try.func40, by kernel_rfl, by kernel_rfl⟩
theorem en71 : Go.X.Enters Try.prog 71 := ⟨Try.f71, Try.func71, by kernel_rfl, by kernel_rfl⟩
theorem ti56 : TI Try.prog 56 5 88 (zbq #[(zI 0), (zI 0), zN, zN, zN]) := TI.mk (by kernel_rfl)
theorem en59 : Go.X.Enters Try.prog 59 := ⟨Try.f59, Try.func59, by kernel_rfl, by kernel_rfl⟩
theorem en60 : Go.X.Enters Try.prog 60 := ⟨Try.f60, Try.func60, by kernel_rfl, by kernel_rfl⟩
theorem en39 : Go.X.Enters Try.prog 39 := ⟨Try.f39, Try.func39, by kernel_rfl, by kernel_rfl⟩
theorem pl44 : placesT Try.prog 44 = some [(0, 1), (1, 1), (2, 1), (3, 1)] := by kernel_rfl
theorem en31 : Go.X.Enters Try.prog 31 := ⟨Try.f31, Try.func31, by kernel_rfl, by kernel_rfl⟩
theorem en62 : Go.X.Enters Try.prog 62 := ⟨Try.f62, Try.func62, by kernel_rfl, by kernel_rfl⟩
theorem en36 : Go.X.Enters Try.prog 36 := ⟨Try.f36, Try.func36, by kernel_rfl, by kernel_rfl⟩
theorem en72 : Go.X.Enters Try.prog 72 := ⟨Try.f72, Try.func72, by kernel_rfl, by kernel_rfl⟩
theorem en61 : Go.X.Enters Try.prog 61 := ⟨Try.f61, Try.func61, by kernel_rfl, by kernel_rfl⟩
theorem ti52 : TI Try.prog 52 1 24 zN := TI.mk (by kernel_rfl)
theorem en32 : Go.X.Enters Try.prog 32 := ⟨Try.f32, Try.func32, by kernel_rfl, by kernel_rfl⟩
theorem en34 : Go.X.Enters Try.prog 34 := ⟨Try.f34, Try.func34, by kernel_rfl, by kernel_rfl⟩
theorem en33 : Go.X.Enters Try.prog 33 := ⟨Try.f33, Try.func33, by kernel_rfl, by kernel_rfl⟩
theorem en35 : Go.X.Enters Try.prog 35 := ⟨Try.f35, Try.func35, by kernel_rfl, by kernel_rfl⟩
theorem indexInt_w (N : Nat) (s : (List Int)) (f : (Int → Option Bool)) (s_v : Value) (f_v : Value) (w : World) (S : Nat → Prop) (s_h : Rs rI (vH w S [] w) s_v s) (f_h : ∀ w' : World, Ext w w' → ∀ (xa_ : Int), ∀ z, f xa_ = some z → FunOk Try.prog f_v [(zI xa_)] w' (fun v w'' => zac z = v ∧ True)) (r : Int) (h : indexInt N s f = some r) :
  Calls Try.prog 66 #[s_v, f_v] w (Ret w (fun v w' => (zI r) = v ∧ True)) := by
 unfold indexInt at h
 have hL : vL w w [] [] := Go.X.Loc.begin0 w
 refine calls_of (l := [s_v, f_v]) (rl := [.tmp 4]) (n := 19) Try.func66 rfl rfl rfl (zai rfl) ?_
 refine zal (zah rfl (zag (zaj (v := (zI 0)) rfl ?_)))
 refine zaq (zal (zal (zah rfl (zag (zae (v := s_v) rfl ?_)))))
 refine zag (zcf (v := s_v) zao rfl s_h ?_)
 refine zag (zae (v := (zI 0)) rfl (zaq ?_))
 obtain ⟨s10, hl10, g10⟩ := zee h
 refine zbs (fun e w' => ∃  (u : Env), (Sum.inl ()) = s10 ∧ e = upds [] u ∧ vL w w' [] [] ∧ Keep w.heap.size [] w [] w' ∧ True) ?_ ?_
 ·
  refine zbc ?_
  refine zbw hl10 (fun (ss : Int) (e : Env) (w' : World) => match ss with | x10 => ∃ (u : Env), e = upds [(0, s_v), (1, f_v), (7, (zI (s.length : Int))), (8, (zI x10))] u ∧ vL w w' [] [] ∧ Keep w.heap.size [] w [] w' ∧ True) ⟨_, (zef ⟨rfl, rfl, rfl, rfl, trivial⟩), hL, zbp, trivial⟩ ?_
  rintro x10 oo _ w10 ⟨u, rfl, hL10, K10, -⟩ h hd10
  rw [indexInt_b1] at h
  refine zal (zah rfl (zag (zcg (x := x10) (y := (s.length : Int)) ((x10 : Int) < (s.length : Int)) rfl rfl zbi ?_)))
  refine zaq (zal ?_)
  refine zbj ((x10 : Int) < (s.length : Int)) rfl (fun hc10 => ?_) (fun hc10 => ?_)
  ·
   replace h := ite_t hc10 h
   refine zbl (zal (zbc (zal (zah rfl (zag (zae (v := (zI x10)) rfl ?_))))))
   refine zag (zaj (v := (zI x10)) rfl ?_)
   refine zaq (zal (zah rfl (zag (zae (v := f_v) rfl ?_))))
   refine zag (zae (v := s_v) rfl ?_)
   refine zag (zae (v := (zI x10)) rfl ?_)
   obtain ⟨x11, n10, q11, q12, -, h⟩ := zix h
   have f10 := (s_h.mono (K10 S))
   obtain ⟨b10, o10, c10, vs10, q13, q14, f11, q15⟩ := zdc f10 q12
   obtain rfl := q15
   refine zag (zby (r := rI) (v := s_v) (n := n10) (m := (o10 + n10 * rI.sz)) zao ti3 rfl q13 rfl q11 q12 rfl ?_)
   refine zag (zce (v := (zI x11)) zaw rfl rfl zel f11 ?_)
   obtain ⟨r10, q16, h⟩ := zee h
   refine zag (OpY.callF rfl rfl (f_h _ hL10.done x11  r10 q16) ?_)
   rintro _ w11 hE10 ⟨rfl, -⟩
   obtain ⟨hL11, K11⟩ := zl hL10 hE10
   refine zaq ?_
   refine zch r10 rfl (fun hc11 => ?_) (fun hc11 => ?_)
   ·
    replace h := ite_t hc11 h
    refine zal (zah rfl (zag (zae (v := (zI x10)) rfl ?_)))
    refine zag (zaj (v := (zI x10)) rfl ?_)
    refine zaq (zbt ?_)
    obtain rfl := zad h
    obtain rfl := hd10 _ rfl
    replace h := g10
    try dsimp only at h
    obtain rfl := zad h
    refine ⟨[(zI x10)], zrt, ⟨_, rfl, hL11.done, ?_⟩⟩
    exact zrt
   replace h := ite_f hc11 h
   refine zbl (zbf (zah rfl (zag (zbx (x := x10) (y := 1) (z := (iw (x10 + 1))) rfl rfl rfl ?_))))
   refine zag (zae (v := (zI (iw (x10 + 1)))) rfl (zaq ?_))
   obtain rfl := zad h
   refine zap ⟨(iw (x10 + 1)), rfl, ?_⟩
   exact ⟨_, (zef ⟨rfl, rfl, rfl, rfl, trivial⟩), hL11, (zak K10 K11), trivial⟩
  replace h := ite_f hc10 h
  refine zca rfl ?_
  obtain rfl := zad h
  obtain rfl := hd10 _ rfl
  replace h := g10
  try dsimp only at h
  refine zap ?_
  exact ⟨_, rfl, (zef trivial), hL10, K10, trivial⟩
 rintro _ w12 ⟨u, rfl, rfl, hL12, K12, -⟩
 replace h := g10
 try dsimp only at h
 refine zal (zah rfl (zag (zaj (v := (zI (-1))) rfl ?_)))
 refine zaq (zbt ?_)
 obtain rfl := zad h
 refine ⟨[(zI (-1))], zrt, ⟨_, rfl, hL12.done, ?_⟩⟩
 exact zrt
theorem containsInt_w (N : Nat) (s : (List Int)) (f : (Int → Option Bool)) (s_v : Value) (f_v : Value) (w : World) (S : Nat → Prop) (s_h : Rs rI (vH w S [] w) s_v s) (f_h : ∀ w' : World, Ext w w' → ∀ (xa_ : Int), ∀ z, f xa_ = some z → FunOk Try.prog f_v [(zI xa_)] w' (fun v w'' => zac z = v ∧ True)) (r : Bool) (h : containsInt N s f = some r) :
  Calls Try.prog 50 #[s_v, f_v] w (Ret w (fun v w' => (zac r) = v ∧ True)) := by
 unfold containsInt at h
 have hL : vL w w [] [] := Go.X.Loc.begin0 w
 refine calls_of (l := [s_v, f_v]) (rl := [.tmp 4]) (n := 9) Try.func50 rfl rfl rfl (zai rfl) ?_
 refine zal (zah rfl (zag (zaj (v := zF) rfl ?_)))
 refine zaq (zal (zah rfl (zag (zae (v := s_v) rfl ?_))))
 refine zag (zae (v := f_v) rfl ?_)
 obtain ⟨r1, q2, h⟩ := zee h
 refine zag (zbz en66 rfl rfl (indexInt_w N s f s_v f_v _ Any (s_h.mono vw_any) (fun w9 hE9 => f_h w9 (hL.done.trans hE9)) r1 q2) ?_)
 rintro _ w4 hE7 ⟨rfl, -⟩
 have hL5 := hL.ext hE7
 refine zag (OpY.geq (x := r1) (y := 0) ((r1 : Int) ≥ 0) rfl rfl zbi ?_)
 refine zag (zaj (v := (zac (decide ((r1 : Int) ≥ 0)))) rfl ?_)
 refine zaq (zbt ?_)
 obtain rfl := zad h
 refine ⟨[(zac (decide ((r1 : Int) ≥ 0)))], zrt, ⟨_, rfl, hL5.done, ?_⟩⟩
 exact zrt
theorem tSatisfies_w (N : Nat) (p : TProb) (texts : (List (List UInt8))) (p_v : Value) (p_v1 : Value) (p_v2 : Value) (p_v3 : Value) (p_v4 : Value) (texts_v : Value) (w : World) (S : Nat → Prop) (p_h : Rs rI (vH w S [] w) p_v p.Min) (p_h1 : Rs rI (vH w S [] w) p_v1 p.Max) (p_h2 : Rs rTTest (vH w S [] w) p_v2 p.Tests) (p_h3 : Rs rArr2Int (vH w S [] w) p_v3 p.Same) (p_h4 : Rs rArr2Int (vH w S [] w) p_v4 p.Different) (texts_h : Rs rStr (vH w S [] w) texts_v texts) (r : Bool) (h : tSatisfies N p texts = some r) :
  Calls Try.prog 13 #[(zbq #[p_v, p_v1, p_v2, p_v3, p_v4]), texts_v] w (Ret w (fun v w' => (zac r) = v ∧ True)) := by
 unfold tSatisfies at h
 have hL : vL w w [] [] := Go.X.Loc.begin0 w
 refine calls_of (l := [(zbq #[p_v, p_v1, p_v2, p_v3, p_v4]), texts_v]) (rl := [.tmp 4]) (n := 116) Try.func13 rfl rfl rfl (zai rfl) ?_
 refine zal (zah rfl (zag (zdp (cs := [p_v, p_v1, p_v2, p_v3, p_v4]) rfl rfl hL ?_)))
 intro b1 w2 hL3 hS5
 have K4 := ks w hS5
 refine zag (zaj (v := zF) rfl ?_)
 refine zaq (zal (zal (zah rfl (zag (zae (v := texts_v) rfl ?_)))))
 have f6 := (texts_h.mono (K4 S))
 refine zag (zcf (v := texts_v) zba rfl f6 ?_)
 refine zag (zau (q := 0) zco rfl ti22 rfl rfl rfl ?_)
 refine zag (zav (v := p_v) zao rfl rfl (hL3.at 0 rfl rfl) rfl ?_)
 have f7 := (p_h.mono (K4 S))
 refine zag (zcf (v := p_v) zao rfl f7 ?_)
 refine zag (OpY.neq (x := (texts.length : Int)) (y := (p.Min.length : Int)) (((texts.length : Int) : Int) ≠ (p.Min.length : Int)) rfl rfl zbi (zaq ?_))
 refine zbj (((texts.length : Int) : Int) ≠ (p.Min.length : Int)) rfl (fun hc8 => ?_) (fun hc8 => ?_)
 ·
  replace h := ite_t hc8 h
  refine zal (zah rfl (zag (zaj (v := zF) rfl ?_)))
  refine zaq (zbt ?_)
  obtain rfl := zad h
  refine ⟨[zF], zrt, ⟨_, rfl, hL3.done, ?_⟩⟩
  exact zrt
 replace h := ite_f hc8 h
 refine zbl (zal (zal (zah rfl (zag (zae (v := texts_v) rfl ?_)))))
 refine zag (zcf (v := texts_v) zba rfl f6 ?_)
 refine zag (zae (v := (zI 0)) rfl (zaq ?_))
 obtain ⟨s10, hl10, g10⟩ := zee h
 refine zbs (fun e w' => ∃  (u : Env), (Sum.inl ()) = s10 ∧ e = upds [(1, texts_v), (2, (zam (some ⟨b1, 0, none⟩)))] u ∧ vL w w' [some b1] [zab [p_v, p_v1, p_v2, p_v3, p_v4]] ∧ Keep w.heap.size [some b1] w2 [some b1] w' ∧ True) ?_ ?_
 ·
  refine zbc ?_
  refine zbw hl10 (fun (ss : Int) (e : Env) (w' : World) => match ss with | x10 => ∃ (u : Env), e = upds [(1, texts_v), (2, (zam (some ⟨b1, 0, none⟩))), (20, texts_v), (21, (zI (texts.length : Int))), (22, (zI x10))] u ∧ vL w w' [some b1] [zab [p_v, p_v1, p_v2, p_v3, p_v4]] ∧ Keep w.heap.size [some b1] w2 [some b1] w' ∧ True) ⟨_, (zef ⟨rfl, rfl, rfl, rfl, rfl, trivial⟩), hL3, zbp, trivial⟩ ?_
  rintro x10 oo _ w10 ⟨u, rfl, hL10, K10, -⟩ h hd10
  rw [tSatisfies_b1] at h
  refine zal (zah rfl (zag (zcg (x := x10) (y := (texts.length : Int)) ((x10 : Int) < (texts.length : Int)) rfl rfl zbi ?_)))
  refine zaq (zal ?_)
  refine zbj ((x10 : Int) < (texts.length : Int)) rfl (fun hc10 => ?_) (fun hc10 => ?_)
  ·
   replace h := ite_t hc10 h
   refine zbl (zal (zbc (zal (zah rfl (zag (zae (v := (zI x10)) rfl ?_))))))
   obtain ⟨x11, n10, q11, q12, -, h⟩ := zix h
   have f10 := (f6.mono (K10 S))
   obtain ⟨b10, o10, c10, vs10, q13, q14, f11, q15⟩ := zdc f10 q12
   obtain rfl := q15
   refine zag (zby (r := rStr) (v := texts_v) (n := n10) (m := (o10 + n10 * rStr.sz)) zba ti9 rfl q13 rfl q11 q12 rfl ?_)
   refine zag (zce (v := (zS x11)) zax rfl rfl zel f11 ?_)
   refine zag (zaj (v := (zI x10)) rfl ?_)
   refine zag (zaj (v := (zS x11)) rfl ?_)
   refine zaq (zal (zal ?_))
   obtain ⟨s11, h, g11⟩ := zee h
   refine zbs (fun e w' => ∃ (x12 : Bool) (u : Env), x12 = s11 ∧ e = upds [(1, texts_v), (2, (zam (some ⟨b1, 0, none⟩))), (6, (zS x11)), (20, texts_v), (21, (zI (texts.length : Int))), (22, (zI x10)), (44, (zac x12))] u ∧ vL w w' [some b1] [zab [p_v, p_v1, p_v2, p_v3, p_v4]] ∧ Keep w.heap.size [some b1] w10 [some b1] w' ∧ True) ?_ ?_
   ·
    refine zah rfl (zag (zae (v := (zS x11)) rfl ?_))
    refine zag (zdf zax rfl ?_)
    refine zag (zau (q := 0) zco rfl ti22 rfl rfl rfl ?_)
    refine zag (zav (v := p_v) zao rfl rfl (hL10.at 0 rfl rfl) rfl ?_)
    refine zag (zae (v := (zI x10)) rfl ?_)
    obtain ⟨x13, n11, q17, q18, -, h⟩ := zix h
    have f12 := (f7.mono (K10 S))
    obtain ⟨b11, o11, c11, vs11, q19, q20, f13, q21⟩ := zdc f12 q18
    obtain rfl := q21
    refine zag (zby (r := rI) (v := p_v) (n := n11) (m := (o11 + n11 * rI.sz)) zao ti3 rfl q19 rfl q17 q18 rfl ?_)
    refine zag (zce (v := (zI x13)) zaw rfl rfl zel f13 ?_)
    refine zag (zcg (x := (x11.length : Int)) (y := x13) (((x11.length : Int) : Int) < x13) rfl rfl zbi ?_)
    refine zag (zae (v := (zac (decide (((x11.length : Int) : Int) < x13)))) rfl ?_)
    by_cases hc11 : ((x11.length : Int) : Int) < x13
    ·
     replace h := ite_t hc11 h
     refine zbg rfl rfl (zed hc11) (zbg rfl rfl (zed hc11) (zbg rfl rfl (zed hc11) (zbg rfl rfl (zed hc11) (zbg rfl rfl (zed hc11) (zbg rfl rfl (zed hc11) (zbg rfl rfl (zed hc11) (zbg rfl rfl (zed hc11) ?_)))))))
     refine zag (zbn (t := (decide (((x11.length : Int) : Int) < x13))) (v := zT) rfl (zed hc11) rfl (zaq ?_))
     obtain rfl := zad h
     refine zap ?_
     exact ⟨true, _, rfl, (zef ⟨rfl, rfl, rfl, rfl, rfl, rfl, rfl, trivial⟩), hL10, zbp, trivial⟩
    replace h := ite_f hc11 h
    refine zaz rfl rfl (zec hc11) (zae (v := (zS x11)) rfl ?_)
    refine zaz rfl rfl (zec hc11) (zdf zax rfl ?_)
    refine zaz rfl rfl (zec hc11) (zau (q := 1) zco rfl ti22 rfl rfl rfl ?_)
    refine zaz rfl rfl (zec hc11) (zav (v := p_v1) zao rfl rfl (hL10.at 0 rfl rfl) rfl ?_)
    refine zaz rfl rfl (zec hc11) (zae (v := (zI x10)) rfl ?_)
    obtain ⟨x14, n12, q23, q24, -, h⟩ := zix h
    have f14 := ((p_h1.mono (K4 S)).mono (K10 S))
    obtain ⟨b12, o12, c12, vs12, q25, q26, f15, q27⟩ := zdc f14 q24
    obtain rfl := q27
    refine zaz rfl rfl (zec hc11) (zby (r := rI) (v := p_v1) (n := n12) (m := (o12 + n12 * rI.sz)) zao ti3 rfl q25 rfl q23 q24 rfl ?_)
    refine zaz rfl rfl (zec hc11) (zce (v := (zI x14)) zaw rfl rfl zel f15 ?_)
    refine zaz rfl rfl (zec hc11) (OpY.gtr (x := (x11.length : Int)) (y := x14) (((x11.length : Int) : Int) > x14) rfl rfl zbi ?_)
    refine zag (zbh (t := (decide (((x11.length : Int) : Int) < x13))) (v := (zac (decide (((x11.length : Int) : Int) > x14)))) rfl (zec hc11) rfl (zaq ?_))
    obtain rfl := zad h
    refine zap ?_
    exact ⟨(decide (((x11.length : Int) : Int) > x14)), _, rfl, (zef ⟨rfl, rfl, rfl, rfl, rfl, rfl, rfl, trivial⟩), hL10, zbp, trivial⟩
   rintro _ w11 ⟨x12, u, rfl, rfl, hL11, K11, -⟩
   replace h := g11
   try dsimp only at h
   refine zch x12 rfl (fun hc12 => ?_) (fun hc12 => ?_)
   ·
    replace h := ite_t hc12 h
    refine zal (zah rfl (zag (zaj (v := zF) rfl ?_)))
    refine zaq (zbt ?_)
    obtain rfl := zad h
    obtain rfl := hd10 _ rfl
    replace h := g10
    try dsimp only at h
    obtain rfl := zad h
    refine ⟨[zF], zrt, ⟨_, rfl, hL11.done, ?_⟩⟩
    exact zrt
   replace h := ite_f hc12 h
   refine zbl (zal (zah rfl (zag (zae (v := (zS x11)) rfl ?_))))
   refine zag (zdf zax rfl ?_)
   refine zag (zae (v := (zI 0)) rfl (zaq ?_))
   obtain ⟨s12, hl11, g12⟩ := zee h
   refine zbs (fun e w' => ∃  (u : Env), (Sum.inl ()) = s12 ∧ e = upds [(1, texts_v), (2, (zam (some ⟨b1, 0, none⟩))), (20, texts_v), (21, (zI (texts.length : Int))), (22, (zI x10))] u ∧ vL w w' [some b1] [zab [p_v, p_v1, p_v2, p_v3, p_v4]] ∧ Keep w.heap.size [some b1] w11 [some b1] w' ∧ True) ?_ ?_
   ·
    refine zbc ?_
    refine zbw hl11 (fun (ss : Int) (e : Env) (w' : World) => match ss with | x15 => ∃ (u : Env), e = upds [(1, texts_v), (2, (zam (some ⟨b1, 0, none⟩))), (6, (zS x11)), (20, texts_v), (21, (zI (texts.length : Int))), (22, (zI x10)), (46, (zI (x11.length : Int))), (47, (zI x15))] u ∧ vL w w' [some b1] [zab [p_v, p_v1, p_v2, p_v3, p_v4]] ∧ Keep w.heap.size [some b1] w11 [some b1] w' ∧ True) ⟨_, (zef ⟨rfl, rfl, rfl, rfl, rfl, rfl, rfl, rfl, trivial⟩), hL11, zbp, trivial⟩ ?_
    rintro x15 oo _ w12 ⟨u, rfl, hL12, K12, -⟩ h hd11
    rw [tSatisfies_b2] at h
    refine zal (zah rfl (zag (zcg (x := x15) (y := (x11.length : Int)) ((x15 : Int) < (x11.length : Int)) rfl rfl zbi ?_)))
    refine zaq (zal ?_)
    refine zbj ((x15 : Int) < (x11.length : Int)) rfl (fun hc13 => ?_) (fun hc13 => ?_)
    ·
     replace h := ite_t hc13 h
     refine zbl (zal (zbc (zal (zah rfl (zag (zae (v := (zI x15)) rfl ?_))))))
     refine zag (zaj (v := (zI x15)) rfl ?_)
     refine zaq (zal ?_)
     obtain ⟨s13, h, g13⟩ := zee h
     refine zbs (fun e w' => ∃ (x16 : Bool) (u : Env), x16 = s13 ∧ e = upds [(1, texts_v), (2, (zam (some ⟨b1, 0, none⟩))), (6, (zS x11)), (20, texts_v), (21, (zI (texts.length : Int))), (22, (zI x10)), (46, (zI (x11.length : Int))), (47, (zI x15)), (59, (zac x16))] u ∧ vL w w' [some b1] [zab [p_v, p_v1, p_v2, p_v3, p_v4]] ∧ Keep w.heap.size [some b1] w12 [some b1] w' ∧ True) ?_ ?_
     ·
      refine zah rfl (zag (zae (v := (zS x11)) rfl ?_))
      refine zag (zae (v := (zI x15)) rfl ?_)
      obtain ⟨x17, n13, q29, q30, -, h⟩ := zix h
      refine zag (zda (xs := x11) (i := x15) (n := n13) (a := x17) zax rfl rfl q29 q30 ?_)
      refine zag (zcg (x := (UInt8.toNat x17 : Int)) (y := 32) (((UInt8.toNat x17 : Int) : Int) < 32) rfl rfl zbi ?_)
      refine zag (zae (v := (zac (decide (((UInt8.toNat x17 : Int) : Int) < 32)))) rfl ?_)
      by_cases hc14 : ((UInt8.toNat x17 : Int) : Int) < 32
      ·
       replace h := ite_t hc14 h
       refine zbg rfl rfl (zed hc14) (zbg rfl rfl (zed hc14) (zbg rfl rfl (zed hc14) (zbg rfl rfl (zed hc14) ?_)))
       refine zag (zbn (t := (decide (((UInt8.toNat x17 : Int) : Int) < 32))) (v := zT) rfl (zed hc14) rfl (zaq ?_))
       obtain rfl := zad h
       refine zap ?_
       exact ⟨true, _, rfl, (zef ⟨rfl, rfl, rfl, rfl, rfl, rfl, rfl, rfl, rfl, trivial⟩), hL12, zbp, trivial⟩
      replace h := ite_f hc14 h
      refine zaz rfl rfl (zec hc14) (zae (v := (zS x11)) rfl ?_)
      refine zaz rfl rfl (zec hc14) (zae (v := (zI x15)) rfl ?_)
      obtain ⟨x18, n14, q32, q33, -, h⟩ := zix h
      refine zaz rfl rfl (zec hc14) (zda (xs := x11) (i := x15) (n := n14) (a := x18) zax rfl rfl q32 q33 ?_)
      refine zaz rfl rfl (zec hc14) (OpY.gtr (x := (UInt8.toNat x18 : Int)) (y := 126) (((UInt8.toNat x18 : Int) : Int) > 126) rfl rfl zbi ?_)
      refine zag (zbh (t := (decide (((UInt8.toNat x17 : Int) : Int) < 32))) (v := (zac (decide (((UInt8.toNat x18 : Int) : Int) > 126)))) rfl (zec hc14) rfl (zaq ?_))
      obtain rfl := zad h
      refine zap ?_
      exact ⟨(decide (((UInt8.toNat x18 : Int) : Int) > 126)), _, rfl, (zef ⟨rfl, rfl, rfl, rfl, rfl, rfl, rfl, rfl, rfl, trivial⟩), hL12, zbp, trivial⟩
     rintro _ w13 ⟨x16, u, rfl, rfl, hL13, K13, -⟩
     replace h := g13
     try dsimp only at h
     refine zch x16 rfl (fun hc15 => ?_) (fun hc15 => ?_)
     ·
      replace h := ite_t hc15 h
      refine zal (zah rfl (zag (zaj (v := zF) rfl ?_)))
      refine zaq (zbt ?_)
      obtain rfl := zad h
      obtain rfl := hd11 _ rfl
      replace h := g12
      try dsimp only at h
      obtain rfl := zad h
      obtain rfl := hd10 _ rfl
      replace h := g10
      try dsimp only at h
      obtain rfl := zad h
      refine ⟨[zF], zrt, ⟨_, rfl, hL13.done, ?_⟩⟩
      exact zrt
     replace h := ite_f hc15 h
     refine zbl (zbf (zah rfl (zag (zbx (x := x15) (y := 1) (z := (iw (x15 + 1))) rfl rfl rfl ?_))))
     refine zag (zae (v := (zI (iw (x15 + 1)))) rfl (zaq ?_))
     obtain rfl := zad h
     refine zap ⟨(iw (x15 + 1)), rfl, ?_⟩
     exact ⟨_, (zef ⟨rfl, rfl, rfl, rfl, rfl, rfl, rfl, rfl, trivial⟩), hL13, (zak K12 K13), trivial⟩
    replace h := ite_f hc13 h
    refine zca rfl ?_
    obtain rfl := zad h
    obtain rfl := hd11 _ rfl
    replace h := g12
    try dsimp only at h
    refine zap ?_
    exact ⟨_, rfl, (zef ⟨rfl, rfl, rfl, rfl, rfl, trivial⟩), hL12, K12, trivial⟩
   rintro _ w14 ⟨u, rfl, rfl, hL14, K14, -⟩
   replace h := g12
   try dsimp only at h
   refine zbf (zah rfl (zag (zbx (x := x10) (y := 1) (z := (iw (x10 + 1))) rfl rfl rfl ?_)))
   refine zag (zae (v := (zI (iw (x10 + 1)))) rfl (zaq ?_))
   obtain rfl := zad h
   refine zap ⟨(iw (x10 + 1)), rfl, ?_⟩
   exact ⟨_, (zef ⟨rfl, rfl, rfl, rfl, rfl, trivial⟩), hL14, (zak (zak K10 K11) K14), trivial⟩
  replace h := ite_f hc10 h
  refine zca rfl ?_
  obtain rfl := zad h
  obtain rfl := hd10 _ rfl
  replace h := g10
  try dsimp only at h
  refine zap ?_
  exact ⟨_, rfl, (zef ⟨rfl, rfl, trivial⟩), hL10, K10, trivial⟩
 rintro _ w15 ⟨u, rfl, rfl, hL15, K15, -⟩
 replace h := g10
 try dsimp only at h
 refine zal (zal (zah rfl (zag (zau (q := 2) zco rfl ti23 rfl rfl rfl ?_))))
 refine zag (zav (v := p_v2) zbk rfl rfl (hL15.at 0 rfl rfl) rfl ?_)
 have f16 := ((p_h2.mono (K4 S)).mono (K15 S))
 refine zag (zcf (v := p_v2) zbk rfl f16 ?_)
 refine zag (zae (v := (zI 0)) rfl (zaq ?_))
 obtain ⟨s14, hl12, g14⟩ := zee h
 refine zbs (fun e w' => ∃  (u : Env), (Sum.inl ()) = s14 ∧ e = upds [(1, texts_v), (2, (zam (some ⟨b1, 0, none⟩)))] u ∧ vL w w' [some b1] [zab [p_v, p_v1, p_v2, p_v3, p_v4]] ∧ Keep w.heap.size [some b1] w15 [some b1] w' ∧ True) ?_ ?_
 ·
  refine zbc ?_
  refine zbw hl12 (fun (ss : Int) (e : Env) (w' : World) => match ss with | x19 => ∃ (u : Env), e = upds [(1, texts_v), (2, (zam (some ⟨b1, 0, none⟩))), (63, p_v2), (64, (zI (p.Tests.length : Int))), (65, (zI x19))] u ∧ vL w w' [some b1] [zab [p_v, p_v1, p_v2, p_v3, p_v4]] ∧ Keep w.heap.size [some b1] w15 [some b1] w' ∧ True) ⟨_, (zef ⟨rfl, rfl, rfl, rfl, rfl, trivial⟩), hL15, zbp, trivial⟩ ?_
  rintro x19 oo _ w16 ⟨u, rfl, hL16, K16, -⟩ h hd12
  rw [tSatisfies_b3] at h
  refine zal (zah rfl (zag (zcg (x := x19) (y := (p.Tests.length : Int)) ((x19 : Int) < (p.Tests.length : Int)) rfl rfl zbi ?_)))
  refine zaq (zal ?_)
  refine zbj ((x19 : Int) < (p.Tests.length : Int)) rfl (fun hc16 => ?_) (fun hc16 => ?_)
  ·
   replace h := ite_t hc16 h
   refine zbl (zal (zbc (zal (zah rfl ?_))))
   obtain ⟨x20, n15, q35, q36, -, h⟩ := zix h
   have f17 := (f16.mono (K16 S))
   obtain ⟨b13, o13, c13, vs13, q37, q38, f18, q39⟩ := zdc f17 q36
   obtain ⟨rfl, -⟩ := rTTest_open q39
   refine zag (zby (r := rTTest) (v := p_v2) (n := n15) (m := (o13 + n15 * rTTest.sz)) zbk ti44 rfl q37 rfl q35 q36 rfl ?_)
   refine zag (OpY.ldRoA (vs := [(zI x20.Var), (zI x20.Kind), (zac x20.Negated), (zS x20.Text)]) zbd rfl ti44 rfl rfl zel f18 ?_)
   refine zag (zdu (cs := [(zI 0), (zI 0), zF, (zaf (s8 []))]) ti44 rfl hL16 ?_)
   intro b14 w17 hL17 hS10
   have K17 := ks w hS10
   refine zdj (zdg (vs := [(zI x20.Var), (zI x20.Kind), (zac x20.Negated), (zS x20.Text)]) ti44 rfl rfl rfl rfl (zei rfl (zei rfl (zei rfl (zei rfl zeu)))) hL17 0 rfl rfl (zai rfl) ?_)
   intro w18 (hL18 : vL w w18 [some b14, some b1] [zab [(zI x20.Var), (zI x20.Kind), (zac x20.Negated), (zS x20.Text)], zab [p_v, p_v1, p_v2, p_v3, p_v4]]) hS11
   have K18 := ks w hS11
   refine zaq (zal ?_)
   obtain ⟨x21, n16, q41, q42, -, h⟩ := zix h
   have f19 := ((((f6.mono (K15 S)).mono (K16 S)).mono (K17 S)).mono (K18 S))
   obtain ⟨b15, o14, c14, vs14, q43, q44, f20, q45⟩ := zdc f19 q42
   obtain rfl := q45
   refine zcy 6 [] [] (fun W1 => [.det (zbq #[(zI x20.Var), (zI x20.Kind), (zac x20.Negated), (zS x20.Text)]), .det texts_v, .det (zam (some ⟨b14, 0, none⟩)), .det (zI x20.Var), .det (zam (some ⟨b15, (o14 + n16 * rStr.sz), none⟩)), .det (zS x21)]) mixed rfl rfl rfl (fun _ => rfl) (fun _ => rfl) ?_ ?_
   ·
    intro W1 _
    exact trivial
   intro w19 hE10
   obtain ⟨hL19, K19⟩ := zl hL18 hE10
   refine zay (fun _ hE11 => zar (zct (vs := [(zI x20.Var), (zI x20.Kind), (zac x20.Negated), (zS x20.Text)]) zbd rfl ti44 rfl ((hL19.ext hE11).at 0 rfl rfl) rfl rfl (er rfl))) ?_
   refine zay (fun _ _ => zar (zae rfl (er rfl))) ?_
   refine zay (fun _ _ => zar (zau zbd rfl ti3 rfl rfl rfl (er rfl))) ?_
   refine zay (fun _ hE14 => zar (zav zaw rfl rfl ((hL19.ext hE14).at 0 rfl rfl) rfl (er rfl))) ?_
   refine zay (fun _ _ => zar (zby (r := rStr) (v := texts_v) (n := n16) (m := (o14 + n16 * rStr.sz)) zba ti9 rfl q43 rfl q41 q42 rfl (er rfl))) ?_
   refine zay (fun _ hE16 => zar (zce zax rfl rfl zel (zcw ((ke hL19 hE16) S) (zcw (K19 S) f20)) (er rfl))) ?_
   refine zdh ?_
   rintro w26 Z25 hE17 hZ16 ⟨-⟩ ap10
   have hB10 := @zhb w19 Z25
   obtain ⟨hL22, K21⟩ := zl hL19 hE17
   obtain ⟨r10, q46, h⟩ := zee h
   refine zag (zbz en28 rfl rfl (pPasses_w N x20 x21 _ Any r10 q46) ?_)
   rintro _ w27 hE18 ⟨rfl, -⟩
   obtain ⟨hL23, K22⟩ := zl hL22 hE18
   refine zag (OpY.not (x := r10) rfl (zaq ?_))
   refine zch (!r10) rfl (fun hc17 => ?_) (fun hc17 => ?_)
   ·
    replace h := ite_t hc17 h
    refine zal (zah rfl (zag (zaj (v := zF) rfl ?_)))
    refine zaq (zbt ?_)
    obtain rfl := zad h
    obtain rfl := hd12 _ rfl
    replace h := g14
    try dsimp only at h
    obtain rfl := zad h
    refine ⟨[zF], zrt, ⟨_, rfl, hL23.done, ?_⟩⟩
    exact zrt
   replace h := ite_f hc17 h
   refine zbl (zbf (zah rfl (zag (zbx (x := x19) (y := 1) (z := (iw (x19 + 1))) rfl rfl rfl ?_))))
   refine zag (zae (v := (zI (iw (x19 + 1)))) rfl (zaq ?_))
   have hp10 := hL23.pick [1] rfl rfl rfl
   have hL24 : vL w w27 [some b1] [zab [p_v, p_v1, p_v2, p_v3, p_v4]] := hp10.1
   have K23 := ks w hp10.2
   obtain rfl := zad h
   refine zap ⟨(iw (x19 + 1)), rfl, ?_⟩
   exact ⟨_, (zef ⟨rfl, rfl, rfl, rfl, rfl, trivial⟩), hL24, (zak (zak (zak (zak (zak (zak K16 K17) K18) K19) K21) K22) K23), trivial⟩
  replace h := ite_f hc16 h
  refine zca rfl ?_
  obtain rfl := zad h
  obtain rfl := hd12 _ rfl
  replace h := g14
  try dsimp only at h
  refine zap ?_
  exact ⟨_, rfl, (zef ⟨rfl, rfl, trivial⟩), hL16, K16, trivial⟩
 rintro _ w28 ⟨u, rfl, rfl, hL25, K24, -⟩
 replace h := g14
 try dsimp only at h
 refine zal (zal (zah rfl (zag (zau (q := 3) zco rfl ti24 rfl rfl rfl ?_))))
 refine zag (zav (v := p_v3) zbr rfl rfl (hL25.at 0 rfl rfl) rfl ?_)
 have f21 := (((p_h3.mono (K4 S)).mono (K15 S)).mono (K24 S))
 refine zag (zcf (v := p_v3) zbr rfl f21 ?_)
 refine zag (zae (v := (zI 0)) rfl (zaq ?_))
 obtain ⟨s15, hl13, g15⟩ := zee h
 refine zbs (fun e w' => ∃  (u : Env), (Sum.inl ()) = s15 ∧ e = upds [(1, texts_v), (2, (zam (some ⟨b1, 0, none⟩)))] u ∧ vL w w' [some b1] [zab [p_v, p_v1, p_v2, p_v3, p_v4]] ∧ Keep w.heap.size [some b1] w28 [some b1] w' ∧ True) ?_ ?_
 ·
  refine zbc ?_
  refine zbw hl13 (fun (ss : Int) (e : Env) (w' : World) => match ss with | x22 => ∃ (u : Env), e = upds [(1, texts_v), (2, (zam (some ⟨b1, 0, none⟩))), (79, p_v3), (80, (zI (p.Same.length : Int))), (81, (zI x22))] u ∧ vL w w' [some b1] [zab [p_v, p_v1, p_v2, p_v3, p_v4]] ∧ Keep w.heap.size [some b1] w28 [some b1] w' ∧ True) ⟨_, (zef ⟨rfl, rfl, rfl, rfl, rfl, trivial⟩), hL25, zbp, trivial⟩ ?_
  rintro x22 oo _ w29 ⟨u, rfl, hL26, K25, -⟩ h hd13
  rw [tSatisfies_b4] at h
  refine zal (zah rfl (zag (zcg (x := x22) (y := (p.Same.length : Int)) ((x22 : Int) < (p.Same.length : Int)) rfl rfl zbi ?_)))
  refine zaq (zal ?_)
  refine zbj ((x22 : Int) < (p.Same.length : Int)) rfl (fun hc18 => ?_) (fun hc18 => ?_)
  ·
   replace h := ite_t hc18 h
   refine zbl (zal (zbc (zal (zah rfl ?_))))
   obtain ⟨x23, n17, q48, q49, -, h⟩ := zix h
   have f22 := (f21.mono (K25 S))
   obtain ⟨b16, o15, c15, vs15, q50, q51, f23, q52⟩ := zdc f22 q49
   obtain ⟨rfl, -⟩ := rArr2Int_open q52
   refine zag (zby (r := rArr2Int) (v := p_v3) (n := n17) (m := (o15 + n17 * rArr2Int.sz)) zbr ti45 rfl q50 rfl q48 q49 rfl ?_)
   refine zag (OpY.ldRoA (vs := [(zI x23.e0), (zI x23.e1)]) zcc rfl ti45 rfl rfl zel f23 ?_)
   refine zag (zdu (cs := [(zI 0), (zI 0)]) ti45 rfl hL26 ?_)
   intro b17 w30 hL27 hS12
   have K26 := ks w hS12
   refine zdj (zdg (vs := [(zI x23.e0), (zI x23.e1)]) ti45 rfl rfl rfl rfl (zei rfl (zei rfl zeu)) hL27 0 rfl rfl (zai rfl) ?_)
   intro w31 (hL28 : vL w w31 [some b17, some b1] [zab [(zI x23.e0), (zI x23.e1)], zab [p_v, p_v1, p_v2, p_v3, p_v4]]) hS13
   have K27 := ks w hS13
   refine zaq (zal ?_)
   obtain ⟨x24, n18, q54, q55, -, h⟩ := zix h
   have f24 := (((((f6.mono (K15 S)).mono (K24 S)).mono (K25 S)).mono (K26 S)).mono (K27 S))
   obtain ⟨b18, o16, c16, vs16, q56, q57, f25, q58⟩ := zdc f24 q55
   obtain rfl := q58
   obtain ⟨x25, n19, q60, q61, -, h⟩ := zix h
   obtain ⟨b19, o17, c17, vs17, q62, q63, f26, q64⟩ := zdc f24 q61
   obtain rfl := q64
   refine zcy 10 [] [] (fun W1 => [.det texts_v, .det (zam (some ⟨b17, 0, none⟩)), .det (zI x23.e0), .det (zam (some ⟨b18, (o16 + n18 * rStr.sz), none⟩)), .det (zS x24), .det texts_v, .det (zam (some ⟨b17, 1, none⟩)), .det (zI x23.e1), .det (zam (some ⟨b19, (o17 + n19 * rStr.sz), none⟩)), .det (zS x25)]) mixed rfl rfl rfl (fun _ => rfl) (fun _ => rfl) ?_ ?_
   ·
    intro W1 _
    exact trivial
   intro w32 hE19
   obtain ⟨hL29, K28⟩ := zl hL28 hE19
   refine zay (fun _ _ => zar (zae rfl (er rfl))) ?_
   refine zay (fun _ _ => zar (zcs (i := 0) (q := 0) zcc ti3 rfl rfl (by decide) rfl (er rfl))) ?_
   refine zay (fun _ hE22 => zar (zav zaw rfl rfl ((hL29.ext hE22).at 0 rfl rfl) rfl (er rfl))) ?_
   refine zay (fun _ _ => zar (zby (r := rStr) (v := texts_v) (n := n18) (m := (o16 + n18 * rStr.sz)) zba ti9 rfl q56 rfl q54 q55 rfl (er rfl))) ?_
   refine zay (fun _ hE24 => zar (zce zax rfl rfl zel (zcw ((ke hL29 hE24) S) (zcw (K28 S) f25)) (er rfl))) ?_
   refine zay (fun _ _ => zar (zae rfl (er rfl))) ?_
   refine zay (fun _ _ => zar (zcs (i := 1) (q := 1) zcc ti3 rfl rfl (by decide) rfl (er rfl))) ?_
   refine zay (fun _ hE27 => zar (zav zaw rfl rfl ((hL29.ext hE27).at 0 rfl rfl) rfl (er rfl))) ?_
   refine zay (fun _ _ => zar (zby (r := rStr) (v := texts_v) (n := n19) (m := (o17 + n19 * rStr.sz)) zba ti9 rfl q62 rfl q60 q61 rfl (er rfl))) ?_
   refine zay (fun _ hE29 => zar (zce zax rfl rfl zel (zcw ((ke hL29 hE29) S) (zcw (K28 S) f26)) (er rfl))) ?_
   refine zdh ?_
   rintro w43 Z36 hE30 hZ27 ⟨-⟩ ap11
   have hB11 := @zhb w32 Z36
   obtain ⟨hL32, K31⟩ := zl hL29 hE30
   refine zag (OpY.sNeq (x := x24) (y := x25) rfl rfl (zaq ?_))
   refine zbj (¬ x24 = x25) rfl (fun hc19 => ?_) (fun hc19 => ?_)
   ·
    replace h := ite_t hc19 h
    refine zal (zah rfl (zag (zaj (v := zF) rfl ?_)))
    refine zaq (zbt ?_)
    obtain rfl := zad h
    obtain rfl := hd13 _ rfl
    replace h := g15
    try dsimp only at h
    obtain rfl := zad h
    refine ⟨[zF], zrt, ⟨_, rfl, hL32.done, ?_⟩⟩
    exact zrt
   replace h := ite_f hc19 h
   refine zbl (zbf (zah rfl (zag (zbx (x := x22) (y := 1) (z := (iw (x22 + 1))) rfl rfl rfl ?_))))
   refine zag (zae (v := (zI (iw (x22 + 1)))) rfl (zaq ?_))
   have hp11 := hL32.pick [1] rfl rfl rfl
   have hL33 : vL w w43 [some b1] [zab [p_v, p_v1, p_v2, p_v3, p_v4]] := hp11.1
   have K32 := ks w hp11.2
   obtain rfl := zad h
   refine zap ⟨(iw (x22 + 1)), rfl, ?_⟩
   exact ⟨_, (zef ⟨rfl, rfl, rfl, rfl, rfl, trivial⟩), hL33, (zak (zak (zak (zak (zak K25 K26) K27) K28) K31) K32), trivial⟩
  replace h := ite_f hc18 h
  refine zca rfl ?_
  obtain rfl := zad h
  obtain rfl := hd13 _ rfl
  replace h := g15
  try dsimp only at h
  refine zap ?_
  exact ⟨_, rfl, (zef ⟨rfl, rfl, trivial⟩), hL26, K25, trivial⟩
 rintro _ w44 ⟨u, rfl, rfl, hL34, K33, -⟩
 replace h := g15
 try dsimp only at h
 refine zal (zal (zah rfl (zag (zau (q := 4) zco rfl ti24 rfl rfl rfl ?_))))
 refine zag (zav (v := p_v4) zbr rfl rfl (hL34.at 0 rfl rfl) rfl ?_)
 have f27 := ((((p_h4.mono (K4 S)).mono (K15 S)).mono (K24 S)).mono (K33 S))
 refine zag (zcf (v := p_v4) zbr rfl f27 ?_)
 refine zag (zae (v := (zI 0)) rfl (zaq ?_))
 obtain ⟨s16, hl14, g16⟩ := zee h
 refine zbs (fun e w' => ∃  (u : Env), (Sum.inl ()) = s16 ∧ e = upds [] u ∧ vL w w' [] [] ∧ Keep w.heap.size [some b1] w44 [] w' ∧ True) ?_ ?_
 ·
  refine zbc ?_
  have hp12 := hL34.pick [] rfl rfl rfl
  have hL35 : vL w w44 [] [] := hp12.1
  have K34 := ks w hp12.2
  refine zbw hl14 (fun (ss : Int) (e : Env) (w' : World) => match ss with | x26 => ∃ (u : Env), e = upds [(1, texts_v), (98, p_v4), (99, (zI (p.Different.length : Int))), (100, (zI x26))] u ∧ vL w w' [] [] ∧ Keep w.heap.size [some b1] w44 [] w' ∧ True) ⟨_, (zef ⟨rfl, rfl, rfl, rfl, trivial⟩), hL35, K34, trivial⟩ ?_
  rintro x26 oo _ w45 ⟨u, rfl, hL36, K35, -⟩ h hd14
  rw [tSatisfies_b5] at h
  refine zal (zah rfl (zag (zcg (x := x26) (y := (p.Different.length : Int)) ((x26 : Int) < (p.Different.length : Int)) rfl rfl zbi ?_)))
  refine zaq (zal ?_)
  refine zbj ((x26 : Int) < (p.Different.length : Int)) rfl (fun hc20 => ?_) (fun hc20 => ?_)
  ·
   replace h := ite_t hc20 h
   refine zbl (zal (zbc (zal (zah rfl ?_))))
   obtain ⟨x27, n20, q66, q67, -, h⟩ := zix h
   have f28 := (f27.mono (K35 S))
   obtain ⟨b20, o18, c18, vs18, q68, q69, f29, q70⟩ := zdc f28 q67
   obtain ⟨rfl, -⟩ := rArr2Int_open q70
   refine zag (zby (r := rArr2Int) (v := p_v4) (n := n20) (m := (o18 + n20 * rArr2Int.sz)) zbr ti45 rfl q68 rfl q66 q67 rfl ?_)
   refine zag (OpY.ldRoA (vs := [(zI x27.e0), (zI x27.e1)]) zcc rfl ti45 rfl rfl zel f29 ?_)
   refine zag (zdu (cs := [(zI 0), (zI 0)]) ti45 rfl hL36 ?_)
   intro b21 w46 hL37 hS14
   have K36 := ks w hS14
   refine zdj (zdg (vs := [(zI x27.e0), (zI x27.e1)]) ti45 rfl rfl rfl rfl (zei rfl (zei rfl zeu)) hL37 0 rfl rfl (zai rfl) ?_)
   intro w47 (hL38 : vL w w47 [some b21] [zab [(zI x27.e0), (zI x27.e1)]]) hS15
   have K37 := ks w hS15
   refine zaq (zal ?_)
   obtain ⟨x28, n21, q72, q73, -, h⟩ := zix h
   have f30 := ((((((f6.mono (K15 S)).mono (K24 S)).mono (K33 S)).mono (K35 S)).mono (K36 S)).mono (K37 S))
   obtain ⟨b22, o19, c19, vs19, q74, q75, f31, q76⟩ := zdc f30 q73
   obtain rfl := q76
   obtain ⟨x29, n22, q78, q79, -, h⟩ := zix h
   obtain ⟨b23, o20, c20, vs20, q80, q81, f32, q82⟩ := zdc f30 q79
   obtain rfl := q82
   refine zcy 10 [] [] (fun W1 => [.det texts_v, .det (zam (some ⟨b21, 0, none⟩)), .det (zI x27.e0), .det (zam (some ⟨b22, (o19 + n21 * rStr.sz), none⟩)), .det (zS x28), .det texts_v, .det (zam (some ⟨b21, 1, none⟩)), .det (zI x27.e1), .det (zam (some ⟨b23, (o20 + n22 * rStr.sz), none⟩)), .det (zS x29)]) mixed rfl rfl rfl (fun _ => rfl) (fun _ => rfl) ?_ ?_
   ·
    intro W1 _
    exact trivial
   intro w48 hE31
   obtain ⟨hL39, K38⟩ := zl hL38 hE31
   refine zay (fun _ _ => zar (zae rfl (er rfl))) ?_
   refine zay (fun _ _ => zar (zcs (i := 0) (q := 0) zcc ti3 rfl rfl (by decide) rfl (er rfl))) ?_
   refine zay (fun _ hE34 => zar (zav zaw rfl rfl ((hL39.ext hE34).at 0 rfl rfl) rfl (er rfl))) ?_
   refine zay (fun _ _ => zar (zby (r := rStr) (v := texts_v) (n := n21) (m := (o19 + n21 * rStr.sz)) zba ti9 rfl q74 rfl q72 q73 rfl (er rfl))) ?_
   refine zay (fun _ hE36 => zar (zce zax rfl rfl zel (zcw ((ke hL39 hE36) S) (zcw (K38 S) f31)) (er rfl))) ?_
   refine zay (fun _ _ => zar (zae rfl (er rfl))) ?_
   refine zay (fun _ _ => zar (zcs (i := 1) (q := 1) zcc ti3 rfl rfl (by decide) rfl (er rfl))) ?_
   refine zay (fun _ hE39 => zar (zav zaw rfl rfl ((hL39.ext hE39).at 0 rfl rfl) rfl (er rfl))) ?_
   refine zay (fun _ _ => zar (zby (r := rStr) (v := texts_v) (n := n22) (m := (o20 + n22 * rStr.sz)) zba ti9 rfl q80 rfl q78 q79 rfl (er rfl))) ?_
   refine zay (fun _ hE41 => zar (zce zax rfl rfl zel (zcw ((ke hL39 hE41) S) (zcw (K38 S) f32)) (er rfl))) ?_
   refine zdh ?_
   rintro w59 Z47 hE42 hZ38 ⟨-⟩ ap12
   have hB12 := @zhb w48 Z47
   obtain ⟨hL42, K41⟩ := zl hL39 hE42
   refine zag (OpY.sEql (x := x28) (y := x29) rfl rfl (zaq ?_))
   refine zbj (x28 = x29) rfl (fun hc21 => ?_) (fun hc21 => ?_)
   ·
    replace h := ite_t hc21 h
    refine zal (zah rfl (zag (zaj (v := zF) rfl ?_)))
    refine zaq (zbt ?_)
    obtain rfl := zad h
    obtain rfl := hd14 _ rfl
    replace h := g16
    try dsimp only at h
    obtain rfl := zad h
    refine ⟨[zF], zrt, ⟨_, rfl, hL42.done, ?_⟩⟩
    exact zrt
   replace h := ite_f hc21 h
   refine zbl (zbf (zah rfl (zag (zbx (x := x26) (y := 1) (z := (iw (x26 + 1))) rfl rfl rfl ?_))))
   refine zag (zae (v := (zI (iw (x26 + 1)))) rfl (zaq ?_))
   have hp13 := hL42.pick [] rfl rfl rfl
   have hL43 : vL w w59 [] [] := hp13.1
   have K42 := ks w hp13.2
   obtain rfl := zad h
   refine zap ⟨(iw (x26 + 1)), rfl, ?_⟩
   exact ⟨_, (zef ⟨rfl, rfl, rfl, rfl, trivial⟩), hL43, (zak (zak (zak (zak (zak K35 K36) K37) K38) K41) K42), trivial⟩
  replace h := ite_f hc20 h
  refine zca rfl ?_
  obtain rfl := zad h
  obtain rfl := hd14 _ rfl
  replace h := g16
  try dsimp only at h
  refine zap ?_
  exact ⟨_, rfl, (zef trivial), hL36, K35, trivial⟩
 rintro _ w60 ⟨u, rfl, rfl, hL44, K43, -⟩
 replace h := g16
 try dsimp only at h
 refine zal (zah rfl (zag (zaj (v := zT) rfl ?_)))
 refine zaq (zbt ?_)
 obtain rfl := zad h
 refine ⟨[zT], zrt, ⟨_, rfl, hL44.done, ?_⟩⟩
 exact zrt
theorem tclasses_w (N : Nat) (p : TProb) (p_v : Value) (p_v1 : Value) (p_v2 : Value) (p_v3 : Value) (p_v4 : Value) (w : World) (S : Nat → Prop) (p_h : Rs rI (vH w S [] w) p_v p.Min) (p_h1 : Rs rI (vH w S [] w) p_v1 p.Max) (p_h2 : Rs rTTest (vH w S [] w) p_v2 p.Tests) (p_h3 : Rs rArr2Int (vH w S [] w) p_v3 p.Same) (p_h4 : Rs rArr2Int (vH w S [] w) p_v4 p.Different) (r : ((List Int) × Int)) (h : tclasses N p = some r) :
  Calls Try.prog 40 #[(zbq #[p_v, p_v1, p_v2, p_v3, p_v4])] w (Ret w (fun v w' => ∃ (ob0 : Option Nat) (cap0 : Nat) (cs0 : List Value) (sp0 : List Value), .tuple #[(osv ob0 0 r.1.length cap0), (zI r.2)] = v ∧ NewOwn w w' [ob0] [zab ([] ++ (cs0 ++ sp0))] ∧ Els rI (vH w None [ob0] w') cs0 r.1 ∧ (cs0 ++ sp0).length = cap0 * rI.sz ∧ True)) := by
 unfold tclasses at h
 have hL : vL w w [] [] := Go.X.Loc.begin0 w
 refine calls_of (l := [(zbq #[p_v, p_v1, p_v2, p_v3, p_v4])]) (rl := [.tmp 2, .tmp 3]) (n := 94) Try.func40 rfl rfl rfl (zai rfl) ?_
 refine zal (zah rfl (zag (zdp (cs := [p_v, p_v1, p_v2, p_v3, p_v4]) rfl rfl hL ?_)))
 intro b1 w2 hL3 hS5
 have K4 := ks w hS5
 refine zag (zaj (v := zN) rfl ?_)
 refine zag (zaj (v := (zI 0)) rfl ?_)
 refine zaq (zal (zah rfl (zag (zau (q := 0) zco rfl ti22 rfl rfl rfl ?_))))
 refine zag (zav (v := p_v) zao rfl rfl (hL3.at 0 rfl rfl) rfl ?_)
 have f6 := (p_h.mono (K4 S))
 refine zag (zcf (v := p_v) zao rfl f6 ?_)
 obtain ⟨x8, q9, h⟩ := zee h
 obtain ⟨m7, q10, q11, q12, q13⟩ := mk1_some q9
 refine zag (zdl (r := rI) (H := (vH w None [some b1] w2)) (zc := [(zI 0)]) (x := 0) zao ti3 rfl rfl rfl rfl q10 q11 q12 q13 hL3 ?_)
 intro b10 w10 cs10 hE10 hc10 hL10 hS10
 have K10 := ks w hS10
 refine zag (zaj (v := (osv (some b10) 0 x8.length m7)) rfl ?_)
 refine zaq (zal (zal (zah rfl (zag (zae (v := (osv (some b10) 0 x8.length m7)) rfl ?_)))))
 have f10 := (hE10.mono (K10 None))
 refine zag (zcj (pre := []) (r := rI) (xs := x8) zao rfl (hL10.at 0 rfl rfl) f10 rfl rfl ?_)
 refine zag (zae (v := (zI 0)) rfl (zaq ?_))
 obtain ⟨s10, hl10, g10⟩ := zee h
 refine zbs (fun e w' => ∃ (least10 : (List Int)) (cs11 : List Value) (u : Env), least10 = s10 ∧ e = upds [(1, (zam (some ⟨b1, 0, none⟩))), (4, (osv (some b10) 0 x8.length m7))] u ∧ vL w w' [some b1, some b10] [zab [p_v, p_v1, p_v2, p_v3, p_v4], zab ([] ++ (cs11 ++ []))] ∧ Keep w.heap.size [some b10, some b1] w10 [some b1, some b10] w' ∧ Els rI (vH w None [some b1, some b10] w') cs11 least10 ∧ x8.length = List.length least10 ∧ (cs11 ++ []).length = m7 * rI.sz ∧ True) ?_ ?_
 ·
  refine zbc ?_
  have hp10 := hL10.pick [1, 0] rfl rfl rfl
  have hL11 : vL w w10 [some b1, some b10] [zab [p_v, p_v1, p_v2, p_v3, p_v4], zab ([] ++ (cs10 ++ []))] := hp10.1
  have K11 := ks w hp10.2
  have f11 := (f10.mono (K11 None))
  refine zbw hl10 (fun (ss : ((List Int) × Int)) (e : Env) (w' : World) => match ss with | (least11, x10) => ∃ (cs12 : List Value) (u : Env), e = upds [(1, (zam (some ⟨b1, 0, none⟩))), (4, (osv (some b10) 0 x8.length m7)), (20, (zI (x8.length : Int))), (21, (zI x10))] u ∧ vL w w' [some b1, some b10] [zab [p_v, p_v1, p_v2, p_v3, p_v4], zab ([] ++ (cs12 ++ []))] ∧ Keep w.heap.size [some b10, some b1] w10 [some b1, some b10] w' ∧ Els rI (vH w None [some b1, some b10] w') cs12 least11 ∧ x8.length = List.length least11 ∧ (cs12 ++ []).length = m7 * rI.sz ∧ True) ⟨cs10, _, (zef ⟨rfl, rfl, rfl, rfl, trivial⟩), hL11, K11, f11, rfl, hc10, trivial⟩ ?_
  rintro ⟨least11, x10⟩ oo _ w11 ⟨cs12, u, rfl, hL12, K12, hE11, hl11, hc11, -⟩ h hd10
  rw [tclasses_b1] at h
  refine zal (zah rfl (zag (zcg (x := x10) (y := (x8.length : Int)) ((x10 : Int) < (x8.length : Int)) rfl rfl zbi ?_)))
  refine zaq (zal ?_)
  refine zbj ((x10 : Int) < (x8.length : Int)) rfl (fun hc12 => ?_) (fun hc12 => ?_)
  ·
   replace h := ite_t hc12 h
   refine zbl (zal (zbc (zal (zah rfl (zag (zae (v := (zI x10)) rfl ?_))))))
   refine zag (zaj (v := (zI x10)) rfl ?_)
   refine zaq (zah rfl (zag (zae (v := (osv (some b10) 0 x8.length m7)) rfl ?_)))
   refine zag (zae (v := (zI x10)) rfl ?_)
   refine zag (zae (v := (zI x10)) rfl ?_)
   obtain ⟨x11, n10, q15, q16, q17, h⟩ := zix h
   refine zag (zbe (r := rI) (b := b10) (o := 0) (n := n10) (m := x8.length) (xs := least11) (q := (0 + n10 * rI.sz)) zao ti3 rfl hl11 rfl q15 q17 rfl ?_)
   obtain ⟨x12, n11, q19, q20, q21, h⟩ := zux h
   obtain rfl := zin q15 q19
   refine zdj (zdd (pre := []) (r := rI) (vs := [(zI x10)]) (a := x10) ti3 rfl rfl rfl rfl hL12 1 rfl rfl hE11 q17 rfl q21 ?_)
   have hl12 : x8.length = List.length x12 := by rw [q21, List.length_set]; exact hl11
   intro w12 cs13 (hL13 : vL w w12 [some b1, some b10] [zab [p_v, p_v1, p_v2, p_v3, p_v4], zab ([] ++ (cs13 ++ []))]) hS11 hE12 q22
   have hc13 : (cs13 ++ []).length = m7 * rI.sz := zhc hc11 q22
   have K13 := ks w hS11
   refine zaq (zbf (zah rfl (zag (zbx (x := x10) (y := 1) (z := (iw (x10 + 1))) rfl rfl rfl ?_))))
   refine zag (zae (v := (zI (iw (x10 + 1)))) rfl (zaq ?_))
   have f12 := (hE12.mono (K13 None))
   obtain rfl := zad h
   refine zap ⟨(x12, (iw (x10 + 1))), rfl, ?_⟩
   exact ⟨cs13, _, (zef ⟨rfl, rfl, rfl, rfl, trivial⟩), hL13, (zak K12 K13), f12, hl12, hc13, trivial⟩
  replace h := ite_f hc12 h
  refine zca rfl ?_
  obtain rfl := zad h
  obtain rfl := hd10 _ rfl
  replace h := g10
  try dsimp only at h
  refine zap ?_
  exact ⟨least11, cs12, _, rfl, (zef ⟨rfl, rfl, trivial⟩), hL12, K12, hE11, hl11, hc11, trivial⟩
 rintro _ w13 ⟨least10, cs11, u, rfl, rfl, hL14, K14, hE13, hl13, hc14, -⟩
 replace h := g10
 try dsimp only at h
 refine zal (zal (zah rfl (zag (zaj (v := zT) rfl (zaq ?_)))))
 obtain ⟨s11, hl14, g11⟩ := zee h
 refine zbs (fun e w' => ∃ (least12 : (List Int)) (cs14 : List Value) (u : Env), least12 = s11 ∧ e = upds [(4, (osv (some b10) 0 x8.length m7))] u ∧ vL w w' [some b10] [zab ([] ++ (cs14 ++ []))] ∧ Keep w.heap.size [some b1, some b10] w13 [some b10] w' ∧ Els rI (vH w None [some b10] w') cs14 least12 ∧ x8.length = List.length least12 ∧ (cs14 ++ []).length = m7 * rI.sz ∧ True) ?_ ?_
 ·
  refine zbc ?_
  refine zbw hl14 (fun (ss : ((List Int) × Bool)) (e : Env) (w' : World) => match ss with | (least13, changed10) => ∃ (cs15 : List Value) (u : Env), e = upds [(1, (zam (some ⟨b1, 0, none⟩))), (4, (osv (some b10) 0 x8.length m7)), (6, (zac changed10))] u ∧ vL w w' [some b1, some b10] [zab [p_v, p_v1, p_v2, p_v3, p_v4], zab ([] ++ (cs15 ++ []))] ∧ Keep w.heap.size [some b1, some b10] w13 [some b1, some b10] w' ∧ Els rI (vH w None [some b1, some b10] w') cs15 least13 ∧ x8.length = List.length least13 ∧ (cs15 ++ []).length = m7 * rI.sz ∧ True) ⟨cs11, _, (zef ⟨rfl, rfl, rfl, trivial⟩), hL14, zbp, hE13, hl13, hc14, trivial⟩ ?_
  rintro ⟨least13, changed10⟩ oo _ w14 ⟨cs15, u, rfl, hL15, K15, hE14, hl15, hc15, -⟩ h hd11
  rw [tclasses_b2] at h
  refine zal (zal (zah rfl (zag (zae (v := (zac changed10)) rfl (zaq ?_)))))
  refine zch changed10 rfl (fun hc16 => ?_) (fun hc16 => ?_)
  ·
   replace h := ite_t hc16 h
   refine zbl (zbc (zal (zah rfl (zag (zaj (v := zF) rfl ?_)))))
   refine zaq (zal (zah rfl (zag (zau (q := 3) zco rfl ti24 rfl rfl rfl ?_))))
   refine zag (zav (v := p_v3) zbr rfl rfl (hL15.at 0 rfl rfl) rfl ?_)
   have f13 := ((((p_h3.mono (K4 S)).mono (K10 S)).mono (K14 S)).mono (K15 S))
   refine zag (zcf (v := p_v3) zbr rfl f13 ?_)
   refine zag (zae (v := (zI 0)) rfl (zaq ?_))
   obtain ⟨s12, hl16, g12⟩ := zee h
   refine zbs (fun e w' => ∃ (least14 : (List Int)) (changed11 : Bool) (cs16 : List Value) (u : Env), (least14, changed11) = s12 ∧ e = upds [(1, (zam (some ⟨b1, 0, none⟩))), (4, (osv (some b10) 0 x8.length m7)), (6, (zac changed11))] u ∧ vL w w' [some b1, some b10] [zab [p_v, p_v1, p_v2, p_v3, p_v4], zab ([] ++ (cs16 ++ []))] ∧ Keep w.heap.size [some b1, some b10] w14 [some b1, some b10] w' ∧ Els rI (vH w None [some b1, some b10] w') cs16 least14 ∧ x8.length = List.length least14 ∧ (cs16 ++ []).length = m7 * rI.sz ∧ True) ?_ ?_
   ·
    refine zbc ?_
    refine zbw hl16 (fun (ss : ((List Int) × Bool × Int)) (e : Env) (w' : World) => match ss with | (least15, changed12, x13) => ∃ (cs17 : List Value) (u : Env), e = upds [(1, (zam (some ⟨b1, 0, none⟩))), (4, (osv (some b10) 0 x8.length m7)), (6, (zac changed12)), (31, p_v3), (32, (zI (p.Same.length : Int))), (33, (zI x13))] u ∧ vL w w' [some b1, some b10] [zab [p_v, p_v1, p_v2, p_v3, p_v4], zab ([] ++ (cs17 ++ []))] ∧ Keep w.heap.size [some b1, some b10] w14 [some b1, some b10] w' ∧ Els rI (vH w None [some b1, some b10] w') cs17 least15 ∧ x8.length = List.length least15 ∧ (cs17 ++ []).length = m7 * rI.sz ∧ True) ⟨cs15, _, (zef ⟨rfl, rfl, rfl, rfl, rfl, rfl, trivial⟩), hL15, zbp, hE14, hl15, hc15, trivial⟩ ?_
    rintro ⟨least15, changed12, x13⟩ oo _ w15 ⟨cs17, u, rfl, hL16, K16, hE15, hl17, hc17, -⟩ h hd12
    rw [tclasses_b3] at h
    refine zal (zah rfl (zag (zcg (x := x13) (y := (p.Same.length : Int)) ((x13 : Int) < (p.Same.length : Int)) rfl rfl zbi ?_)))
    refine zaq (zal ?_)
    refine zbj ((x13 : Int) < (p.Same.length : Int)) rfl (fun hc18 => ?_) (fun hc18 => ?_)
    ·
     replace h := ite_t hc18 h
     refine zbl (zal (zbc (zal (zah rfl ?_))))
     obtain ⟨x14, n12, q24, q25, -, h⟩ := zix h
     have f14 := (f13.mono (K16 S))
     obtain ⟨b11, o10, c10, vs10, q26, q27, f15, q28⟩ := zdc f14 q25
     obtain ⟨rfl, -⟩ := rArr2Int_open q28
     refine zag (zby (r := rArr2Int) (v := p_v3) (n := n12) (m := (o10 + n12 * rArr2Int.sz)) zbr ti45 rfl q26 rfl q24 q25 rfl ?_)
     refine zag (OpY.ldRoA (vs := [(zI x14.e0), (zI x14.e1)]) zcc rfl ti45 rfl rfl zel f15 ?_)
     refine zag (zdu (cs := [(zI 0), (zI 0)]) ti45 rfl hL16 ?_)
     intro b12 w16 hL17 hS12
     have K17 := ks w hS12
     refine zdj (zdg (vs := [(zI x14.e0), (zI x14.e1)]) ti45 rfl rfl rfl rfl (zei rfl (zei rfl zeu)) hL17 0 rfl rfl (zai rfl) ?_)
     intro w17 (hL18 : vL w w17 [some b12, some b1, some b10] [zab [(zI x14.e0), (zI x14.e1)], zab [p_v, p_v1, p_v2, p_v3, p_v4], zab ([] ++ (cs17 ++ []))]) hS13
     have K18 := ks w hS13
     refine zaq (zal ?_)
     obtain ⟨x15, n13, q30, q31, q32, h⟩ := zix h
     have f16 := ((hE15.mono (K17 None)).mono (K18 None))
     obtain ⟨vs11, q33, q34, q35⟩ := zeo (pre := []) (sp := []) f16 q31
     obtain rfl := q34
     obtain ⟨x16, n14, q37, q38, q39, h⟩ := zix h
     obtain ⟨vs12, q40, q41, q42⟩ := zeo (pre := []) (sp := []) f16 q38
     obtain rfl := q41
     refine zcy 11 [] [] (fun W1 => [.det (osv (some b10) 0 x8.length m7), .det (zam (some ⟨b12, 0, none⟩)), .det (zI x14.e0), .det (zam (some ⟨b10, (0 + n13 * rI.sz), none⟩)), .det (zI x15), .det (osv (some b10) 0 x8.length m7), .det (zam (some ⟨b12, 1, none⟩)), .det (zI x14.e1), .det (zam (some ⟨b10, (0 + n14 * rI.sz), none⟩)), .det (zI x16), .det (zI x15)]) mixed rfl rfl rfl (fun _ => rfl) (fun _ => rfl) ?_ ?_
     ·
      intro W1 _
      exact trivial
     intro w18 hE16
     obtain ⟨hL19, K19⟩ := zl hL18 hE16
     refine zay (fun _ _ => zar (zae rfl (er rfl))) ?_
     refine zay (fun _ _ => zar (zcs (i := 0) (q := 0) zcc ti3 rfl rfl (by decide) rfl (er rfl))) ?_
     refine zay (fun _ hE19 => zar (zav zaw rfl rfl ((hL19.ext hE19).at 0 rfl rfl) rfl (er rfl))) ?_
     refine zay (fun _ _ => zar (zbe (r := rI) (b := b10) (o := 0) (n := n13) (m := x8.length) (xs := least15) (q := (0 + n13 * rI.sz)) zao ti3 rfl hl17 rfl q30 q32 rfl (er rfl))) ?_
     refine zay (fun _ hE21 => zar (zbu zaw rfl rfl ((hL19.ext hE21).at 2 rfl rfl) q35 (er rfl))) ?_
     refine zay (fun _ _ => zar (zae rfl (er rfl))) ?_
     refine zay (fun _ _ => zar (zcs (i := 1) (q := 1) zcc ti3 rfl rfl (by decide) rfl (er rfl))) ?_
     refine zay (fun _ hE24 => zar (zav zaw rfl rfl ((hL19.ext hE24).at 0 rfl rfl) rfl (er rfl))) ?_
     refine zay (fun _ _ => zar (zbe (r := rI) (b := b10) (o := 0) (n := n14) (m := x8.length) (xs := least15) (q := (0 + n14 * rI.sz)) zao ti3 rfl hl17 rfl q37 q39 rfl (er rfl))) ?_
     refine zay (fun _ hE26 => zar (zbu zaw rfl rfl ((hL19.ext hE26).at 2 rfl rfl) q42 (er rfl))) ?_
     refine zay (fun _ _ => zar (zaj rfl (er rfl))) ?_
     refine zdh ?_
     rintro w30 Z30 hE28 hZ21 ⟨-⟩ ap10
     have hB10 := @zhb w18 Z30
     obtain ⟨hL24, K20⟩ := zl hL19 hE28
     refine zag (zaj (v := (zI x16)) rfl ?_)
     refine zaq (zal (zah rfl (zag (zae (v := (zI x15)) rfl ?_))))
     refine zag (zae (v := (zI x16)) rfl ?_)
     refine zag (OpY.neq (x := x15) (y := x16) ((x15 : Int) ≠ x16) rfl rfl zbi (zaq ?_))
     refine zbj ((x15 : Int) ≠ x16) rfl (fun hc19 => ?_) (fun hc19 => ?_)
     ·
      replace h := ite_t hc19 h
      refine zal ?_
      obtain ⟨x17, n15, q44, q45, q46, h⟩ := zix h
      obtain ⟨x18, n16, q48, q49, q50, h⟩ := zix h
      refine Swp.drawP [13, 15] [0, 1, 2, 3, 4, 5, 6, 7, 8, 9, 10, 11, 12, 14] [(50, (osv (some b10) 0 x8.length m7)), (51, (zam (some ⟨b12, 0, none⟩))), (52, (zI x14.e0)), (53, (osv (some b10) 0 x8.length m7)), (54, (zam (some ⟨b12, 1, none⟩))), (55, (zI x14.e1)), (56, (zI x15)), (57, (zI x16)), (58, (zI (imin x15 x16))), (59, (zI x15)), (60, (zI x16)), (61, (zI (imin x15 x16))), (62, (zam (some ⟨b10, (0 + n15 * rI.sz), none⟩))), (63, (zam (some ⟨b10, (0 + n16 * rI.sz), none⟩)))] mixed rfl rfl rfl rfl ?_
      intro w31 hE29
      obtain ⟨hL25, K21⟩ := zl hL24 hE29
      refine ⟨?_, ?_⟩
      ·
       refine zan (i := 0) rfl rfl (zar (zae (v := (osv (some b10) 0 x8.length m7)) rfl zrr)) ?_
       refine zan (i := 1) rfl rfl (zar (zcs (i := 0) (q := 0) zcc ti3 rfl rfl (by decide) rfl zrr)) ?_
       refine zan (i := 2) rfl rfl (zar (zav (v := (zI x14.e0)) zaw rfl rfl (hL25.at 0 rfl rfl) rfl zrr)) ?_
       refine zan (i := 3) rfl rfl (zar (zae (v := (osv (some b10) 0 x8.length m7)) rfl zrr)) ?_
       refine zan (i := 4) rfl rfl (zar (zcs (i := 1) (q := 1) zcc ti3 rfl rfl (by decide) rfl zrr)) ?_
       refine zan (i := 5) rfl rfl (zar (zav (v := (zI x14.e1)) zaw rfl rfl (hL25.at 0 rfl rfl) rfl zrr)) ?_
       refine zan (i := 6) rfl rfl (zar (zae (v := (zI x15)) rfl zrr)) ?_
       refine zan (i := 7) rfl rfl (zar (zae (v := (zI x16)) rfl zrr)) ?_
       refine zan (i := 8) rfl rfl (zar (OpY.min (x := x15) (y := x16) rfl rfl zrr)) ?_
       refine zan (i := 9) rfl rfl (zar (zae (v := (zI x15)) rfl zrr)) ?_
       refine zan (i := 10) rfl rfl (zar (zae (v := (zI x16)) rfl zrr)) ?_
       refine zan (i := 11) rfl rfl (zar (OpY.min (x := x15) (y := x16) rfl rfl zrr)) ?_
       refine zan (i := 12) rfl rfl (zar (zbe (r := rI) (b := b10) (o := 0) (n := n15) (m := x8.length) (xs := least15) (q := (0 + n15 * rI.sz)) zao ti3 rfl hl17 rfl q44 q46 rfl zrr)) ?_
       refine zan (i := 14) rfl rfl (zar (zbe (r := rI) (b := b10) (o := 0) (n := n16) (m := x8.length) (xs := least15) (q := (0 + n16 * rI.sz)) zao ti3 rfl hl17 rfl q48 q50 rfl zrr)) ?_
       exact zcd
      obtain ⟨x19, n17, q52, q53, q54, h⟩ := zux h
      obtain rfl := zin q44 q52
      have f17 := (((f16.mono (K19 None)).mono (K20 None)).mono (K21 None))
      refine RlL.op0 (zdd (pre := []) (r := rI) (vs := [(zI (imin x15 x16))]) (a := (imin x15 x16)) ti3 rfl rfl rfl rfl hL25 2 rfl rfl f17 q46 rfl q54 ?_)
      have hl18 : x8.length = List.length x19 := by rw [q54, List.length_set]; exact hl17
      intro w32 cs18 (hL26 : vL w w32 [some b12, some b1, some b10] [zab [(zI x14.e0), (zI x14.e1)], zab [p_v, p_v1, p_v2, p_v3, p_v4], zab ([] ++ (cs18 ++ []))]) hS14 hE30 q55
      have hc20 : (cs18 ++ []).length = m7 * rI.sz := zhc hc17 q55
      have K22 := ks w hS14
      refine ⟨?_, ?_⟩
      ·
       refine zan (i := 3) rfl rfl (zar (zae (v := (osv (some b10) 0 x8.length m7)) rfl zrr)) ?_
       refine zan (i := 4) rfl rfl (zar (zcs (i := 1) (q := 1) zcc ti3 rfl rfl (by decide) rfl zrr)) ?_
       refine zan (i := 5) rfl rfl (zar (zav (v := (zI x14.e1)) zaw rfl rfl (hL26.at 0 rfl rfl) rfl zrr)) ?_
       refine zan (i := 9) rfl rfl (zar (zae (v := (zI x15)) rfl zrr)) ?_
       refine zan (i := 10) rfl rfl (zar (zae (v := (zI x16)) rfl zrr)) ?_
       refine zan (i := 11) rfl rfl (zar (OpY.min (x := x15) (y := x16) rfl rfl zrr)) ?_
       refine zan (i := 14) rfl rfl (zar (zbe (r := rI) (b := b10) (o := 0) (n := n16) (m := x8.length) (xs := x19) (q := (0 + n16 * rI.sz)) zao ti3 rfl hl18 rfl q48 (Nat.lt_of_lt_of_eq q50 (Eq.trans (Eq.symm hl17) hl18)) rfl zrr)) ?_
       exact zcd
      obtain ⟨x20, n18, q57, q58, -, h⟩ := zix h
      obtain rfl := zin q48 q57
      have q59 := (List.getElem?_eq_some_iff.1 q58).1
      obtain ⟨x21, n19, q61, q62, q63, h⟩ := zux h
      obtain rfl := zin q48 q61
      have f18 := (hE30.mono (K22 None))
      refine RlL.op0 (zdd (pre := []) (r := rI) (vs := [(zI (imin x15 x16))]) (a := (imin x15 x16)) ti3 rfl rfl rfl rfl hL26 2 rfl rfl f18 q59 rfl q63 ?_)
      have hl19 : x8.length = List.length x21 := by rw [q63, List.length_set]; exact hl18
      intro w33 cs19 (hL27 : vL w w33 [some b12, some b1, some b10] [zab [(zI x14.e0), (zI x14.e1)], zab [p_v, p_v1, p_v2, p_v3, p_v4], zab ([] ++ (cs19 ++ []))]) hS15 hE31 q64
      have hc21 : (cs19 ++ []).length = m7 * rI.sz := zhc hc20 q64
      have K23 := ks w hS15
      refine ⟨?_, ?_⟩
      ·
       exact zcd
      refine RlL.fin ?_
      refine zah rfl (zag (zaj (v := zT) rfl ?_))
      refine zaq (zbf (zah rfl (zag (zbx (x := x13) (y := 1) (z := (iw (x13 + 1))) rfl rfl rfl ?_))))
      refine zag (zae (v := (zI (iw (x13 + 1)))) rfl (zaq ?_))
      have hp11 := hL27.pick [1, 2] rfl rfl rfl
      have hL28 : vL w w33 [some b1, some b10] [zab [p_v, p_v1, p_v2, p_v3, p_v4], zab ([] ++ (cs19 ++ []))] := hp11.1
      have K24 := ks w hp11.2
      have f19 := ((hE31.mono (K23 None)).mono (K24 None))
      obtain rfl := zad h
      refine zap ⟨(x21, true, (iw (x13 + 1))), rfl, ?_⟩
      exact ⟨cs19, _, (zef ⟨rfl, rfl, rfl, rfl, rfl, rfl, trivial⟩), hL28, (zak (zak (zak (zak (zak (zak (zak (zak K16 K17) K18) K19) K20) K21) K22) K23) K24), f19, hl19, hc21, trivial⟩
     replace h := ite_f hc19 h
     refine zbl (zbf (zah rfl (zag (zbx (x := x13) (y := 1) (z := (iw (x13 + 1))) rfl rfl rfl ?_))))
     refine zag (zae (v := (zI (iw (x13 + 1)))) rfl (zaq ?_))
     have hp12 := hL24.pick [1, 2] rfl rfl rfl
     have hL29 : vL w w30 [some b1, some b10] [zab [p_v, p_v1, p_v2, p_v3, p_v4], zab ([] ++ (cs17 ++ []))] := hp12.1
     have K25 := ks w hp12.2
     have f20 := (((f16.mono (K19 None)).mono (K20 None)).mono (K25 None))
     obtain rfl := zad h
     refine zap ⟨(least15, changed12, (iw (x13 + 1))), rfl, ?_⟩
     exact ⟨cs17, _, (zef ⟨rfl, rfl, rfl, rfl, rfl, rfl, trivial⟩), hL29, (zak (zak (zak (zak (zak K16 K17) K18) K19) K20) K25), f20, hl17, hc17, trivial⟩
    replace h := ite_f hc18 h
    refine zca rfl ?_
    obtain rfl := zad h
    obtain rfl := hd12 _ rfl
    replace h := g12
    try dsimp only at h
    refine zap ?_
    exact ⟨least15, changed12, cs17, _, rfl, (zef ⟨rfl, rfl, rfl, trivial⟩), hL16, K16, hE15, hl17, hc17, trivial⟩
   rintro _ w34 ⟨least14, changed11, cs16, u, rfl, rfl, hL30, K26, hE32, hl20, hc22, -⟩
   replace h := g12
   try dsimp only at h
   refine zbf ?_
   obtain rfl := zad h
   refine zap ⟨(least14, changed11), rfl, ?_⟩
   exact ⟨cs16, _, (zef ⟨rfl, rfl, rfl, trivial⟩), hL30, (zak K15 K26), hE32, hl20, hc22, trivial⟩
  replace h := ite_f hc16 h
  refine zca rfl ?_
  have hp13 := hL15.pick [1] rfl rfl rfl
  have hL31 : vL w w14 [some b10] [zab ([] ++ (cs15 ++ []))] := hp13.1
  have K27 := ks w hp13.2
  have f21 := (hE14.mono (K27 None))
  obtain rfl := zad h
  obtain rfl := hd11 _ rfl
  replace h := g11
  try dsimp only at h
  refine zap ?_
  exact ⟨least13, cs15, _, rfl, (zef zrt), hL31, (zak K15 K27), f21, hl15, hc15, trivial⟩
 rintro _ w35 ⟨least12, cs14, u, rfl, rfl, hL32, K28, hE33, hl21, hc23, -⟩
 replace h := g11
 try dsimp only at h
 refine zal (zah rfl (zag (zae (v := (osv (some b10) 0 x8.length m7)) rfl ?_)))
 refine zag (zcj (pre := []) (r := rI) (xs := least12) zao rfl (hL32.at 0 rfl rfl) hE33 rfl hl21 ?_)
 obtain ⟨x22, q65, h⟩ := zee h
 obtain ⟨m10, q66, q67, q68, q69⟩ := mk1_some q65
 refine zag (zdl (r := rI) (H := (vH w None [some b10] w35)) (zc := [(zI 0)]) (x := 0) zao ti3 rfl rfl rfl rfl q66 q67 q68 q69 hL32 ?_)
 intro b13 w36 cs20 hE34 hc24 hL33 hS16
 have K29 := ks w hS16
 refine zag (zaj (v := (osv (some b13) 0 x22.length m10)) rfl ?_)
 refine zag (zaj (v := (zI 0)) rfl ?_)
 refine zaq (zal (zal (zah rfl (zag (zae (v := (osv (some b10) 0 x8.length m7)) rfl ?_)))))
 have f22 := (hE33.mono (K29 None))
 refine zag (zcj (pre := []) (r := rI) (xs := least12) zao rfl (hL33.at 1 rfl rfl) f22 rfl hl21 ?_)
 refine zag (zae (v := (zI 0)) rfl (zaq ?_))
 obtain ⟨s13, hl22, g13⟩ := zee h
 refine zbs (fun e w' => ∃ (number10 : (List Int)) (n20 : Int) (cs21 : List Value) (u : Env), (number10, n20) = s13 ∧ e = upds [(11, (osv (some b13) 0 x22.length m10)), (12, (zI n20))] u ∧ vL w w' [some b13] [zab ([] ++ (cs21 ++ []))] ∧ Keep w.heap.size [some b13, some b10] w36 [some b13] w' ∧ Els rI (vH w None [some b13] w') cs21 number10 ∧ x22.length = List.length number10 ∧ (cs21 ++ []).length = m10 * rI.sz ∧ True) ?_ ?_
 ·
  refine zbc ?_
  have f23 := (hE34.mono (K29 None))
  refine zbw hl22 (fun (ss : ((List Int) × Int × Int)) (e : Env) (w' : World) => match ss with | (number11, n21, x23) => ∃ (cs22 : List Value) (u : Env), e = upds [(11, (osv (some b13) 0 x22.length m10)), (12, (zI n21)), (68, (osv (some b10) 0 x8.length m7)), (69, (zI (least12.length : Int))), (70, (zI x23))] u ∧ vL w w' [some b13, some b10] [zab ([] ++ (cs22 ++ [])), zab ([] ++ (cs14 ++ []))] ∧ Keep w.heap.size [some b13, some b10] w36 [some b13, some b10] w' ∧ Els rI (vH w None [some b13, some b10] w') cs22 number11 ∧ x22.length = List.length number11 ∧ (cs22 ++ []).length = m10 * rI.sz ∧ True) ⟨cs20, _, (zef ⟨rfl, rfl, rfl, rfl, rfl, trivial⟩), hL33, zbp, f23, rfl, hc24, trivial⟩ ?_
  rintro ⟨number11, n21, x23⟩ oo _ w37 ⟨cs22, u, rfl, hL34, K30, hE35, hl23, hc25, -⟩ h hd13
  rw [tclasses_b4] at h
  refine zal (zah rfl (zag (zcg (x := x23) (y := (least12.length : Int)) ((x23 : Int) < (least12.length : Int)) rfl rfl zbi ?_)))
  refine zaq (zal ?_)
  refine zbj ((x23 : Int) < (least12.length : Int)) rfl (fun hc26 => ?_) (fun hc26 => ?_)
  ·
   replace h := ite_t hc26 h
   refine zbl (zal (zbc (zal (zah rfl (zag (zae (v := (zI x23)) rfl ?_))))))
   obtain ⟨x24, n22, q71, q72, q73, h⟩ := zix h
   refine zag (zbe (r := rI) (b := b10) (o := 0) (n := n22) (m := x8.length) (xs := least12) (q := (0 + n22 * rI.sz)) zao ti3 rfl hl21 rfl q71 q73 rfl ?_)
   have f24 := (f22.mono (K30 None))
   obtain ⟨vs13, q74, q75, q76⟩ := zeo (pre := []) (sp := []) f24 q72
   obtain rfl := q75
   refine zag (zbu (v := (zI x24)) zaw rfl rfl (hL34.at 1 rfl rfl) q76 ?_)
   refine zag (zaj (v := (zI x23)) rfl ?_)
   refine zag (zaj (v := (zI x24)) rfl ?_)
   refine zaq (zal (zah rfl (zag (zae (v := (zI x24)) rfl ?_))))
   refine zag (zae (v := (zI x23)) rfl ?_)
   refine zag (zcv (x := x24) (y := x23) ((x24 : Int) = x23) rfl rfl zbi (zaq ?_))
   refine zbj ((x24 : Int) = x23) rfl (fun hc27 => ?_) (fun hc27 => ?_)
   ·
    replace h := ite_t hc27 h
    refine zal (zah rfl (zag (zae (v := (osv (some b13) 0 x22.length m10)) rfl ?_)))
    refine zag (zae (v := (zI x23)) rfl ?_)
    refine zag (zae (v := (zI n21)) rfl ?_)
    obtain ⟨x25, n23, q78, q79, q80, h⟩ := zix h
    refine zag (zbe (r := rI) (b := b13) (o := 0) (n := n23) (m := x22.length) (xs := number11) (q := (0 + n23 * rI.sz)) zao ti3 rfl hl23 rfl q78 q80 rfl ?_)
    obtain ⟨x26, n24, q82, q83, q84, h⟩ := zux h
    obtain rfl := zin q78 q82
    refine zdj (zdd (pre := []) (r := rI) (vs := [(zI n21)]) (a := n21) ti3 rfl rfl rfl rfl hL34 0 rfl rfl hE35 q80 rfl q84 ?_)
    have hl24 : x22.length = List.length x26 := by rw [q84, List.length_set]; exact hl23
    intro w38 cs23 (hL35 : vL w w38 [some b13, some b10] [zab ([] ++ (cs23 ++ [])), zab ([] ++ (cs14 ++ []))]) hS17 hE36 q85
    have hc28 : (cs23 ++ []).length = m10 * rI.sz := zhc hc25 q85
    have K31 := ks w hS17
    refine zaq (zah rfl (zag (zae (v := (zI n21)) rfl ?_)))
    refine zag (zbx (x := n21) (y := 1) (z := (iw (n21 + 1))) rfl rfl rfl ?_)
    refine zag (zaj (v := (zI (iw (n21 + 1)))) rfl ?_)
    refine zaq (zbf (zah rfl (zag (zbx (x := x23) (y := 1) (z := (iw (x23 + 1))) rfl rfl rfl ?_))))
    refine zag (zae (v := (zI (iw (x23 + 1)))) rfl (zaq ?_))
    have f25 := (hE36.mono (K31 None))
    obtain rfl := zad h
    refine zap ⟨(x26, (iw (n21 + 1)), (iw (x23 + 1))), rfl, ?_⟩
    exact ⟨cs23, _, (zef ⟨rfl, rfl, rfl, rfl, rfl, trivial⟩), hL35, (zak K30 K31), f25, hl24, hc28, trivial⟩
   replace h := ite_f hc27 h
   refine zah rfl (zag (zae (v := (osv (some b13) 0 x22.length m10)) rfl ?_))
   refine zag (zae (v := (zI x23)) rfl ?_)
   refine zag (zae (v := (osv (some b13) 0 x22.length m10)) rfl ?_)
   refine zag (zae (v := (zI x24)) rfl ?_)
   obtain ⟨x27, n25, q87, q88, q89, h⟩ := zix h
   refine zag (zbe (r := rI) (b := b13) (o := 0) (n := n25) (m := x22.length) (xs := number11) (q := (0 + n25 * rI.sz)) zao ti3 rfl hl23 rfl q87 q89 rfl ?_)
   obtain ⟨vs14, q90, q91, q92⟩ := zeo (pre := []) (sp := []) hE35 q88
   obtain rfl := q91
   refine zag (zbu (v := (zI x27)) zaw rfl rfl (hL34.at 0 rfl rfl) q92 ?_)
   obtain ⟨x28, n26, q94, q95, q96, h⟩ := zix h
   refine zag (zbe (r := rI) (b := b13) (o := 0) (n := n26) (m := x22.length) (xs := number11) (q := (0 + n26 * rI.sz)) zao ti3 rfl hl23 rfl q94 q96 rfl ?_)
   obtain ⟨x29, n27, q98, q99, q100, h⟩ := zux h
   obtain rfl := zin q94 q98
   refine zdj (zdd (pre := []) (r := rI) (vs := [(zI x27)]) (a := x27) ti3 rfl rfl rfl rfl hL34 0 rfl rfl hE35 q96 rfl q100 ?_)
   have hl25 : x22.length = List.length x29 := by rw [q100, List.length_set]; exact hl23
   intro w39 cs24 (hL36 : vL w w39 [some b13, some b10] [zab ([] ++ (cs24 ++ [])), zab ([] ++ (cs14 ++ []))]) hS18 hE37 q101
   have hc29 : (cs24 ++ []).length = m10 * rI.sz := zhc hc25 q101
   have K32 := ks w hS18
   refine zaq (zbf (zah rfl (zag (zbx (x := x23) (y := 1) (z := (iw (x23 + 1))) rfl rfl rfl ?_))))
   refine zag (zae (v := (zI (iw (x23 + 1)))) rfl (zaq ?_))
   have f26 := (hE37.mono (K32 None))
   obtain rfl := zad h
   refine zap ⟨(x29, n21, (iw (x23 + 1))), rfl, ?_⟩
   exact ⟨cs24, _, (zef ⟨rfl, rfl, rfl, rfl, rfl, trivial⟩), hL36, (zak K30 K32), f26, hl25, hc29, trivial⟩
  replace h := ite_f hc26 h
  refine zca rfl ?_
  have hp14 := hL34.pick [0] rfl rfl rfl
  have hL37 : vL w w37 [some b13] [zab ([] ++ (cs22 ++ []))] := hp14.1
  have K33 := ks w hp14.2
  have f27 := (hE35.mono (K33 None))
  obtain rfl := zad h
  obtain rfl := hd13 _ rfl
  replace h := g13
  try dsimp only at h
  refine zap ?_
  exact ⟨number11, n21, cs22, _, rfl, (zef ⟨rfl, rfl, trivial⟩), hL37, (zak K30 K33), f27, hl23, hc25, trivial⟩
 rintro _ w40 ⟨number10, n20, cs21, u, rfl, rfl, hL38, K34, hE38, hl26, hc30, -⟩
 replace h := g13
 try dsimp only at h
 refine zal (zah rfl (zag (zae (v := (osv (some b13) 0 x22.length m10)) rfl ?_)))
 refine zag (zae (v := (zI n20)) rfl ?_)
 refine zag (zaj (v := (osv (some b13) 0 x22.length m10)) rfl ?_)
 refine zag (zaj (v := (zI n20)) rfl ?_)
 refine zaq (zbt ?_)
 obtain rfl := zad h
 refine ⟨[(osv (some b13) 0 x22.length m10), (zI n20)], ⟨rfl, rfl, trivial⟩, ⟨_, rfl, hL38.done, ?_⟩⟩
 exact ⟨some b13, m10, cs21, [], (by rw [← hl26]; rfl), (hL38.newOwn [0] rfl rfl rfl), (hE38.mono (zdy [0] rfl)), hc30, trivial⟩
theorem tClasses_w (N : Nat) (p : TProb) (p_v : Value) (p_v1 : Value) (p_v2 : Value) (p_v3 : Value) (p_v4 : Value) (w : World) (S : Nat → Prop) (p_h : Rs rI (vH w S [] w) p_v p.Min) (p_h1 : Rs rI (vH w S [] w) p_v1 p.Max) (p_h2 : Rs rTTest (vH w S [] w) p_v2 p.Tests) (p_h3 : Rs rArr2Int (vH w S [] w) p_v3 p.Same) (p_h4 : Rs rArr2Int (vH w S [] w) p_v4 p.Different) (r : (List (List Int))) (h : tClasses N p = some r) :
  Calls Try.prog 20 #[(zbq #[p_v, p_v1, p_v2, p_v3, p_v4])] w (Ret w (fun v w' => ∃ (ob0 : Option Nat) (cap0 : Nat) (cs0 : List Value) (sp0 : List Value), (osv ob0 0 r.length cap0) = v ∧ NewOwn w w' [ob0] [zab ([] ++ (cs0 ++ sp0))] ∧ Els (rSl rI) (vH w None [ob0] w') cs0 r ∧ (cs0 ++ sp0).length = cap0 * (rSl rI).sz ∧ True)) := by
 unfold tClasses at h
 have hL : vL w w [] [] := Go.X.Loc.begin0 w
 refine calls_of (l := [(zbq #[p_v, p_v1, p_v2, p_v3, p_v4])]) (rl := [.tmp 2]) (n := 34) Try.func20 rfl rfl rfl (zai rfl) ?_
 refine zal (zah rfl (zag (zdp (cs := [p_v, p_v1, p_v2, p_v3, p_v4]) rfl rfl hL ?_)))
 intro b1 w2 hL3 hS5
 have K4 := ks w hS5
 refine zag (zaj (v := zN) rfl ?_)
 refine zaq (zal (zah rfl (zag (zct (vs := [p_v, p_v1, p_v2, p_v3, p_v4]) zco rfl ti31 rfl (hL3.at 0 rfl rfl) rfl rfl ?_))))
 obtain ⟨r6, q7, h⟩ := zee h
 have f10 := (p_h.mono (K4 S))
 have f11 := (p_h1.mono (K4 S))
 have f12 := (p_h2.mono (K4 S))
 have f13 := (p_h3.mono (K4 S))
 have f14 := (p_h4.mono (K4 S))
 refine zag (zbz en40 rfl rfl (tclasses_w N p p_v p_v1 p_v2 p_v3 p_v4 _ Any (f10.mono vw_any) (f11.mono vw_any) (f12.mono vw_any) (f13.mono vw_any) (f14.mono vw_any) r6 q7) ?_)
 rintro _ w10 hE10 ⟨ob8, cap9, cs10, sp10, rfl, hN10, hE11, hc10, -⟩
 replace hE11 := hE11.mono (zbv (S := None) hL3 [ob8])
 have hp10 := hL3.adoptL hE10 hN10
 have hL10 := hp10.1
 refine zag (zae (v := (Value.tuple #[(osv ob8 0 r6.1.length cap9), (zI r6.2)])) rfl ?_)
 refine zag (zck (vs := [(osv ob8 0 r6.1.length cap9), (zI r6.2)]) (v := (osv ob8 0 r6.1.length cap9)) rfl rfl ?_)
 refine zag (zck (vs := [(osv ob8 0 r6.1.length cap9), (zI r6.2)]) (v := (zI r6.2)) rfl rfl ?_)
 refine zag (zaj (v := (osv ob8 0 r6.1.length cap9)) rfl ?_)
 refine zag (zaj (v := (zI r6.2)) rfl ?_)
 refine zaq (zal (zah rfl (zag (zae (v := (zI r6.2)) rfl ?_))))
 obtain ⟨x10, q10, h⟩ := zee h
 obtain ⟨m10, q11, q12, q13, q14⟩ := mk1_some q10
 refine zag (OpY.mkDeep (D := dkRow22x) (zc := [zN]) (x := []) zdb ti22 rfl rfl ⟨_, none, zab [], rfl, rfl, rfl, DS.nil⟩ rfl rfl q11 q12 q13 q14 hL10 ?_)
 intro b10 w11 cs11 FB10 FC10 hD10 hc11 (hL11 : vL w w11 (some b10 :: ob8 :: some b1 :: FB10) (zab ([] ++ (cs11 ++ [])) :: zab ([] ++ (cs10 ++ sp10)) :: zab [p_v, p_v1, p_v2, p_v3, p_v4] :: FC10)) hS10
 have K10 := ks w hS10
 refine zag (zaj (v := (osv (some b10) 0 x10.length m10)) rfl ?_)
 refine zaq (zal (zal (zah rfl (zag (zae (v := (osv ob8 0 r6.1.length cap9)) rfl ?_)))))
 have f15 := (hE11.mono (K10 None))
 refine zag (zcj (pre := []) (r := rI) (xs := r6.1) zao rfl (hL11.at 1 rfl rfl) f15 rfl rfl ?_)
 refine zag (zae (v := (zI 0)) rfl (zaq ?_))
 obtain ⟨s10, hl10, g10⟩ := zee h
 refine zbs (fun e w' => ∃ (out10 : (List (List Int))) (cs12 : List Value) (FB11 : List (Option Nat)) (FC11 : List Cont) (u : Env), out10 = s10 ∧ e = upds [(5, (osv (some b10) 0 x10.length m10))] u ∧ vL w w' (some b10 :: FB11) (zab ([] ++ (cs12 ++ [])) :: FC11) ∧ Keep w.heap.size (some b10 :: ob8 :: some b1 :: FB10) w11 (some b10 :: FB11) w' ∧ DEls dkRow22x cs12 FB11 FC11 out10 ∧ x10.length = List.length out10 ∧ (cs12 ++ []).length = m10 * (rSl rI).sz ∧ True) ?_ ?_
 ·
  refine zbc ?_
  have hp11 := Loc.pickT (Op := [some b10, ob8, some b1]) (Cp := [zab ([] ++ (cs11 ++ [])), zab ([] ++ (cs10 ++ sp10)), zab [p_v, p_v1, p_v2, p_v3, p_v4]]) (FB := FB10) (FC := FC10) hL11 [0, 1] rfl rfl rfl rfl
  have hL12 : vL w w11 (some b10 :: ob8 :: FB10) (zab ([] ++ (cs11 ++ [])) :: zab ([] ++ (cs10 ++ sp10)) :: FC10) := hp11.1
  have K11 := ks w hp11.2
  refine zbw hl10 (fun (ss : ((List (List Int)) × Int)) (e : Env) (w' : World) => match ss with | (out11, x11) => ∃ (cs13 : List Value) (FB12 : List (Option Nat)) (FC12 : List Cont) (u : Env), e = upds [(5, (osv (some b10) 0 x10.length m10)), (15, (osv ob8 0 r6.1.length cap9)), (16, (zI (r6.1.length : Int))), (17, (zI x11))] u ∧ vL w w' (some b10 :: ob8 :: FB12) (zab ([] ++ (cs13 ++ [])) :: zab ([] ++ (cs10 ++ sp10)) :: FC12) ∧ Keep w.heap.size (some b10 :: ob8 :: some b1 :: FB10) w11 (some b10 :: ob8 :: FB12) w' ∧ DEls dkRow22x cs13 FB12 FC12 out11 ∧ x10.length = List.length out11 ∧ (cs13 ++ []).length = m10 * (rSl rI).sz ∧ True) ⟨cs11, FB10, FC10, _, (zef ⟨rfl, rfl, rfl, rfl, trivial⟩), hL12, K11, hD10, rfl, hc11, trivial⟩ ?_
  rintro ⟨out11, x11⟩ oo _ w12 ⟨cs13, FB12, FC12, u, rfl, hL13, K12, hD11, hl11, hc12, -⟩ h hd10
  rw [tClasses_b1] at h
  refine zal (zah rfl (zag (zcg (x := x11) (y := (r6.1.length : Int)) ((x11 : Int) < (r6.1.length : Int)) rfl rfl zbi ?_)))
  refine zaq (zal ?_)
  refine zbj ((x11 : Int) < (r6.1.length : Int)) rfl (fun hc13 => ?_) (fun hc13 => ?_)
  ·
   replace h := ite_t hc13 h
   refine zbl (zal (zbc (zal (zah rfl (zag (zae (v := (zI x11)) rfl ?_))))))
   obtain ⟨x12, n10, q16, q17, q18, h⟩ := zix h
   have f16 := (f15.mono (K12 None))
   obtain ⟨b11, hb10⟩ := hL13.row_some 1 rfl rfl (zev (pre := []) f16 q17 (Nat.lt_of_sub_eq_succ rfl))
   refine zag (zbe (r := rI) (b := b11) (o := 0) (n := n10) (m := r6.1.length) (xs := r6.1) (q := (0 + n10 * rI.sz)) zao ti3 (zem hb10) rfl rfl q16 q18 rfl ?_)
   obtain ⟨vs10, q19, q20, q21⟩ := zeo (pre := []) (sp := sp10) f16 q17
   obtain rfl := q20
   refine zag (zbu (v := (zI x12)) zaw rfl rfl (zeq hb10 (hL13.at 1 rfl rfl)) q21 ?_)
   refine zag (zaj (v := (zI x11)) rfl ?_)
   refine zag (zaj (v := (zI x12)) rfl ?_)
   refine zaq (zah rfl (zag (zae (v := (osv (some b10) 0 x10.length m10)) rfl ?_)))
   refine zag (zae (v := (zI x12)) rfl ?_)
   refine zag (zae (v := (osv (some b10) 0 x10.length m10)) rfl ?_)
   refine zag (zae (v := (zI x12)) rfl ?_)
   obtain ⟨x13, n11, q23, q24, q25, h⟩ := zix h
   refine zag (zbe (r := (rSl rI)) (b := b10) (o := 0) (n := n11) (m := x10.length) (xs := out11) (q := (0 + n11 * (rSl rI).sz)) zdb ti22 rfl hl11 rfl q23 q25 rfl ?_)
   obtain ⟨vs11, bs10, c10, q26, q27, q28, q29⟩ := DEls.elem (sp := []) hD11 q24
   obtain ⟨v10, b12, k10, rfl, rfl, rfl, d10⟩ := q26
   obtain ⟨cap10, cs14, sp11, rfl, rfl, hc14, hE12⟩ := d10
   have q30 : (FB12)[(n11 * 1 + 0)]? = some b12 := q28 0 _ rfl
   have q31 : (FC12)[(n11 * 1 + 0)]? = some (zab ([] ++ (cs14 ++ sp11))) := q29 0 _ rfl
   refine zag (zbu (v := (osv b12 0 x13.length cap10)) zao rfl rfl (hL13.at 0 rfl rfl) q27 ?_)
   refine zag (zae (v := (zI x11)) rfl ?_)
   have hE13 : Els rI (vH w None (some b10 :: ob8 :: FB12) w12) [(zI x11)] [x11] := (zcp (a := [(zI x11)]) rfl zcm)
   refine zag (zcl (r := rI) (vs := [(zI x11)]) (css := [[(zI x11)]]) (xs := [x11]) zao ti3 (zai rfl) rfl rfl ⟨rfl, rfl, trivial⟩ (zai rfl) hE13 rfl hL13 ?_)
   intro b13 w13 hc15 hL14 hS11
   have K13 := ks w hS11
   obtain ⟨x14, q32, h⟩ := zee h
   obtain ⟨q33, q34, q35⟩ := zer q32
   have f17 := (hE13.mono (K13 None))
   refine zag (OpY.apDeep (r := rI) (Op := [some b13, some b10, ob8]) (Cp := [zab ([] ++ ([(zI x11)] ++ [])), zab ([] ++ (cs13 ++ [])), zab ([] ++ (cs10 ++ sp10))]) (FB := FB12) (FC := FC12) (cs := cs14) (sp := sp11) (xs := x13) (ys := [x11]) (Y := x14) (n := List.length x13) (cap := cap10) (j := (n11 * 1 + 0)) zao ti3 rfl rfl rfl rfl hL14 rfl q30 q31 hE12 rfl hc14 (zdw (pre := []) (o := 0) (n := 1) (cap := 1) (hL14.at 0 rfl rfl) f17 rfl rfl rfl) (zci (fun _ _ _ _ h => h) f17) q33 q34 q35 ?_)
   intro ob10 cap11 sp12 cs15 w14 hE14 hc16 (hL15 : vL w w14 (some b13 :: some b10 :: ob8 :: (List.set FB12 (n11 * 1 + 0) ob10)) (zab ([] ++ ([(zI x11)] ++ [])) :: zab ([] ++ (cs13 ++ [])) :: zab ([] ++ (cs10 ++ sp10)) :: (List.set FC12 (n11 * 1 + 0) (zab ([] ++ (cs15 ++ sp12)))))) hS12
   have K14 := ks w hS12
   obtain ⟨x15, n12, q37, q38, q39, h⟩ := zix h
   refine zag (zbe (r := (rSl rI)) (b := b10) (o := 0) (n := n12) (m := x10.length) (xs := out11) (q := (0 + n12 * (rSl rI).sz)) zdb ti22 rfl hl11 rfl q37 q39 rfl ?_)
   obtain ⟨x16, n13, q41, q42, q43, h⟩ := zux h
   obtain rfl := zin q37 q41
   refine zdj (OpY.stDeepS (D := dkRow22x) (sp := []) (n := n12) (off := 0) (a' := x14) ti22 rfl rfl rfl (zes (zen _ _ _ _)) (zen _ _ _ _) hL15 1 rfl rfl hD11 q38 rfl q43 (zai rfl) (f := 0) (j := (n11 * 1 + 0)) (ob := ob10) (k := zab ([] ++ (cs15 ++ sp12))) (zai rfl) (show n12 * 1 + 0 = (n11 * 1 + 0) by rw [zin q37 q23]) (fun vs bs c hr => by obtain ⟨v0, b0, k0, rfl, rfl, rfl, d0⟩ := hr; exact ⟨_, _, _, rfl, rfl, rfl, ⟨_, _, _, rfl, rfl, hc16, hE14⟩⟩) ?_)
   have hl12 : x10.length = List.length x16 := by rw [q43, List.length_set]; exact hl11
   intro w15 cs16 (hL16 : vL w w15 (some b13 :: some b10 :: ob8 :: (List.set FB12 (n11 * 1 + 0) ob10)) (zab ([] ++ ([(zI x11)] ++ [])) :: zab ([] ++ (cs16 ++ [])) :: zab ([] ++ (cs10 ++ sp10)) :: (List.set FC12 (n11 * 1 + 0) (zab ([] ++ (cs15 ++ sp12)))))) hS13 hD12 q44
   have hc17 : (cs16 ++ []).length = m10 * (rSl rI).sz := zhc hc12 q44
   have K15 := ks w hS13
   refine zaq (zbf (zah rfl (zag (zbx (x := x11) (y := 1) (z := (iw (x11 + 1))) rfl rfl rfl ?_))))
   refine zag (zae (v := (zI (iw (x11 + 1)))) rfl (zaq ?_))
   have hp12 := Loc.pickT (Op := [some b13, some b10, ob8]) (Cp := [zab ([] ++ ([(zI x11)] ++ [])), zab ([] ++ (cs16 ++ [])), zab ([] ++ (cs10 ++ sp10))]) (FB := (List.set FB12 (n11 * 1 + 0) ob10)) (FC := (List.set FC12 (n11 * 1 + 0) (zab ([] ++ (cs15 ++ sp12))))) hL16 [1, 2] rfl rfl rfl rfl
   have hL17 : vL w w15 (some b10 :: ob8 :: (List.set FB12 (n11 * 1 + 0) ob10)) (zab ([] ++ (cs16 ++ [])) :: zab ([] ++ (cs10 ++ sp10)) :: (List.set FC12 (n11 * 1 + 0) (zab ([] ++ (cs15 ++ sp12))))) := hp12.1
   have K16 := ks w hp12.2
   obtain rfl := zad h
   refine zap ⟨(x16, (iw (x11 + 1))), rfl, ?_⟩
   exact ⟨cs16, (List.set FB12 (n11 * 1 + 0) ob10), (List.set FC12 (n11 * 1 + 0) (zab ([] ++ (cs15 ++ sp12)))), _, (zef ⟨rfl, rfl, rfl, rfl, trivial⟩), hL17, (zak (zak (zak (zak K12 K13) K14) K15) K16), hD12, hl12, hc17, trivial⟩
  replace h := ite_f hc13 h
  refine zca rfl ?_
  have hp13 := Loc.pickT (Op := [some b10, ob8]) (Cp := [zab ([] ++ (cs13 ++ [])), zab ([] ++ (cs10 ++ sp10))]) (FB := FB12) (FC := FC12) hL13 [0] rfl rfl rfl rfl
  have hL18 : vL w w12 (some b10 :: FB12) (zab ([] ++ (cs13 ++ [])) :: FC12) := hp13.1
  have K17 := ks w hp13.2
  obtain rfl := zad h
  obtain rfl := hd10 _ rfl
  replace h := g10
  try dsimp only at h
  refine zap ?_
  exact ⟨out11, cs13, FB12, FC12, _, rfl, (zef zrt), hL18, (zak K12 K17), hD11, hl11, hc12, trivial⟩
 rintro _ w16 ⟨out10, cs12, FB11, FC11, u, rfl, rfl, hL19, K18, hD13, hl13, hc18, -⟩
 replace h := g10
 try dsimp only at h
 refine zal (zah rfl (zag (zae (v := (osv (some b10) 0 x10.length m10)) rfl ?_)))
 refine zag (zaj (v := (osv (some b10) 0 x10.length m10)) rfl (zaq ?_))
 have hp14 := Loc.settle (S := None) (Op := [some b10]) (Cp := [zab ([] ++ (cs12 ++ []))]) (FB := FB11) (FC := FC11) hL19 rfl hD13
 have f18 := hp14.1
 have hL20 : vL w w16 [some b10] [zab ([] ++ (cs12 ++ []))] := hp14.2.1
 refine zbt ?_
 obtain rfl := zad h
 refine ⟨[(osv (some b10) 0 x10.length m10)], zrt, ⟨_, rfl, hL20.done, ?_⟩⟩
 exact ⟨some b10, m10, cs12, [], (by rw [← hl13]; rfl), (hL20.newOwn [0] rfl rfl rfl), (f18.mono (zdy [0] rfl)), hc18, trivial⟩
theorem indexOf_w (N : Nat) (s : (List Int)) (pb : Int) (s_v : Value) (w : World) (S : Nat → Prop) (s_h : Rs rI (vH w S [] w) s_v s) (r : Int) (h : indexOf N s pb = some r) :
  Calls Try.prog 71 #[s_v, (zI pb)] w (Ret w (fun v w' => (zI r) = v ∧ True)) := by
 unfold indexOf at h
 have hL : vL w w [] [] := Go.X.Loc.begin0 w
 refine calls_of (l := [s_v, (zI pb)]) (rl := [.tmp 4]) (n := 19) Try.func71 rfl rfl rfl (zai rfl) ?_
 refine zal (zah rfl (zag (zaj (v := (zI 0)) rfl ?_)))
 refine zaq (zal (zal (zah rfl (zag (zae (v := s_v) rfl ?_)))))
 refine zag (zcf (v := s_v) zao rfl s_h ?_)
 refine zag (zae (v := (zI 0)) rfl (zaq ?_))
 obtain ⟨s10, hl10, g10⟩ := zee h
 refine zbs (fun e w' => ∃  (u : Env), (Sum.inl ()) = s10 ∧ e = upds [] u ∧ vL w w' [] [] ∧ Keep w.heap.size [] w [] w' ∧ True) ?_ ?_
 ·
  refine zbc ?_
  refine zbw hl10 (fun (ss : Int) (e : Env) (w' : World) => match ss with | x10 => ∃ (u : Env), e = upds [(0, s_v), (1, (zI pb)), (7, (zI (s.length : Int))), (8, (zI x10))] u ∧ vL w w' [] [] ∧ Keep w.heap.size [] w [] w' ∧ True) ⟨_, (zef ⟨rfl, rfl, rfl, rfl, trivial⟩), hL, zbp, trivial⟩ ?_
  rintro x10 oo _ w10 ⟨u, rfl, hL10, K10, -⟩ h hd10
  rw [indexOf_b1] at h
  refine zal (zah rfl (zag (zcg (x := x10) (y := (s.length : Int)) ((x10 : Int) < (s.length : Int)) rfl rfl zbi ?_)))
  refine zaq (zal ?_)
  refine zbj ((x10 : Int) < (s.length : Int)) rfl (fun hc10 => ?_) (fun hc10 => ?_)
  ·
   replace h := ite_t hc10 h
   refine zbl (zal (zbc (zal (zah rfl (zag (zae (v := (zI x10)) rfl ?_))))))
   refine zag (zaj (v := (zI x10)) rfl ?_)
   refine zaq (zal (zah rfl (zag (zae (v := (zI pb)) rfl ?_))))
   refine zag (zae (v := s_v) rfl ?_)
   refine zag (zae (v := (zI x10)) rfl ?_)
   obtain ⟨x11, n10, q11, q12, -, h⟩ := zix h
   have f10 := (s_h.mono (K10 S))
   obtain ⟨b10, o10, c10, vs10, q13, q14, f11, q15⟩ := zdc f10 q12
   obtain rfl := q15
   refine zag (zby (r := rI) (v := s_v) (n := n10) (m := (o10 + n10 * rI.sz)) zao ti3 rfl q13 rfl q11 q12 rfl ?_)
   refine zag (zce (v := (zI x11)) zaw rfl rfl zel f11 ?_)
   refine zag (zcv (x := pb) (y := x11) ((pb : Int) = x11) rfl rfl zbi (zaq ?_))
   refine zbj ((pb : Int) = x11) rfl (fun hc11 => ?_) (fun hc11 => ?_)
   ·
    replace h := ite_t hc11 h
    refine zal (zah rfl (zag (zae (v := (zI x10)) rfl ?_)))
    refine zag (zaj (v := (zI x10)) rfl ?_)
    refine zaq (zbt ?_)
    obtain rfl := zad h
    obtain rfl := hd10 _ rfl
    replace h := g10
    try dsimp only at h
    obtain rfl := zad h
    refine ⟨[(zI x10)], zrt, ⟨_, rfl, hL10.done, ?_⟩⟩
    exact zrt
   replace h := ite_f hc11 h
   refine zbl (zbf (zah rfl (zag (zbx (x := x10) (y := 1) (z := (iw (x10 + 1))) rfl rfl rfl ?_))))
   refine zag (zae (v := (zI (iw (x10 + 1)))) rfl (zaq ?_))
   obtain rfl := zad h
   refine zap ⟨(iw (x10 + 1)), rfl, ?_⟩
   exact ⟨_, (zef ⟨rfl, rfl, rfl, rfl, trivial⟩), hL10, K10, trivial⟩
  replace h := ite_f hc10 h
  refine zca rfl ?_
  obtain rfl := zad h
  obtain rfl := hd10 _ rfl
  replace h := g10
  try dsimp only at h
  refine zap ?_
  exact ⟨_, rfl, (zef trivial), hL10, K10, trivial⟩
 rintro _ w11 ⟨u, rfl, rfl, hL11, K11, -⟩
 replace h := g10
 try dsimp only at h
 refine zal (zah rfl (zag (zaj (v := (zI (-1))) rfl ?_)))
 refine zaq (zbt ?_)
 obtain rfl := zad h
 refine ⟨[(zI (-1))], zrt, ⟨_, rfl, hL11.done, ?_⟩⟩
 exact zrt
theorem containsOf_w (N : Nat) (s : (List Int)) (pb : Int) (s_v : Value) (w : World) (S : Nat → Prop) (s_h : Rs rI (vH w S [] w) s_v s) (r : Bool) (h : containsOf N s pb = some r) :
  Calls Try.prog 59 #[s_v, (zI pb)] w (Ret w (fun v w' => (zac r) = v ∧ True)) := by
 unfold containsOf at h
 have hL : vL w w [] [] := Go.X.Loc.begin0 w
 refine calls_of (l := [s_v, (zI pb)]) (rl := [.tmp 4]) (n := 9) Try.func59 rfl rfl rfl (zai rfl) ?_
 refine zal (zah rfl (zag (zaj (v := zF) rfl ?_)))
 refine zaq (zal (zah rfl (zag (zae (v := s_v) rfl ?_))))
 refine zag (zae (v := (zI pb)) rfl ?_)
 obtain ⟨r1, q2, h⟩ := zee h
 refine zag (zbz en71 rfl rfl (indexOf_w N s pb s_v _ Any (s_h.mono vw_any) r1 q2) ?_)
 rintro _ w4 hE7 ⟨rfl, -⟩
 have hL5 := hL.ext hE7
 refine zag (OpY.geq (x := r1) (y := 0) ((r1 : Int) ≥ 0) rfl rfl zbi ?_)
 refine zag (zaj (v := (zac (decide ((r1 : Int) ≥ 0)))) rfl ?_)
 refine zaq (zbt ?_)
 obtain rfl := zad h
 refine ⟨[(zac (decide ((r1 : Int) ≥ 0)))], zrt, ⟨_, rfl, hL5.done, ?_⟩⟩
 exact zrt
theorem cloneTest_w (N : Nat) (s : (List TTest)) (s_v : Value) (w : World) (S : Nat → Prop) (s_h : Rs rTTest (vH w S [] w) s_v s) (r : (List TTest)) (h : cloneTest N s = some r) :
  Calls Try.prog 60 #[s_v] w (Ret w (fun v w' => ∃ (ob0 : Option Nat) (cap0 : Nat) (cs0 : List Value) (sp0 : List Value), (zO ob0 r cap0) = v ∧ NewOwn w w' [ob0] [zab ([] ++ (cs0 ++ sp0))] ∧ Els rTTest (vH w None [ob0] w') cs0 r ∧ (cs0 ++ sp0).length = cap0 * rTTest.sz ∧ True)) := by
 unfold cloneTest at h
 have hL : vL w w [] [] := Go.X.Loc.begin0 w
 refine calls_of (l := [s_v]) (rl := [.tmp 2]) (n := 8) Try.func60 rfl rfl rfl (zai rfl) ?_
 refine zal (zah rfl (zag (zaj (v := zN) rfl ?_)))
 refine zaq (zal (zal (zah rfl (zag (zae (v := s_v) rfl ?_)))))
 refine zag (OpY.eqlNil (v := s_v) zbk rfl s_h.isSlice rfl (zaq ?_))
 refine zch (isNil s_v) rfl (fun hc1 => ?_) (fun hc1 => ?_)
 ·
  have hnil := (Sl.of_isNil s_h hc1).1
  replace h : some [] = some r := by rw [hnil] at h; simpa [apnd] using h
  refine zal (zah rfl (zag (zaj (v := zN) rfl (zaq ?_))))
  have hp2 := hL.addNil
  have hL3 : vL w w [none] [zab ([] ++ ([] ++ []))] := hp2.1
  have hE6 : Els rTTest (vH w None [none] w) [] [] := zcm
  refine zbt ?_
  obtain rfl := zad h
  refine ⟨[(osv none 0 (List.length ([] : (List TTest))) 0)], zrt, ⟨_, rfl, hL3.done, ?_⟩⟩
  exact ⟨none, 0, [], [], rfl, (hL3.newOwn [0] rfl rfl rfl), (hE6.mono (zdy [0] rfl)), (show ([] ++ [] : List Value).length = 0 * rTTest.sz by simp), trivial⟩
 refine zbl (zal (zah rfl (zag (zdx zbk ti44 hL ?_))))
 intro b7 w10 hL10 hS10
 have hE10 : Els rTTest (vH w None [] w) [] [] := zcm
 have K10 := ks w hS10
 refine zag (zae (v := s_v) rfl ?_)
 obtain ⟨x10, q10, h⟩ := zee h
 obtain ⟨q11, q12, q13⟩ := zer q10
 have f10 := (s_h.mono (K10 S))
 obtain ⟨ds10, q14, q15⟩ := Rs.src f10
 have f11 := (hE10.mono (K10 None))
 refine zag (zcx (r := rTTest) (H := (vH w None [some b7] w10)) (cs := []) (sp := []) (xs := ([] : (List TTest))) (ys := s) (Y := x10) (n := (List.length ([] : (List TTest)))) (cap := 0) (i := 0) zbk ti44 rfl rfl rfl rfl hL10 rfl rfl f11 rfl (show ([] ++ [] : List Value).length = 0 * rTTest.sz by simp) q14 (zci (fun _ _ _ _ h => h) q15) q11 q12 q13 ?_)
 intro ob10 cap10 sp10 cs10 w11 hE11 hc10 (hL11 : vL w w11 [ob10] [zab ([] ++ (cs10 ++ sp10))]) hS11
 have K11 := ks w hS11
 refine zag (zaj (v := (zO ob10 x10 cap10)) rfl ?_)
 refine zaq (zbt ?_)
 obtain rfl := zad h
 refine ⟨[(zO ob10 x10 cap10)], zrt, ⟨_, rfl, hL11.done, ?_⟩⟩
 have f12 := (hE11.mono (K11 None))
 exact ⟨ob10, cap10, cs10, sp10, rfl, (hL11.newOwn [0] rfl rfl rfl), (f12.mono (zdy [0] rfl)), hc10, trivial⟩
theorem tgathered_w (N : Nat) (p : TProb) (p_v : Value) (p_v1 : Value) (p_v2 : Value) (p_v3 : Value) (p_v4 : Value) (w : World) (S : Nat → Prop) (p_h : Rs rI (vH w S [] w) p_v p.Min) (p_h1 : Rs rI (vH w S [] w) p_v1 p.Max) (p_h2 : Rs rTTest (vH w S [] w) p_v2 p.Tests) (p_h3 : Rs rArr2Int (vH w S [] w) p_v3 p.Same) (p_h4 : Rs rArr2Int (vH w S [] w) p_v4 p.Different) (r : ((List TClass) × (List Int) × Bool)) (h : tgathered N p = some r) :
  Calls Try.prog 31 #[(zbq #[p_v, p_v1, p_v2, p_v3, p_v4])] w (Ret w (fun v w' => ∃ (ob0 : Option Nat) (cap0 : Nat) (cs0 : List Value) (sp0 : List Value) (ob1 : Option Nat) (cap1 : Nat) (cs1 : List Value) (sp1 : List Value), .tuple #[(osv ob0 0 r.1.length cap0), (osv ob1 0 r.2.1.length cap1), (zac r.2.2)] = v ∧ NewOwn w w' [ob0, ob1] [zab ([] ++ (cs0 ++ sp0)), zab ([] ++ (cs1 ++ sp1))] ∧ Els rTClass (vH w None [ob0, ob1] w') cs0 r.1 ∧ (cs0 ++ sp0).length = cap0 * rTClass.sz ∧ Els rI (vH w None [ob0, ob1] w') cs1 r.2.1 ∧ (cs1 ++ sp1).length = cap1 * rI.sz ∧ True)) := by
 unfold tgathered at h
 have hL : vL w w [] [] := Go.X.Loc.begin0 w
 refine calls_of (l := [(zbq #[p_v, p_v1, p_v2, p_v3, p_v4])]) (rl := [.tmp 2, .tmp 3, .tmp 4]) (n := 155) Try.func31 rfl rfl rfl (zai rfl) ?_
 refine zal (zah rfl (zag (zdp (cs := [p_v, p_v1, p_v2, p_v3, p_v4]) rfl rfl hL ?_)))
 intro b1 w2 hL3 hS5
 have K4 := ks w hS5
 refine zag (zaj (v := zN) rfl ?_)
 refine zag (zaj (v := zN) rfl ?_)
 refine zag (zaj (v := zF) rfl ?_)
 refine zaq (zal (zah rfl (zag (zct (vs := [p_v, p_v1, p_v2, p_v3, p_v4]) zco rfl ti31 rfl (hL3.at 0 rfl rfl) rfl rfl ?_))))
 obtain ⟨r6, q7, h⟩ := zee h
 have f10 := (p_h.mono (K4 S))
 have f11 := (p_h1.mono (K4 S))
 have f12 := (p_h2.mono (K4 S))
 have f13 := (p_h3.mono (K4 S))
 have f14 := (p_h4.mono (K4 S))
 refine zag (zbz en40 rfl rfl (tclasses_w N p p_v p_v1 p_v2 p_v3 p_v4 _ Any (f10.mono vw_any) (f11.mono vw_any) (f12.mono vw_any) (f13.mono vw_any) (f14.mono vw_any) r6 q7) ?_)
 rintro _ w10 hE10 ⟨ob8, cap9, cs10, sp10, rfl, hN10, hE11, hc10, -⟩
 replace hE11 := hE11.mono (zbv (S := None) hL3 [ob8])
 have hp10 := hL3.adoptL hE10 hN10
 have hL10 := hp10.1
 have K10 := ks w hp10.2
 refine zag (zae (v := (Value.tuple #[(osv ob8 0 r6.1.length cap9), (zI r6.2)])) rfl ?_)
 refine zag (zck (vs := [(osv ob8 0 r6.1.length cap9), (zI r6.2)]) (v := (osv ob8 0 r6.1.length cap9)) rfl rfl ?_)
 refine zag (zck (vs := [(osv ob8 0 r6.1.length cap9), (zI r6.2)]) (v := (zI r6.2)) rfl rfl ?_)
 refine zag (zaj (v := (osv ob8 0 r6.1.length cap9)) rfl ?_)
 refine zag (zaj (v := (zI r6.2)) rfl ?_)
 refine zaq (zal (zah rfl (zag (zae (v := (zI r6.2)) rfl ?_))))
 obtain ⟨x10, q10, h⟩ := zee h
 obtain ⟨m10, q11, q12, q13, q14⟩ := mk1_some q10
 refine zag (OpY.mkDeep (D := dkTClass) (zc := [(zI 0), (zI 0), zN, zN, zN]) (x := (TClass.mk 0 0 [] [] [])) zas ti56 rfl rfl ⟨_, none, zab [], _, none, zab [], rfl, rfl, rfl, DS.nil, DS.nil, rfl⟩ rfl rfl q11 q12 q13 q14 hL10 ?_)
 intro b10 w11 cs11 FB10 FC10 hD10 hc11 (hL11 : vL w w11 (some b10 :: ob8 :: some b1 :: FB10) (zab ([] ++ (cs11 ++ [])) :: zab ([] ++ (cs10 ++ sp10)) :: zab [p_v, p_v1, p_v2, p_v3, p_v4] :: FC10)) hS10
 have K11 := ks w hS10
 refine zag (zaj (v := (osv (some b10) 0 x10.length m10)) rfl ?_)
 refine zaq (zal (zal (zah rfl (zag (zae (v := (osv (some b10) 0 x10.length m10)) rfl ?_)))))
 refine zag (OpY.lenDeep (xs := x10) zas rfl rfl ?_)
 refine zag (zae (v := (zI 0)) rfl (zaq ?_))
 obtain ⟨s10, hl10, g10⟩ := zee h
 refine zbs (fun e w' => ∃ (l10 : (List TClass)) (cs12 : List Value) (FB11 : List (Option Nat)) (FC11 : List Cont) (u : Env), l10 = s10 ∧ e = upds [(1, (zam (some ⟨b1, 0, none⟩))), (5, (osv ob8 0 r6.1.length cap9)), (7, (osv (some b10) 0 x10.length m10))] u ∧ vL w w' (some b1 :: ob8 :: some b10 :: FB11) (zab [p_v, p_v1, p_v2, p_v3, p_v4] :: zab ([] ++ (cs10 ++ sp10)) :: zab ([] ++ (cs12 ++ [])) :: FC11) ∧ Keep w.heap.size (some b10 :: ob8 :: some b1 :: FB10) w11 (some b1 :: ob8 :: some b10 :: FB11) w' ∧ DEls dkTClass cs12 FB11 FC11 l10 ∧ x10.length = List.length l10 ∧ (cs12 ++ []).length = m10 * rTClass.sz ∧ True) ?_ ?_
 ·
  refine zbc ?_
  have hp11 := Loc.pickT (Op := [some b10, ob8, some b1]) (Cp := [zab ([] ++ (cs11 ++ [])), zab ([] ++ (cs10 ++ sp10)), zab [p_v, p_v1, p_v2, p_v3, p_v4]]) (FB := FB10) (FC := FC10) hL11 [2, 1, 0] rfl rfl rfl rfl
  have hL12 : vL w w11 (some b1 :: ob8 :: some b10 :: FB10) (zab [p_v, p_v1, p_v2, p_v3, p_v4] :: zab ([] ++ (cs10 ++ sp10)) :: zab ([] ++ (cs11 ++ [])) :: FC10) := hp11.1
  have K12 := ks w hp11.2
  refine zbw hl10 (fun (ss : ((List TClass) × Int)) (e : Env) (w' : World) => match ss with | (l11, x11) => ∃ (cs13 : List Value) (FB12 : List (Option Nat)) (FC12 : List Cont) (u : Env), e = upds [(1, (zam (some ⟨b1, 0, none⟩))), (5, (osv ob8 0 r6.1.length cap9)), (7, (osv (some b10) 0 x10.length m10)), (26, (zI (x10.length : Int))), (27, (zI x11))] u ∧ vL w w' (some b1 :: ob8 :: some b10 :: FB12) (zab [p_v, p_v1, p_v2, p_v3, p_v4] :: zab ([] ++ (cs10 ++ sp10)) :: zab ([] ++ (cs13 ++ [])) :: FC12) ∧ Keep w.heap.size (some b10 :: ob8 :: some b1 :: FB10) w11 (some b1 :: ob8 :: some b10 :: FB12) w' ∧ DEls dkTClass cs13 FB12 FC12 l11 ∧ x10.length = List.length l11 ∧ (cs13 ++ []).length = m10 * rTClass.sz ∧ True) ⟨cs11, FB10, FC10, _, (zef ⟨rfl, rfl, rfl, rfl, rfl, trivial⟩), hL12, K12, hD10, rfl, hc11, trivial⟩ ?_
  rintro ⟨l11, x11⟩ oo _ w12 ⟨cs13, FB12, FC12, u, rfl, hL13, K13, hD11, hl11, hc12, -⟩ h hd10
  rw [tgathered_b1] at h
  refine zal (zah rfl (zag (zcg (x := x11) (y := (x10.length : Int)) ((x11 : Int) < (x10.length : Int)) rfl rfl zbi ?_)))
  refine zaq (zal ?_)
  refine zbj ((x11 : Int) < (x10.length : Int)) rfl (fun hc13 => ?_) (fun hc13 => ?_)
  ·
   replace h := ite_t hc13 h
   refine zbl (zal (zbc (zal (zah rfl (zag (zae (v := (zI x11)) rfl ?_))))))
   refine zag (zaj (v := (zI x11)) rfl ?_)
   refine zaq (zah rfl (zag (zae (v := (osv (some b10) 0 x10.length m10)) rfl ?_)))
   refine zag (zae (v := (zI x11)) rfl ?_)
   obtain ⟨x12, n10, q16, q17, q18, h⟩ := zix h
   refine zag (zbe (r := rTClass) (b := b10) (o := 0) (n := n10) (m := x10.length) (xs := l11) (q := (0 + n10 * rTClass.sz)) zas ti56 rfl hl11 rfl q16 q18 rfl ?_)
   refine zag (zau (q := ((0 + n10 * rTClass.sz) + 1)) zbo rfl ti3 rfl rfl rfl ?_)
   obtain ⟨x13, n11, q20, q21, q22, h⟩ := zux h
   obtain rfl := zin q16 q20
   refine zdj (OpY.stDeep (D := dkTClass) (sp := []) (n := n10) (off := 1) (a' := (TClass.mk x12.low 16 x12.tests x12.words x12.apart)) ti3 rfl rfl rfl rfl rfl hL13 2 rfl rfl hD11 q17 rfl q22 (zai rfl) (fun vs bs c hr => by obtain ⟨v0, b0, k0, v1, b1, k1, rfl, rfl, rfl, d0, d1, w0⟩ := hr; exact ⟨_, _, _, _, _, _, rfl, rfl, rfl, d0, d1, w0⟩) ?_)
   have hl12 : x10.length = List.length x13 := by rw [q22, List.length_set]; exact hl11
   intro w13 cs14 (hL14 : vL w w13 (some b1 :: ob8 :: some b10 :: FB12) (zab [p_v, p_v1, p_v2, p_v3, p_v4] :: zab ([] ++ (cs10 ++ sp10)) :: zab ([] ++ (cs14 ++ [])) :: FC12)) hS11 hD12 q23
   have hc14 : (cs14 ++ []).length = m10 * rTClass.sz := zhc hc12 q23
   have K14 := ks w hS11
   refine zaq (zbf (zah rfl (zag (zbx (x := x11) (y := 1) (z := (iw (x11 + 1))) rfl rfl rfl ?_))))
   refine zag (zae (v := (zI (iw (x11 + 1)))) rfl (zaq ?_))
   obtain rfl := zad h
   refine zap ⟨(x13, (iw (x11 + 1))), rfl, ?_⟩
   exact ⟨cs14, FB12, FC12, _, (zef ⟨rfl, rfl, rfl, rfl, rfl, trivial⟩), hL14, (zak K13 K14), hD12, hl12, hc14, trivial⟩
  replace h := ite_f hc13 h
  refine zca rfl ?_
  obtain rfl := zad h
  obtain rfl := hd10 _ rfl
  replace h := g10
  try dsimp only at h
  refine zap ?_
  exact ⟨l11, cs13, FB12, FC12, _, rfl, (zef ⟨rfl, rfl, rfl, trivial⟩), hL13, K13, hD11, hl11, hc12, trivial⟩
 rintro _ w14 ⟨l10, cs12, FB11, FC11, u, rfl, rfl, hL15, K15, hD13, hl13, hc15, -⟩
 replace h := g10
 try dsimp only at h
 refine zal (zal (zah rfl (zag (zae (v := (osv ob8 0 r6.1.length cap9)) rfl ?_))))
 have f15 := ((hE11.mono (K11 None)).mono (K15 None))
 refine zag (zcj (pre := []) (r := rI) (xs := r6.1) zao rfl (hL15.at 1 rfl rfl) f15 rfl rfl ?_)
 refine zag (zae (v := (zI 0)) rfl (zaq ?_))
 obtain ⟨s11, hl14, g11⟩ := zee h
 refine zbs (fun e w' => ∃ (l12 : (List TClass)) (cs15 : List Value) (FB13 : List (Option Nat)) (FC13 : List Cont) (u : Env), l12 = s11 ∧ e = upds [(1, (zam (some ⟨b1, 0, none⟩))), (5, (osv ob8 0 r6.1.length cap9)), (7, (osv (some b10) 0 x10.length m10))] u ∧ vL w w' (some b1 :: ob8 :: some b10 :: FB13) (zab [p_v, p_v1, p_v2, p_v3, p_v4] :: zab ([] ++ (cs10 ++ sp10)) :: zab ([] ++ (cs15 ++ [])) :: FC13) ∧ Keep w.heap.size (some b1 :: ob8 :: some b10 :: FB11) w14 (some b1 :: ob8 :: some b10 :: FB13) w' ∧ DEls dkTClass cs15 FB13 FC13 l12 ∧ x10.length = List.length l12 ∧ (cs15 ++ []).length = m10 * rTClass.sz ∧ True) ?_ ?_
 ·
  refine zbc ?_
  refine zbw hl14 (fun (ss : ((List TClass) × Int)) (e : Env) (w' : World) => match ss with | (l13, x14) => ∃ (cs16 : List Value) (FB14 : List (Option Nat)) (FC14 : List Cont) (u : Env), e = upds [(1, (zam (some ⟨b1, 0, none⟩))), (5, (osv ob8 0 r6.1.length cap9)), (7, (osv (some b10) 0 x10.length m10)), (35, (osv ob8 0 r6.1.length cap9)), (36, (zI (r6.1.length : Int))), (37, (zI x14))] u ∧ vL w w' (some b1 :: ob8 :: some b10 :: FB14) (zab [p_v, p_v1, p_v2, p_v3, p_v4] :: zab ([] ++ (cs10 ++ sp10)) :: zab ([] ++ (cs16 ++ [])) :: FC14) ∧ Keep w.heap.size (some b1 :: ob8 :: some b10 :: FB11) w14 (some b1 :: ob8 :: some b10 :: FB14) w' ∧ DEls dkTClass cs16 FB14 FC14 l13 ∧ x10.length = List.length l13 ∧ (cs16 ++ []).length = m10 * rTClass.sz ∧ True) ⟨cs12, FB11, FC11, _, (zef ⟨rfl, rfl, rfl, rfl, rfl, rfl, trivial⟩), hL15, zbp, hD13, hl13, hc15, trivial⟩ ?_
  rintro ⟨l13, x14⟩ oo _ w15 ⟨cs16, FB14, FC14, u, rfl, hL16, K16, hD14, hl15, hc16, -⟩ h hd11
  rw [tgathered_b2] at h
  refine zal (zah rfl (zag (zcg (x := x14) (y := (r6.1.length : Int)) ((x14 : Int) < (r6.1.length : Int)) rfl rfl zbi ?_)))
  refine zaq (zal ?_)
  refine zbj ((x14 : Int) < (r6.1.length : Int)) rfl (fun hc17 => ?_) (fun hc17 => ?_)
  ·
   replace h := ite_t hc17 h
   refine zbl (zal (zbc (zal (zah rfl (zag (zae (v := (zI x14)) rfl ?_))))))
   obtain ⟨x15, n12, q25, q26, q27, h⟩ := zix h
   have f16 := (f15.mono (K16 None))
   obtain ⟨b11, hb10⟩ := hL16.row_some 1 rfl rfl (zev (pre := []) f16 q26 (Nat.lt_of_sub_eq_succ rfl))
   refine zag (zbe (r := rI) (b := b11) (o := 0) (n := n12) (m := r6.1.length) (xs := r6.1) (q := (0 + n12 * rI.sz)) zao ti3 (zem hb10) rfl rfl q25 q27 rfl ?_)
   obtain ⟨vs10, q28, q29, q30⟩ := zeo (pre := []) (sp := sp10) f16 q26
   obtain rfl := q29
   refine zag (zbu (v := (zI x15)) zaw rfl rfl (zeq hb10 (hL16.at 1 rfl rfl)) q30 ?_)
   refine zag (zaj (v := (zI x14)) rfl ?_)
   refine zag (zaj (v := (zI x15)) rfl (zaq ?_))
   obtain ⟨x16, n13, q32, q33, q34, h⟩ := zix h
   obtain ⟨vs11, bs10, c10, q35, q36, q37, q38⟩ := DEls.elem (sp := []) hD14 q33
   obtain ⟨v10, b12, k10, v11, b13, k11, rfl, rfl, rfl, d10, d11, q39⟩ := q35
   have q40 := elem_part (us := [(zI x16.low)]) (q := 0) q36 rfl
   obtain ⟨x17, n14, q42, q43, -, h⟩ := zix h
   have f17 := ((((f10.mono (K10 S)).mono (K11 S)).mono (K15 S)).mono (K16 S))
   obtain ⟨b14, o10, c11, vs12, q44, q45, f18, q46⟩ := zdc f17 q43
   obtain rfl := q46
   obtain ⟨x18, n15, q48, q49, q50, h⟩ := zix h
   obtain ⟨vs13, bs11, c12, q51, q52, q53, q54⟩ := DEls.elem (sp := []) hD14 q49
   obtain ⟨v12, b15, k12, v13, b16, k13, rfl, rfl, rfl, d12, d13, q55⟩ := q51
   have q56 := elem_part (us := [(zI x18.high)]) (q := 1) q52 rfl
   obtain ⟨x19, n16, q58, q59, -, h⟩ := zix h
   have f19 := ((((f11.mono (K10 S)).mono (K11 S)).mono (K15 S)).mono (K16 S))
   obtain ⟨b17, o11, c13, vs14, q60, q61, f20, q62⟩ := zdc f19 q59
   obtain rfl := q62
   obtain ⟨x20, n17, q64, q65, q66, h⟩ := zix h
   obtain ⟨x21, n18, q68, q69, q70, h⟩ := zix h
   refine Swp.drawP [28, 31] [0, 1, 2, 3, 4, 5, 6, 7, 8, 9, 10, 11, 12, 13, 14, 15, 16, 17, 18, 19, 20, 21, 22, 23, 24, 25, 26, 27, 29, 30] [(42, (osv (some b10) 0 x10.length m10)), (43, (zI x15)), (44, (osv (some b10) 0 x10.length m10)), (45, (zI x15)), (46, (osv (some b10) 0 x10.length m10)), (47, (zI x15)), (48, (zam (some ⟨b10, (0 + n13 * rTClass.sz), none⟩))), (49, (zam (some ⟨b10, ((0 + n13 * rTClass.sz) + 0), none⟩))), (50, (zI x16.low)), (51, (zam (some ⟨b1, 0, none⟩))), (52, p_v), (53, (zI x14)), (54, (zam (some ⟨b14, (o10 + n14 * rI.sz), none⟩))), (55, (zI x17)), (56, (zI (imax x16.low x17))), (57, (osv (some b10) 0 x10.length m10)), (58, (zI x15)), (59, (zam (some ⟨b10, (0 + n15 * rTClass.sz), none⟩))), (60, (zam (some ⟨b10, ((0 + n15 * rTClass.sz) + 1), none⟩))), (61, (zI x18.high)), (62, (zam (some ⟨b1, 1, none⟩))), (63, p_v1), (64, (zI x14)), (65, (zam (some ⟨b17, (o11 + n16 * rI.sz), none⟩))), (66, (zI x19)), (67, (zI (imin x18.high x19))), (68, (zam (some ⟨b10, (0 + n17 * rTClass.sz), none⟩))), (69, (zam (some ⟨b10, ((0 + n17 * rTClass.sz) + 0), none⟩))), (70, (zam (some ⟨b10, (0 + n18 * rTClass.sz), none⟩))), (71, (zam (some ⟨b10, ((0 + n18 * rTClass.sz) + 1), none⟩)))] mixed rfl rfl rfl rfl ?_
   intro w16 hE12
   obtain ⟨hL17, K17⟩ := zl hL16 hE12
   refine ⟨?_, ?_⟩
   ·
    refine zan (i := 0) rfl rfl (zar (zae (v := (osv (some b10) 0 x10.length m10)) rfl zrr)) ?_
    refine zan (i := 1) rfl rfl (zar (zae (v := (zI x15)) rfl zrr)) ?_
    refine zan (i := 2) rfl rfl (zar (zae (v := (osv (some b10) 0 x10.length m10)) rfl zrr)) ?_
    refine zan (i := 3) rfl rfl (zar (zae (v := (zI x15)) rfl zrr)) ?_
    refine zan (i := 4) rfl rfl (zar (zae (v := (osv (some b10) 0 x10.length m10)) rfl zrr)) ?_
    refine zan (i := 5) rfl rfl (zar (zae (v := (zI x15)) rfl zrr)) ?_
    refine zan (i := 6) rfl rfl (zar (zbe (r := rTClass) (b := b10) (o := 0) (n := n13) (m := x10.length) (xs := l13) (q := (0 + n13 * rTClass.sz)) zas ti56 rfl hl15 rfl q32 q34 rfl zrr)) ?_
    refine zan (i := 7) rfl rfl (zar (zau (q := ((0 + n13 * rTClass.sz) + 0)) zbo rfl ti3 rfl rfl rfl zrr)) ?_
    refine zan (i := 8) rfl rfl (zar (zbu (v := (zI x16.low)) zaw rfl rfl (hL17.at 2 rfl rfl) q40 zrr)) ?_
    refine zan (i := 9) rfl rfl (zar (zau (q := 0) zco rfl ti22 rfl rfl rfl zrr)) ?_
    refine zan (i := 10) rfl rfl (zar (zav (v := p_v) zao rfl rfl (hL17.at 0 rfl rfl) rfl zrr)) ?_
    refine zan (i := 11) rfl rfl (zar (zae (v := (zI x14)) rfl zrr)) ?_
    refine zan (i := 12) rfl rfl (zar (zby (r := rI) (v := p_v) (n := n14) (m := (o10 + n14 * rI.sz)) zao ti3 rfl q44 rfl q42 q43 rfl zrr)) ?_
    refine zan (i := 13) rfl rfl (zar (zce (v := (zI x17)) zaw rfl rfl zel (zcw (K17 S) f18) zrr)) ?_
    refine zan (i := 14) rfl rfl (zar (OpY.max (x := x16.low) (y := x17) rfl rfl zrr)) ?_
    refine zan (i := 15) rfl rfl (zar (zae (v := (osv (some b10) 0 x10.length m10)) rfl zrr)) ?_
    refine zan (i := 16) rfl rfl (zar (zae (v := (zI x15)) rfl zrr)) ?_
    refine zan (i := 17) rfl rfl (zar (zbe (r := rTClass) (b := b10) (o := 0) (n := n15) (m := x10.length) (xs := l13) (q := (0 + n15 * rTClass.sz)) zas ti56 rfl hl15 rfl q48 q50 rfl zrr)) ?_
    refine zan (i := 18) rfl rfl (zar (zau (q := ((0 + n15 * rTClass.sz) + 1)) zbo rfl ti3 rfl rfl rfl zrr)) ?_
    refine zan (i := 19) rfl rfl (zar (zbu (v := (zI x18.high)) zaw rfl rfl (hL17.at 2 rfl rfl) q56 zrr)) ?_
    refine zan (i := 20) rfl rfl (zar (zau (q := 1) zco rfl ti22 rfl rfl rfl zrr)) ?_
    refine zan (i := 21) rfl rfl (zar (zav (v := p_v1) zao rfl rfl (hL17.at 0 rfl rfl) rfl zrr)) ?_
    refine zan (i := 22) rfl rfl (zar (zae (v := (zI x14)) rfl zrr)) ?_
    refine zan (i := 23) rfl rfl (zar (zby (r := rI) (v := p_v1) (n := n16) (m := (o11 + n16 * rI.sz)) zao ti3 rfl q60 rfl q58 q59 rfl zrr)) ?_
    refine zan (i := 24) rfl rfl (zar (zce (v := (zI x19)) zaw rfl rfl zel (zcw (K17 S) f20) zrr)) ?_
    refine zan (i := 25) rfl rfl (zar (OpY.min (x := x18.high) (y := x19) rfl rfl zrr)) ?_
    refine zan (i := 26) rfl rfl (zar (zbe (r := rTClass) (b := b10) (o := 0) (n := n17) (m := x10.length) (xs := l13) (q := (0 + n17 * rTClass.sz)) zas ti56 rfl hl15 rfl q64 q66 rfl zrr)) ?_
    refine zan (i := 27) rfl rfl (zar (zau (q := ((0 + n17 * rTClass.sz) + 0)) zbo rfl ti3 rfl rfl rfl zrr)) ?_
    refine zan (i := 29) rfl rfl (zar (zbe (r := rTClass) (b := b10) (o := 0) (n := n18) (m := x10.length) (xs := l13) (q := (0 + n18 * rTClass.sz)) zas ti56 rfl hl15 rfl q68 q70 rfl zrr)) ?_
    refine zan (i := 30) rfl rfl (zar (zau (q := ((0 + n18 * rTClass.sz) + 1)) zbo rfl ti3 rfl rfl rfl zrr)) ?_
    exact zcd
   obtain ⟨x22, n19, q72, q73, q74, h⟩ := zux h
   obtain rfl := zin q64 q72
   refine RlL.op0 (OpY.stDeep (D := dkTClass) (sp := []) (n := n17) (off := 0) (a' := (TClass.mk (imax x16.low x17) x20.high x20.tests x20.words x20.apart)) ti3 rfl rfl rfl rfl rfl hL17 2 rfl rfl hD14 q65 rfl q74 (zai rfl) (fun vs bs c hr => by obtain ⟨v0, b0, k0, v1, b1, k1, rfl, rfl, rfl, d0, d1, w0⟩ := hr; exact ⟨_, _, _, _, _, _, rfl, rfl, rfl, d0, d1, w0⟩) ?_)
   have hl16 : x10.length = List.length x22 := by rw [q74, List.length_set]; exact hl15
   intro w17 cs17 (hL18 : vL w w17 (some b1 :: ob8 :: some b10 :: FB14) (zab [p_v, p_v1, p_v2, p_v3, p_v4] :: zab ([] ++ (cs10 ++ sp10)) :: zab ([] ++ (cs17 ++ [])) :: FC14)) hS12 hD15 q75
   have hc18 : (cs17 ++ []).length = m10 * rTClass.sz := zhc hc16 q75
   have K18 := ks w hS12
   refine ⟨?_, ?_⟩
   ·
    refine zan (i := 2) rfl rfl (zar (zae (v := (osv (some b10) 0 x10.length m10)) rfl zrr)) ?_
    refine zan (i := 3) rfl rfl (zar (zae (v := (zI x15)) rfl zrr)) ?_
    refine zan (i := 15) rfl rfl (zar (zae (v := (osv (some b10) 0 x10.length m10)) rfl zrr)) ?_
    refine zan (i := 16) rfl rfl (zar (zae (v := (zI x15)) rfl zrr)) ?_
    refine zan (i := 17) rfl rfl (zar (zbe (r := rTClass) (b := b10) (o := 0) (n := n15) (m := x10.length) (xs := x22) (q := (0 + n15 * rTClass.sz)) zas ti56 rfl hl16 rfl q48 (Nat.lt_of_lt_of_eq q50 (Eq.trans (Eq.symm hl15) hl16)) rfl zrr)) ?_
    refine zan (i := 18) rfl rfl (zar (zau (q := ((0 + n15 * rTClass.sz) + 1)) zbo rfl ti3 rfl rfl rfl zrr)) ?_
    refine zan (i := 20) rfl rfl (zar (zau (q := 1) zco rfl ti22 rfl rfl rfl zrr)) ?_
    refine zan (i := 21) rfl rfl (zar (zav (v := p_v1) zao rfl rfl (hL18.at 0 rfl rfl) rfl zrr)) ?_
    refine zan (i := 22) rfl rfl (zar (zae (v := (zI x14)) rfl zrr)) ?_
    refine zan (i := 23) rfl rfl (zar (zby (r := rI) (v := p_v1) (n := n16) (m := (o11 + n16 * rI.sz)) zao ti3 rfl q60 rfl q58 q59 rfl zrr)) ?_
    refine zan (i := 25) rfl rfl (zar (OpY.min (x := x18.high) (y := x19) rfl rfl zrr)) ?_
    refine zan (i := 26) rfl rfl (zar (zbe (r := rTClass) (b := b10) (o := 0) (n := n17) (m := x10.length) (xs := x22) (q := (0 + n17 * rTClass.sz)) zas ti56 rfl hl16 rfl q64 (Nat.lt_of_lt_of_eq q66 (Eq.trans (Eq.symm hl15) hl16)) rfl zrr)) ?_
    refine zan (i := 29) rfl rfl (zar (zbe (r := rTClass) (b := b10) (o := 0) (n := n18) (m := x10.length) (xs := x22) (q := (0 + n18 * rTClass.sz)) zas ti56 rfl hl16 rfl q68 (Nat.lt_of_lt_of_eq q70 (Eq.trans (Eq.symm hl15) hl16)) rfl zrr)) ?_
    refine zan (i := 30) rfl rfl (zar (zau (q := ((0 + n18 * rTClass.sz) + 1)) zbo rfl ti3 rfl rfl rfl zrr)) ?_
    exact zcd
   obtain ⟨x23, n20, q77, q78, -, h⟩ := zix h
   obtain rfl := zin q68 q77
   obtain ⟨x24, n21, q80, q81, q82, h⟩ := zux h
   obtain rfl := zin q68 q80
   refine RlL.op0 (OpY.stDeep (D := dkTClass) (sp := []) (n := n18) (off := 1) (a' := (TClass.mk x23.low (imin x18.high x19) x23.tests x23.words x23.apart)) ti3 rfl rfl rfl rfl rfl hL18 2 rfl rfl hD15 q78 rfl q82 (zai rfl) (fun vs bs c hr => by obtain ⟨v0, b0, k0, v1, b1, k1, rfl, rfl, rfl, d0, d1, w0⟩ := hr; exact ⟨_, _, _, _, _, _, rfl, rfl, rfl, d0, d1, w0⟩) ?_)
   have hl17 : x10.length = List.length x24 := by rw [q82, List.length_set]; exact hl16
   intro w18 cs18 (hL19 : vL w w18 (some b1 :: ob8 :: some b10 :: FB14) (zab [p_v, p_v1, p_v2, p_v3, p_v4] :: zab ([] ++ (cs10 ++ sp10)) :: zab ([] ++ (cs18 ++ [])) :: FC14)) hS13 hD16 q83
   have hc19 : (cs18 ++ []).length = m10 * rTClass.sz := zhc hc18 q83
   have K19 := ks w hS13
   refine ⟨?_, ?_⟩
   ·
    refine zan (i := 29) rfl rfl (zar (zbe (r := rTClass) (b := b10) (o := 0) (n := n18) (m := x10.length) (xs := x24) (q := (0 + n18 * rTClass.sz)) zas ti56 rfl hl17 rfl q68 (Nat.lt_of_lt_of_eq q70 (Eq.trans (Eq.symm hl15) hl17)) rfl zrr)) ?_
    exact zcd
   refine RlL.fin ?_
   refine zbf (zah rfl (zag (zbx (x := x14) (y := 1) (z := (iw (x14 + 1))) rfl rfl rfl ?_)))
   refine zag (zae (v := (zI (iw (x14 + 1)))) rfl (zaq ?_))
   obtain rfl := zad h
   refine zap ⟨(x24, (iw (x14 + 1))), rfl, ?_⟩
   exact ⟨cs18, FB14, FC14, _, (zef ⟨rfl, rfl, rfl, rfl, rfl, rfl, trivial⟩), hL19, (zak (zak (zak K16 K17) K18) K19), hD16, hl17, hc19, trivial⟩
  replace h := ite_f hc17 h
  refine zca rfl ?_
  obtain rfl := zad h
  obtain rfl := hd11 _ rfl
  replace h := g11
  try dsimp only at h
  refine zap ?_
  exact ⟨l13, cs16, FB14, FC14, _, rfl, (zef ⟨rfl, rfl, rfl, trivial⟩), hL16, K16, hD14, hl15, hc16, trivial⟩
 rintro _ w19 ⟨l12, cs15, FB13, FC13, u, rfl, rfl, hL20, K20, hD17, hl18, hc20, -⟩
 replace h := g11
 try dsimp only at h
 refine zal (zal (zah rfl (zag (zau (q := 2) zco rfl ti23 rfl rfl rfl ?_))))
 refine zag (zav (v := p_v2) zbk rfl rfl (hL20.at 0 rfl rfl) rfl ?_)
 have f21 := ((((f12.mono (K10 S)).mono (K11 S)).mono (K15 S)).mono (K20 S))
 refine zag (zcf (v := p_v2) zbk rfl f21 ?_)
 refine zag (zae (v := (zI 0)) rfl (zaq ?_))
 obtain ⟨s12, hl19, g12⟩ := zee h
 refine zbs (fun e w' => ∃ (l14 : (List TClass)) (cs19 : List Value) (FB15 : List (Option Nat)) (FC15 : List Cont) (u : Env), l14 = s12 ∧ e = upds [(1, (zam (some ⟨b1, 0, none⟩))), (5, (osv ob8 0 r6.1.length cap9)), (7, (osv (some b10) 0 x10.length m10))] u ∧ vL w w' (some b1 :: ob8 :: some b10 :: FB15) (zab [p_v, p_v1, p_v2, p_v3, p_v4] :: zab ([] ++ (cs10 ++ sp10)) :: zab ([] ++ (cs19 ++ [])) :: FC15) ∧ Keep w.heap.size (some b1 :: ob8 :: some b10 :: FB13) w19 (some b1 :: ob8 :: some b10 :: FB15) w' ∧ DEls dkTClass cs19 FB15 FC15 l14 ∧ x10.length = List.length l14 ∧ (cs19 ++ []).length = m10 * rTClass.sz ∧ True) ?_ ?_
 ·
  refine zbc ?_
  refine zbw hl19 (fun (ss : ((List TClass) × Int)) (e : Env) (w' : World) => match ss with | (l15, x25) => ∃ (cs20 : List Value) (FB16 : List (Option Nat)) (FC16 : List Cont) (u : Env), e = upds [(1, (zam (some ⟨b1, 0, none⟩))), (5, (osv ob8 0 r6.1.length cap9)), (7, (osv (some b10) 0 x10.length m10)), (74, p_v2), (75, (zI (p.Tests.length : Int))), (76, (zI x25))] u ∧ vL w w' (some b1 :: ob8 :: some b10 :: FB16) (zab [p_v, p_v1, p_v2, p_v3, p_v4] :: zab ([] ++ (cs10 ++ sp10)) :: zab ([] ++ (cs20 ++ [])) :: FC16) ∧ Keep w.heap.size (some b1 :: ob8 :: some b10 :: FB13) w19 (some b1 :: ob8 :: some b10 :: FB16) w' ∧ DEls dkTClass cs20 FB16 FC16 l15 ∧ x10.length = List.length l15 ∧ (cs20 ++ []).length = m10 * rTClass.sz ∧ True) ⟨cs15, FB13, FC13, _, (zef ⟨rfl, rfl, rfl, rfl, rfl, rfl, trivial⟩), hL20, zbp, hD17, hl18, hc20, trivial⟩ ?_
  rintro ⟨l15, x25⟩ oo _ w20 ⟨cs20, FB16, FC16, u, rfl, hL21, K21, hD18, hl20, hc21, -⟩ h hd12
  rw [tgathered_b3] at h
  refine zal (zah rfl (zag (zcg (x := x25) (y := (p.Tests.length : Int)) ((x25 : Int) < (p.Tests.length : Int)) rfl rfl zbi ?_)))
  refine zaq (zal ?_)
  refine zbj ((x25 : Int) < (p.Tests.length : Int)) rfl (fun hc22 => ?_) (fun hc22 => ?_)
  ·
   replace h := ite_t hc22 h
   refine zbl (zal (zbc (zal (zah rfl ?_))))
   obtain ⟨x26, n22, q85, q86, -, h⟩ := zix h
   have f22 := (f21.mono (K21 S))
   obtain ⟨b18, o12, c14, vs15, q87, q88, f23, q89⟩ := zdc f22 q86
   obtain ⟨rfl, -⟩ := rTTest_open q89
   refine zag (zby (r := rTTest) (v := p_v2) (n := n22) (m := (o12 + n22 * rTTest.sz)) zbk ti44 rfl q87 rfl q85 q86 rfl ?_)
   refine zag (OpY.ldRoA (vs := [(zI x26.Var), (zI x26.Kind), (zac x26.Negated), (zS x26.Text)]) zbd rfl ti44 rfl rfl zel f23 ?_)
   refine zag (zdu (cs := [(zI 0), (zI 0), zF, (zaf (s8 []))]) ti44 rfl hL21 ?_)
   intro b19 w21 hL22 hS14
   have K22 := ks w hS14
   refine zdj (zdg (vs := [(zI x26.Var), (zI x26.Kind), (zac x26.Negated), (zS x26.Text)]) ti44 rfl rfl rfl rfl (zei rfl (zei rfl (zei rfl (zei rfl zeu)))) hL22 0 rfl rfl (zai rfl) ?_)
   intro w22 (hL23 : vL w w22 (some b19 :: some b1 :: ob8 :: some b10 :: FB16) (zab [(zI x26.Var), (zI x26.Kind), (zac x26.Negated), (zS x26.Text)] :: zab [p_v, p_v1, p_v2, p_v3, p_v4] :: zab ([] ++ (cs10 ++ sp10)) :: zab ([] ++ (cs20 ++ [])) :: FC16)) hS15
   have K23 := ks w hS15
   refine zaq (zal (zah rfl (zag (zae (v := (osv ob8 0 r6.1.length cap9)) rfl ?_))))
   refine zag (zau (q := 0) zbd rfl ti3 rfl rfl rfl ?_)
   refine zag (zav (v := (zI x26.Var)) zaw rfl rfl (hL23.at 0 rfl rfl) rfl ?_)
   obtain ⟨x27, n23, q91, q92, q93, h⟩ := zix h
   have f24 := ((((f15.mono (K20 None)).mono (K21 None)).mono (K22 None)).mono (K23 None))
   obtain ⟨b20, hb11⟩ := hL23.row_some 2 rfl rfl (zev (pre := []) f24 q92 (Nat.lt_of_sub_eq_succ rfl))
   refine zag (zbe (r := rI) (b := b20) (o := 0) (n := n23) (m := r6.1.length) (xs := r6.1) (q := (0 + n23 * rI.sz)) zao ti3 (zem hb11) rfl rfl q91 q93 rfl ?_)
   obtain ⟨vs16, q94, q95, q96⟩ := zeo (pre := []) (sp := sp10) f24 q92
   obtain rfl := q95
   refine zag (zbu (v := (zI x27)) zaw rfl rfl (zeq hb11 (hL23.at 2 rfl rfl)) q96 ?_)
   refine zag (zaj (v := (zI x27)) rfl (zaq ?_))
   obtain ⟨x28, n24, q98, q99, q100, h⟩ := zix h
   obtain ⟨vs17, bs12, c15, q101, q102, q103, q104⟩ := DEls.elem (sp := []) hD18 q99
   obtain ⟨v14, b21, k14, v15, b22, k15, rfl, rfl, rfl, d14, d15, q105⟩ := q101
   obtain ⟨cap10, cs21, sp11, rfl, rfl, hc23, hE13⟩ := d14
   have q106 : (FB16)[(n24 * 2 + 0)]? = some b21 := q103 0 _ rfl
   have q107 : (FC16)[(n24 * 2 + 0)]? = some (zab ([] ++ (cs21 ++ sp11))) := q104 0 _ rfl
   have q108 := elem_part (us := [(osv b21 0 x28.tests.length cap10)]) (q := 2) q102 rfl
   obtain ⟨x29, n25, q110, q111, q112, h⟩ := zix h
   refine Swp.drawP [8, 9, 12] [0, 1, 2, 3, 4, 5, 6, 7, 10, 11] [(85, (osv (some b10) 0 x10.length m10)), (86, (zI x27)), (87, (osv (some b10) 0 x10.length m10)), (88, (zI x27)), (89, (zam (some ⟨b10, (0 + n24 * rTClass.sz), none⟩))), (90, (zam (some ⟨b10, ((0 + n24 * rTClass.sz) + 2), none⟩))), (91, (osv b21 0 x28.tests.length cap10)), (92, (zbq #[(zI x26.Var), (zI x26.Kind), (zac x26.Negated), (zS x26.Text)])), (95, (zam (some ⟨b10, (0 + n25 * rTClass.sz), none⟩))), (96, (zam (some ⟨b10, ((0 + n25 * rTClass.sz) + 2), none⟩)))] mixed rfl rfl rfl rfl ?_
   intro w23 hE14
   obtain ⟨hL24, K24⟩ := zl hL23 hE14
   refine ⟨?_, ?_⟩
   ·
    refine zan (i := 0) rfl rfl (zar (zae (v := (osv (some b10) 0 x10.length m10)) rfl zrr)) ?_
    refine zan (i := 1) rfl rfl (zar (zae (v := (zI x27)) rfl zrr)) ?_
    refine zan (i := 2) rfl rfl (zar (zae (v := (osv (some b10) 0 x10.length m10)) rfl zrr)) ?_
    refine zan (i := 3) rfl rfl (zar (zae (v := (zI x27)) rfl zrr)) ?_
    refine zan (i := 4) rfl rfl (zar (zbe (r := rTClass) (b := b10) (o := 0) (n := n24) (m := x10.length) (xs := l15) (q := (0 + n24 * rTClass.sz)) zas ti56 rfl hl20 rfl q98 q100 rfl zrr)) ?_
    refine zan (i := 5) rfl rfl (zar (zau (q := ((0 + n24 * rTClass.sz) + 2)) zbo rfl ti23 rfl rfl rfl zrr)) ?_
    refine zan (i := 6) rfl rfl (zar (zbu (v := (osv b21 0 x28.tests.length cap10)) zbk rfl rfl (hL24.at 3 rfl rfl) q108 zrr)) ?_
    refine zan (i := 7) rfl rfl (zar (zct (vs := [(zI x26.Var), (zI x26.Kind), (zac x26.Negated), (zS x26.Text)]) zbd rfl ti44 rfl (hL24.at 0 rfl rfl) rfl rfl zrr)) ?_
    refine zan (i := 10) rfl rfl (zar (zbe (r := rTClass) (b := b10) (o := 0) (n := n25) (m := x10.length) (xs := l15) (q := (0 + n25 * rTClass.sz)) zas ti56 rfl hl20 rfl q110 q112 rfl zrr)) ?_
    refine zan (i := 11) rfl rfl (zar (zau (q := ((0 + n25 * rTClass.sz) + 2)) zbo rfl ti23 rfl rfl rfl zrr)) ?_
    exact zcd
   have hE15 : Els rTTest (vH w None (some b19 :: some b1 :: ob8 :: some b10 :: FB16) w23) [(zI x26.Var), (zI x26.Kind), (zac x26.Negated), (zS x26.Text)] [x26] := (zcp (a := [(zI x26.Var), (zI x26.Kind), (zac x26.Negated), (zS x26.Text)]) (rTTest_close ⟨rfl, trivial⟩) zcm)
   refine RlL.op (zcl (r := rTTest) (vs := [(zbq #[(zI x26.Var), (zI x26.Kind), (zac x26.Negated), (zS x26.Text)])]) (css := [[(zI x26.Var), (zI x26.Kind), (zac x26.Negated), (zS x26.Text)]]) (xs := [x26]) zbk ti44 (zai rfl) rfl rfl ⟨rfl, rfl, trivial⟩ (zai rfl) hE15 rfl hL24 ?_)
   intro b23 w24 hc24 hL25 hS16
   have K25 := ks w hS16
   refine ⟨?_, ?_⟩
   ·
    refine zan (i := 0) rfl rfl (zar (zae (v := (osv (some b10) 0 x10.length m10)) rfl zrr)) ?_
    refine zan (i := 1) rfl rfl (zar (zae (v := (zI x27)) rfl zrr)) ?_
    refine zan (i := 2) rfl rfl (zar (zae (v := (osv (some b10) 0 x10.length m10)) rfl zrr)) ?_
    refine zan (i := 3) rfl rfl (zar (zae (v := (zI x27)) rfl zrr)) ?_
    refine zan (i := 4) rfl rfl (zar (zbe (r := rTClass) (b := b10) (o := 0) (n := n24) (m := x10.length) (xs := l15) (q := (0 + n24 * rTClass.sz)) zas ti56 rfl hl20 rfl q98 q100 rfl zrr)) ?_
    refine zan (i := 5) rfl rfl (zar (zau (q := ((0 + n24 * rTClass.sz) + 2)) zbo rfl ti23 rfl rfl rfl zrr)) ?_
    refine zan (i := 6) rfl rfl (zar (zbu (v := (osv b21 0 x28.tests.length cap10)) zbk rfl rfl (hL25.at 4 rfl rfl) q108 zrr)) ?_
    refine zan (i := 10) rfl rfl (zar (zbe (r := rTClass) (b := b10) (o := 0) (n := n25) (m := x10.length) (xs := l15) (q := (0 + n25 * rTClass.sz)) zas ti56 rfl hl20 rfl q110 q112 rfl zrr)) ?_
    refine zan (i := 11) rfl rfl (zar (zau (q := ((0 + n25 * rTClass.sz) + 2)) zbo rfl ti23 rfl rfl rfl zrr)) ?_
    exact zcd
   obtain ⟨x30, q113, h⟩ := zee h
   obtain ⟨q114, q115, q116⟩ := zer q113
   have f25 := (hE15.mono (K25 None))
   refine RlL.op (OpY.apDeep (r := rTTest) (Op := [some b23, some b19, some b1, ob8, some b10]) (Cp := [zab ([] ++ ([(zI x26.Var), (zI x26.Kind), (zac x26.Negated), (zS x26.Text)] ++ [])), zab [(zI x26.Var), (zI x26.Kind), (zac x26.Negated), (zS x26.Text)], zab [p_v, p_v1, p_v2, p_v3, p_v4], zab ([] ++ (cs10 ++ sp10)), zab ([] ++ (cs20 ++ []))]) (FB := FB16) (FC := FC16) (cs := cs21) (sp := sp11) (xs := x28.tests) (ys := [x26]) (Y := x30) (n := List.length x28.tests) (cap := cap10) (j := (n24 * 2 + 0)) zbk ti44 rfl rfl rfl rfl hL25 rfl q106 q107 hE13 rfl hc23 (zdw (pre := []) (o := 0) (n := 1) (cap := 1) (hL25.at 0 rfl rfl) f25 rfl rfl rfl) (zci (fun _ _ _ _ h => h) f25) q114 q115 q116 ?_)
   intro ob10 cap11 sp12 cs22 w25 hE16 hc25 (hL26 : vL w w25 (some b23 :: some b19 :: some b1 :: ob8 :: some b10 :: (List.set FB16 (n24 * 2 + 0) ob10)) (zab ([] ++ ([(zI x26.Var), (zI x26.Kind), (zac x26.Negated), (zS x26.Text)] ++ [])) :: zab [(zI x26.Var), (zI x26.Kind), (zac x26.Negated), (zS x26.Text)] :: zab [p_v, p_v1, p_v2, p_v3, p_v4] :: zab ([] ++ (cs10 ++ sp10)) :: zab ([] ++ (cs20 ++ [])) :: (List.set FC16 (n24 * 2 + 0) (zab ([] ++ (cs22 ++ sp12)))))) hS17
   have K26 := ks w hS17
   refine ⟨?_, ?_⟩
   ·
    refine zan (i := 0) rfl rfl (zar (zae (v := (osv (some b10) 0 x10.length m10)) rfl zrr)) ?_
    refine zan (i := 1) rfl rfl (zar (zae (v := (zI x27)) rfl zrr)) ?_
    refine zan (i := 2) rfl rfl (zar (zae (v := (osv (some b10) 0 x10.length m10)) rfl zrr)) ?_
    refine zan (i := 3) rfl rfl (zar (zae (v := (zI x27)) rfl zrr)) ?_
    refine zan (i := 4) rfl rfl (zar (zbe (r := rTClass) (b := b10) (o := 0) (n := n24) (m := x10.length) (xs := l15) (q := (0 + n24 * rTClass.sz)) zas ti56 rfl hl20 rfl q98 q100 rfl zrr)) ?_
    refine zan (i := 5) rfl rfl (zar (zau (q := ((0 + n24 * rTClass.sz) + 2)) zbo rfl ti23 rfl rfl rfl zrr)) ?_
    refine zan (i := 10) rfl rfl (zar (zbe (r := rTClass) (b := b10) (o := 0) (n := n25) (m := x10.length) (xs := l15) (q := (0 + n25 * rTClass.sz)) zas ti56 rfl hl20 rfl q110 q112 rfl zrr)) ?_
    refine zan (i := 11) rfl rfl (zar (zau (q := ((0 + n25 * rTClass.sz) + 2)) zbo rfl ti23 rfl rfl rfl zrr)) ?_
    exact zcd
   obtain ⟨x31, n26, q118, q119, q120, h⟩ := zux h
   obtain rfl := zin q110 q118
   refine RlL.op0 (OpY.stDeepS (D := dkTClass) (sp := []) (n := n25) (off := 2) (a' := (TClass.mk x29.low x29.high x30 x29.words x29.apart)) ti23 rfl rfl rfl (zes (zen _ _ _ _)) (zen _ _ _ _) hL26 4 rfl rfl hD18 q111 rfl q120 (zai rfl) (f := 0) (j := (n24 * 2 + 0)) (ob := ob10) (k := zab ([] ++ (cs22 ++ sp12))) (zai rfl) (show n25 * 2 + 0 = (n24 * 2 + 0) by rw [zin q110 q98]) (fun vs bs c hr => by obtain ⟨v0, b0, k0, v1, b1, k1, rfl, rfl, rfl, d0, d1, w0⟩ := hr; exact ⟨_, _, _, _, _, _, rfl, rfl, rfl, ⟨_, _, _, rfl, rfl, hc25, hE16⟩, d1, w0⟩) ?_)
   have hl21 : x10.length = List.length x31 := by rw [q120, List.length_set]; exact hl20
   intro w26 cs23 (hL27 : vL w w26 (some b23 :: some b19 :: some b1 :: ob8 :: some b10 :: (List.set FB16 (n24 * 2 + 0) ob10)) (zab ([] ++ ([(zI x26.Var), (zI x26.Kind), (zac x26.Negated), (zS x26.Text)] ++ [])) :: zab [(zI x26.Var), (zI x26.Kind), (zac x26.Negated), (zS x26.Text)] :: zab [p_v, p_v1, p_v2, p_v3, p_v4] :: zab ([] ++ (cs10 ++ sp10)) :: zab ([] ++ (cs23 ++ [])) :: (List.set FC16 (n24 * 2 + 0) (zab ([] ++ (cs22 ++ sp12)))))) hS18 hD19 q121
   have hc26 : (cs23 ++ []).length = m10 * rTClass.sz := zhc hc21 q121
   have K27 := ks w hS18
   refine ⟨?_, ?_⟩
   ·
    refine zan (i := 10) rfl rfl (zar (zbe (r := rTClass) (b := b10) (o := 0) (n := n25) (m := x10.length) (xs := x31) (q := (0 + n25 * rTClass.sz)) zas ti56 rfl hl21 rfl q110 (Nat.lt_of_lt_of_eq q112 (Eq.trans (Eq.symm hl20) hl21)) rfl zrr)) ?_
    exact zcd
   refine RlL.fin ?_
   refine zbf (zah rfl (zag (zbx (x := x25) (y := 1) (z := (iw (x25 + 1))) rfl rfl rfl ?_)))
   refine zag (zae (v := (zI (iw (x25 + 1)))) rfl (zaq ?_))
   have hp12 := Loc.pickT (Op := [some b23, some b19, some b1, ob8, some b10]) (Cp := [zab ([] ++ ([(zI x26.Var), (zI x26.Kind), (zac x26.Negated), (zS x26.Text)] ++ [])), zab [(zI x26.Var), (zI x26.Kind), (zac x26.Negated), (zS x26.Text)], zab [p_v, p_v1, p_v2, p_v3, p_v4], zab ([] ++ (cs10 ++ sp10)), zab ([] ++ (cs23 ++ []))]) (FB := (List.set FB16 (n24 * 2 + 0) ob10)) (FC := (List.set FC16 (n24 * 2 + 0) (zab ([] ++ (cs22 ++ sp12))))) hL27 [2, 3, 4] rfl rfl rfl rfl
   have hL28 : vL w w26 (some b1 :: ob8 :: some b10 :: (List.set FB16 (n24 * 2 + 0) ob10)) (zab [p_v, p_v1, p_v2, p_v3, p_v4] :: zab ([] ++ (cs10 ++ sp10)) :: zab ([] ++ (cs23 ++ [])) :: (List.set FC16 (n24 * 2 + 0) (zab ([] ++ (cs22 ++ sp12))))) := hp12.1
   have K28 := ks w hp12.2
   obtain rfl := zad h
   refine zap ⟨(x31, (iw (x25 + 1))), rfl, ?_⟩
   exact ⟨cs23, (List.set FB16 (n24 * 2 + 0) ob10), (List.set FC16 (n24 * 2 + 0) (zab ([] ++ (cs22 ++ sp12)))), _, (zef ⟨rfl, rfl, rfl, rfl, rfl, rfl, trivial⟩), hL28, (zak (zak (zak (zak (zak (zak (zak K21 K22) K23) K24) K25) K26) K27) K28), hD19, hl21, hc26, trivial⟩
  replace h := ite_f hc22 h
  refine zca rfl ?_
  obtain rfl := zad h
  obtain rfl := hd12 _ rfl
  replace h := g12
  try dsimp only at h
  refine zap ?_
  exact ⟨l15, cs20, FB16, FC16, _, rfl, (zef ⟨rfl, rfl, rfl, trivial⟩), hL21, K21, hD18, hl20, hc21, trivial⟩
 rintro _ w27 ⟨l14, cs19, FB15, FC15, u, rfl, rfl, hL29, K29, hD20, hl22, hc27, -⟩
 replace h := g12
 try dsimp only at h
 refine zal (zal (zah rfl (zag (zau (q := 4) zco rfl ti24 rfl rfl rfl ?_))))
 refine zag (zav (v := p_v4) zbr rfl rfl (hL29.at 0 rfl rfl) rfl ?_)
 have f26 := (((((f14.mono (K10 S)).mono (K11 S)).mono (K15 S)).mono (K20 S)).mono (K29 S))
 refine zag (zcf (v := p_v4) zbr rfl f26 ?_)
 refine zag (zae (v := (zI 0)) rfl (zaq ?_))
 obtain ⟨s13, hl23, g13⟩ := zee h
 refine zbs (fun e w' => ∃ (l16 : (List TClass)) (cs24 : List Value) (FB17 : List (Option Nat)) (FC17 : List Cont) (u : Env), (Sum.inl l16) = s13 ∧ e = upds [(5, (osv ob8 0 r6.1.length cap9)), (7, (osv (some b10) 0 x10.length m10))] u ∧ vL w w' (ob8 :: some b10 :: FB17) (zab ([] ++ (cs10 ++ sp10)) :: zab ([] ++ (cs24 ++ [])) :: FC17) ∧ Keep w.heap.size (some b1 :: ob8 :: some b10 :: FB15) w27 (ob8 :: some b10 :: FB17) w' ∧ DEls dkTClass cs24 FB17 FC17 l16 ∧ x10.length = List.length l16 ∧ (cs24 ++ []).length = m10 * rTClass.sz ∧ True) ?_ ?_
 ·
  refine zbc ?_
  have hp13 := Loc.pickT (Op := [some b1, ob8, some b10]) (Cp := [zab [p_v, p_v1, p_v2, p_v3, p_v4], zab ([] ++ (cs10 ++ sp10)), zab ([] ++ (cs19 ++ []))]) (FB := FB15) (FC := FC15) hL29 [1, 2] rfl rfl rfl rfl
  have hL30 : vL w w27 (ob8 :: some b10 :: FB15) (zab ([] ++ (cs10 ++ sp10)) :: zab ([] ++ (cs19 ++ [])) :: FC15) := hp13.1
  have K30 := ks w hp13.2
  refine zbw hl23 (fun (ss : ((List TClass) × Int)) (e : Env) (w' : World) => match ss with | (l17, x32) => ∃ (cs25 : List Value) (FB18 : List (Option Nat)) (FC18 : List Cont) (u : Env), e = upds [(5, (osv ob8 0 r6.1.length cap9)), (7, (osv (some b10) 0 x10.length m10)), (99, p_v4), (100, (zI (p.Different.length : Int))), (101, (zI x32))] u ∧ vL w w' (ob8 :: some b10 :: FB18) (zab ([] ++ (cs10 ++ sp10)) :: zab ([] ++ (cs25 ++ [])) :: FC18) ∧ Keep w.heap.size (some b1 :: ob8 :: some b10 :: FB15) w27 (ob8 :: some b10 :: FB18) w' ∧ DEls dkTClass cs25 FB18 FC18 l17 ∧ x10.length = List.length l17 ∧ (cs25 ++ []).length = m10 * rTClass.sz ∧ True) ⟨cs19, FB15, FC15, _, (zef ⟨rfl, rfl, rfl, rfl, rfl, trivial⟩), hL30, K30, hD20, hl22, hc27, trivial⟩ ?_
  rintro ⟨l17, x32⟩ oo _ w28 ⟨cs25, FB18, FC18, u, rfl, hL31, K31, hD21, hl24, hc28, -⟩ h hd13
  rw [tgathered_b4] at h
  refine zal (zah rfl (zag (zcg (x := x32) (y := (p.Different.length : Int)) ((x32 : Int) < (p.Different.length : Int)) rfl rfl zbi ?_)))
  refine zaq (zal ?_)
  refine zbj ((x32 : Int) < (p.Different.length : Int)) rfl (fun hc29 => ?_) (fun hc29 => ?_)
  ·
   replace h := ite_t hc29 h
   refine zbl (zal (zbc (zal (zah rfl ?_))))
   obtain ⟨x33, n27, q123, q124, -, h⟩ := zix h
   have f27 := (f26.mono (K31 S))
   obtain ⟨b24, o13, c16, vs18, q125, q126, f28, q127⟩ := zdc f27 q124
   obtain ⟨rfl, -⟩ := rArr2Int_open q127
   refine zag (zby (r := rArr2Int) (v := p_v4) (n := n27) (m := (o13 + n27 * rArr2Int.sz)) zbr ti45 rfl q125 rfl q123 q124 rfl ?_)
   refine zag (OpY.ldRoA (vs := [(zI x33.e0), (zI x33.e1)]) zcc rfl ti45 rfl rfl zel f28 ?_)
   refine zag (zdu (cs := [(zI 0), (zI 0)]) ti45 rfl hL31 ?_)
   intro b25 w29 hL32 hS19
   have K32 := ks w hS19
   refine zdj (zdg (vs := [(zI x33.e0), (zI x33.e1)]) ti45 rfl rfl rfl rfl (zei rfl (zei rfl zeu)) hL32 0 rfl rfl (zai rfl) ?_)
   intro w30 (hL33 : vL w w30 (some b25 :: ob8 :: some b10 :: FB18) (zab [(zI x33.e0), (zI x33.e1)] :: zab ([] ++ (cs10 ++ sp10)) :: zab ([] ++ (cs25 ++ [])) :: FC18)) hS20
   have K33 := ks w hS20
   refine zaq (zal ?_)
   obtain ⟨x34, n28, q129, q130, q131, h⟩ := zix h
   have f29 := (((((f15.mono (K20 None)).mono (K29 None)).mono (K31 None)).mono (K32 None)).mono (K33 None))
   obtain ⟨b26, hb12⟩ := hL33.row_some 1 rfl rfl (zev (pre := []) f29 q130 (Nat.lt_of_sub_eq_succ rfl))
   obtain ⟨vs19, q132, q133, q134⟩ := zeo (pre := []) (sp := sp10) f29 q130
   obtain rfl := q133
   obtain ⟨x35, n29, q136, q137, q138, h⟩ := zix h
   obtain ⟨vs20, q139, q140, q141⟩ := zeo (pre := []) (sp := sp10) f29 q137
   obtain rfl := q140
   refine zcy 11 [] [] (fun W1 => [.det (osv ob8 0 r6.1.length cap9), .det (zam (some ⟨b25, 0, none⟩)), .det (zI x33.e0), .det (zam (some ⟨b26, (0 + n28 * rI.sz), none⟩)), .det (zI x34), .det (osv ob8 0 r6.1.length cap9), .det (zam (some ⟨b25, 1, none⟩)), .det (zI x33.e1), .det (zam (some ⟨b26, (0 + n29 * rI.sz), none⟩)), .det (zI x35), .det (zI x34)]) mixed rfl rfl rfl (fun _ => rfl) (fun _ => rfl) ?_ ?_
   ·
    intro W1 _
    exact trivial
   intro w31 hE17
   obtain ⟨hL34, K34⟩ := zl hL33 hE17
   refine zay (fun _ _ => zar (zae rfl (er rfl))) ?_
   refine zay (fun _ _ => zar (zcs (i := 0) (q := 0) zcc ti3 rfl rfl (by decide) rfl (er rfl))) ?_
   refine zay (fun _ hE20 => zar (zav zaw rfl rfl ((hL34.ext hE20).at 0 rfl rfl) rfl (er rfl))) ?_
   refine zay (fun _ _ => zar (zbe (r := rI) (b := b26) (o := 0) (n := n28) (m := r6.1.length) (xs := r6.1) (q := (0 + n28 * rI.sz)) zao ti3 (zem hb12) rfl rfl q129 q131 rfl (er rfl))) ?_
   refine zay (fun _ hE22 => zar (zbu zaw rfl rfl (zeq hb12 ((hL34.ext hE22).at 1 rfl rfl)) q134 (er rfl))) ?_
   refine zay (fun _ _ => zar (zae rfl (er rfl))) ?_
   refine zay (fun _ _ => zar (zcs (i := 1) (q := 1) zcc ti3 rfl rfl (by decide) rfl (er rfl))) ?_
   refine zay (fun _ hE25 => zar (zav zaw rfl rfl ((hL34.ext hE25).at 0 rfl rfl) rfl (er rfl))) ?_
   refine zay (fun _ _ => zar (zbe (r := rI) (b := b26) (o := 0) (n := n29) (m := r6.1.length) (xs := r6.1) (q := (0 + n29 * rI.sz)) zao ti3 (zem hb12) rfl rfl q136 q138 rfl (er rfl))) ?_
   refine zay (fun _ hE27 => zar (zbu zaw rfl rfl (zeq hb12 ((hL34.ext hE27).at 1 rfl rfl)) q141 (er rfl))) ?_
   refine zay (fun _ _ => zar (zaj rfl (er rfl))) ?_
   refine zdh ?_
   rintro w43 Z30 hE29 hZ21 ⟨-⟩ ap10
   have hB10 := @zhb w31 Z30
   obtain ⟨hL39, K35⟩ := zl hL34 hE29
   refine zag (zaj (v := (zI x35)) rfl ?_)
   refine zaq (zal (zal (zah rfl (zag (zae (v := (zI x34)) rfl ?_)))))
   refine zag (zae (v := (zI x35)) rfl ?_)
   refine zag (zcv (x := x34) (y := x35) ((x34 : Int) = x35) rfl rfl zbi (zaq ?_))
   refine zbj ((x34 : Int) = x35) rfl (fun hc30 => ?_) (fun hc30 => ?_)
   ·
    replace h := ite_t hc30 h
    refine zal (zah rfl (zag (zae (v := (osv (some b10) 0 x10.length m10)) rfl ?_)))
    refine zag (zae (v := (osv ob8 0 r6.1.length cap9)) rfl ?_)
    refine zag (zaj (v := (osv (some b10) 0 x10.length m10)) rfl ?_)
    refine zag (zaj (v := (osv ob8 0 r6.1.length cap9)) rfl ?_)
    refine zag (zaj (v := zF) rfl (zaq ?_))
    have hp14 := Loc.settle (S := None) (Op := [some b25, ob8, some b10]) (Cp := [zab [(zI x33.e0), (zI x33.e1)], zab ([] ++ (cs10 ++ sp10)), zab ([] ++ (cs25 ++ []))]) (FB := FB18) (FC := FC18) hL39 rfl hD21
    have f30 := hp14.1
    have hL40 : vL w w43 [some b25, ob8, some b10] [zab [(zI x33.e0), (zI x33.e1)], zab ([] ++ (cs10 ++ sp10)), zab ([] ++ (cs25 ++ []))] := hp14.2.1
    have K36 := ks w hp14.2.2
    refine zbt ?_
    obtain rfl := zad h
    obtain rfl := hd13 _ rfl
    replace h := g13
    try dsimp only at h
    obtain rfl := zad h
    refine ⟨[(osv (some b10) 0 x10.length m10), (osv ob8 0 r6.1.length cap9), zF], ⟨rfl, rfl, rfl, trivial⟩, ⟨_, rfl, hL40.done, ?_⟩⟩
    have f31 := (((f29.mono (K34 None)).mono (K35 None)).mono (K36 None))
    exact ⟨some b10, m10, cs25, [], ob8, cap9, cs10, sp10, (by rw [← hl24]; rfl), (hL40.newOwn [2, 1] rfl rfl rfl), (f30.mono (zdy [2, 1] rfl)), hc28, (f31.mono (zdy [2, 1] rfl)), hc10, trivial⟩
   replace h := ite_f hc30 h
   refine zbl (zal (zah rfl (zag (zae (v := (osv (some b10) 0 x10.length m10)) rfl ?_))))
   refine zag (zae (v := (zI x34)) rfl ?_)
   obtain ⟨x36, n30, q143, q144, q145, h⟩ := zix h
   refine zag (zbe (r := rTClass) (b := b10) (o := 0) (n := n30) (m := x10.length) (xs := l17) (q := (0 + n30 * rTClass.sz)) zas ti56 rfl hl24 rfl q143 q145 rfl ?_)
   refine zag (zau (q := ((0 + n30 * rTClass.sz) + 4)) zbo rfl ti22 rfl rfl rfl ?_)
   obtain ⟨vs21, bs13, c17, q146, q147, q148, q149⟩ := DEls.elem (sp := []) hD21 q144
   obtain ⟨v16, b27, k16, v17, b28, k17, rfl, rfl, rfl, d16, d17, q150⟩ := q146
   obtain ⟨cap12, cs26, sp13, rfl, rfl, hc31, hE30⟩ := d17
   have q151 : (FB18)[(n30 * 2 + 1)]? = some b28 := q148 1 _ rfl
   have q152 : (FC18)[(n30 * 2 + 1)]? = some (zab ([] ++ (cs26 ++ sp13))) := q149 1 _ rfl
   have q153 := elem_part (us := [(osv b28 0 x36.apart.length cap12)]) (q := 4) q147 rfl
   refine zag (zbu (v := (osv b28 0 x36.apart.length cap12)) zao rfl rfl (hL39.at 2 rfl rfl) q153 ?_)
   refine zag (zae (v := (zI x35)) rfl ?_)
   obtain ⟨r10, q154, h⟩ := zee h
   refine zag (zbz en59 rfl rfl (containsOf_w N x36.apart x35 (osv b28 0 x36.apart.length cap12) _ Any (zej (pre := []) (o := 0) (n := List.length x36.apart) (cap := cap12) (Loc.atT (Op := [some b25, ob8, some b10]) (Cp := [zab [(zI x33.e0), (zI x33.e1)], zab ([] ++ (cs10 ++ sp10)), zab ([] ++ (cs25 ++ []))]) (FB := FB18) (FC := FC18) hL39 rfl q151 q152) hE30 H0.le rfl rfl rfl hc31) r10 q154) ?_)
   rintro _ w44 hE31 ⟨rfl, -⟩
   obtain ⟨hL41, K37⟩ := zl hL39 hE31
   refine zag (OpY.not (x := r10) rfl (zaq ?_))
   refine zch (!r10) rfl (fun hc32 => ?_) (fun hc32 => ?_)
   ·
    replace h := ite_t hc32 h
    obtain ⟨x37, n31, q156, q157, q158, h⟩ := zix h
    obtain ⟨vs22, bs14, c18, q159, q160, q161, q162⟩ := DEls.elem (sp := []) hD21 q157
    obtain ⟨v18, b29, k18, v19, b30, k19, rfl, rfl, rfl, d18, d19, q163⟩ := q159
    obtain ⟨cap13, cs27, sp14, rfl, rfl, hc33, hE32⟩ := d19
    have q164 : (FB18)[(n31 * 2 + 1)]? = some b30 := q161 1 _ rfl
    have q165 : (FC18)[(n31 * 2 + 1)]? = some (zab ([] ++ (cs27 ++ sp14))) := q162 1 _ rfl
    have q166 := elem_part (us := [(osv b30 0 x37.apart.length cap13)]) (q := 4) q160 rfl
    obtain ⟨x38, n32, q168, q169, q170, h⟩ := zix h
    obtain ⟨vs23, bs15, c19, q171, q172, q173, q174⟩ := DEls.elem (sp := []) hD21 q169
    obtain ⟨v20, b31, k20, v21, b32, k21, rfl, rfl, rfl, d20, d21, q175⟩ := q171
    obtain ⟨cap14, cs28, sp15, rfl, rfl, hc34, hE33⟩ := d21
    have q176 : (FB18)[(n32 * 2 + 1)]? = some b32 := q173 1 _ rfl
    have q177 : (FC18)[(n32 * 2 + 1)]? = some (zab ([] ++ (cs28 ++ sp15))) := q174 1 _ rfl
    have q178 := elem_part (us := [(osv b32 0 x38.apart.length cap14)]) (q := 4) q172 rfl
    refine Swp.drawF (O := (some b25 :: ob8 :: some b10 :: FB18)) [11, 19, 22, 25] [0, 1, 2, 3, 4, 5, 6, 7, 8, 9, 12, 13, 14, 15, 16, 17, 20, 21, 23, 24] [0, 1, 2, 3, 4, 5, 6, 7, 8, 9, 12, 13, 14, 15, 16, 17] [(10, 138), (18, 146)] [(128, (osv (some b10) 0 x10.length m10)), (129, (zI x34)), (130, (osv (some b10) 0 x10.length m10)), (131, (zI x35)), (132, (osv (some b10) 0 x10.length m10)), (133, (zI x34)), (134, (zam (some ⟨b10, (0 + n31 * rTClass.sz), none⟩))), (135, (zam (some ⟨b10, ((0 + n31 * rTClass.sz) + 4), none⟩))), (136, (osv b30 0 x37.apart.length cap13)), (137, (zI x35)), (140, (osv (some b10) 0 x10.length m10)), (141, (zI x35)), (142, (zam (some ⟨b10, (0 + n32 * rTClass.sz), none⟩))), (143, (zam (some ⟨b10, ((0 + n32 * rTClass.sz) + 4), none⟩))), (144, (osv b32 0 x38.apart.length cap14)), (145, (zI x34))] (fun f v O w' => Rs rI (vH w None O w') v (bif Nat.beq f 10 then [x35] else (bif Nat.beq f 18 then [x34] else []))) w.heap.size mixed rfl rfl rfl rfl (fun b hb => hL41.own.lt b hb) hL41.size (fun _ _ _ _ _ _ h hs => h.mono (hs _)) (FloatP.cons rfl (fun w1 O1 hK hs hO => zar (OpY.litInts (ys := [x35]) zao ti3 rfl rfl (by decide) (by decide) hs hO)) (FloatP.cons rfl (fun w1 O1 hK hs hO => zar (OpY.litInts (ys := [x34]) zao ti3 rfl rfl (by decide) (by decide) hs hO)) FloatP.nil)) ?_
    intro w45 hE34
    obtain ⟨hL42, K38⟩ := zl hL41 hE34
    refine ⟨?_, ?_⟩
    ·
     intro w46 hE35
     have hL43 := hL42.ext hE35
     refine zan (i := 0) rfl rfl (zar (zae (v := (osv (some b10) 0 x10.length m10)) rfl zrr)) ?_
     refine zan (i := 1) rfl rfl (zar (zae (v := (zI x34)) rfl zrr)) ?_
     refine zan (i := 2) rfl rfl (zar (zae (v := (osv (some b10) 0 x10.length m10)) rfl zrr)) ?_
     refine zan (i := 3) rfl rfl (zar (zae (v := (zI x35)) rfl zrr)) ?_
     refine zan (i := 4) rfl rfl (zar (zae (v := (osv (some b10) 0 x10.length m10)) rfl zrr)) ?_
     refine zan (i := 5) rfl rfl (zar (zae (v := (zI x34)) rfl zrr)) ?_
     refine zan (i := 6) rfl rfl (zar (zbe (r := rTClass) (b := b10) (o := 0) (n := n31) (m := x10.length) (xs := l17) (q := (0 + n31 * rTClass.sz)) zas ti56 rfl hl24 rfl q156 q158 rfl zrr)) ?_
     refine zan (i := 7) rfl rfl (zar (zau (q := ((0 + n31 * rTClass.sz) + 4)) zbo rfl ti22 rfl rfl rfl zrr)) ?_
     refine zan (i := 8) rfl rfl (zar (zbu (v := (osv b30 0 x37.apart.length cap13)) zao rfl rfl (hL43.at 2 rfl rfl) q166 zrr)) ?_
     refine zan (i := 9) rfl rfl (zar (zae (v := (zI x35)) rfl zrr)) ?_
     refine zan (i := 12) rfl rfl (zar (zae (v := (osv (some b10) 0 x10.length m10)) rfl zrr)) ?_
     refine zan (i := 13) rfl rfl (zar (zae (v := (zI x35)) rfl zrr)) ?_
     refine zan (i := 14) rfl rfl (zar (zbe (r := rTClass) (b := b10) (o := 0) (n := n32) (m := x10.length) (xs := l17) (q := (0 + n32 * rTClass.sz)) zas ti56 rfl hl24 rfl q168 q170 rfl zrr)) ?_
     refine zan (i := 15) rfl rfl (zar (zau (q := ((0 + n32 * rTClass.sz) + 4)) zbo rfl ti22 rfl rfl rfl zrr)) ?_
     refine zan (i := 16) rfl rfl (zar (zbu (v := (osv b32 0 x38.apart.length cap14)) zao rfl rfl (hL43.at 2 rfl rfl) q178 zrr)) ?_
     refine zan (i := 17) rfl rfl (zar (zae (v := (zI x34)) rfl zrr)) ?_
     exact zcd
    refine zdm (m := 3) [11] rfl rfl (fun q hq => ?_)
    obtain rfl := List.mem_singleton.1 hq
    refine zdt rfl ?_
    intro w47 V10 hE36 hp15
    obtain ⟨hL44, K39⟩ := zl hL42 hE36
    have f32 : Rs rI (vH w None (some b25 :: ob8 :: some b10 :: FB18) w47) (V10 10) [x35] := hp15 (10, 138) (by decide) rfl
    obtain ⟨x39, q179, h⟩ := zee h
    obtain ⟨q180, q181, q182⟩ := zer q179
    obtain ⟨ds10, q183, q184⟩ := Rs.src f32
    refine OpY.apDeep (r := rI) (Op := [some b25, ob8, some b10]) (Cp := [zab [(zI x33.e0), (zI x33.e1)], zab ([] ++ (cs10 ++ sp10)), zab ([] ++ (cs25 ++ []))]) (FB := FB18) (FC := FC18) (cs := cs27) (sp := sp14) (xs := x37.apart) (ys := [x35]) (Y := x39) (n := List.length x37.apart) (cap := cap13) (j := (n31 * 2 + 1)) zao ti3 rfl rfl rfl rfl hL44 rfl q164 q165 hE32 rfl hc33 q183 (zci (fun _ _ _ _ h => h) q184) q180 q181 q182 ?_
    intro ob11 cap15 sp16 cs29 w48 hE37 hc35 (hL45 : vL w w48 (some b25 :: ob8 :: some b10 :: (List.set FB18 (n31 * 2 + 1) ob11)) (zab [(zI x33.e0), (zI x33.e1)] :: zab ([] ++ (cs10 ++ sp10)) :: zab ([] ++ (cs25 ++ [])) :: (List.set FC18 (n31 * 2 + 1) (zab ([] ++ (cs29 ++ sp16)))))) hS21
    have K40 := ks w hS21
    refine ⟨_, [], [], K40, (fun b hb => hL45.own.lt b hb), hL45.size, rfl, rfl, ?_⟩
    refine ⟨?_, ?_⟩
    ·
     intro w49 hE38
     have hL46 := hL45.ext hE38
     refine zan (i := 0) rfl rfl (zar (zae (v := (osv (some b10) 0 x10.length m10)) rfl zrr)) ?_
     refine zan (i := 1) rfl rfl (zar (zae (v := (zI x34)) rfl zrr)) ?_
     refine zan (i := 2) rfl rfl (zar (zae (v := (osv (some b10) 0 x10.length m10)) rfl zrr)) ?_
     refine zan (i := 3) rfl rfl (zar (zae (v := (zI x35)) rfl zrr)) ?_
     refine zan (i := 4) rfl rfl (zar (zae (v := (osv (some b10) 0 x10.length m10)) rfl zrr)) ?_
     refine zan (i := 5) rfl rfl (zar (zae (v := (zI x34)) rfl zrr)) ?_
     refine zan (i := 6) rfl rfl (zar (zbe (r := rTClass) (b := b10) (o := 0) (n := n31) (m := x10.length) (xs := l17) (q := (0 + n31 * rTClass.sz)) zas ti56 rfl hl24 rfl q156 q158 rfl zrr)) ?_
     refine zan (i := 7) rfl rfl (zar (zau (q := ((0 + n31 * rTClass.sz) + 4)) zbo rfl ti22 rfl rfl rfl zrr)) ?_
     refine zan (i := 9) rfl rfl (zar (zae (v := (zI x35)) rfl zrr)) ?_
     refine zan (i := 12) rfl rfl (zar (zae (v := (osv (some b10) 0 x10.length m10)) rfl zrr)) ?_
     refine zan (i := 13) rfl rfl (zar (zae (v := (zI x35)) rfl zrr)) ?_
     refine zan (i := 14) rfl rfl (zar (zbe (r := rTClass) (b := b10) (o := 0) (n := n32) (m := x10.length) (xs := l17) (q := (0 + n32 * rTClass.sz)) zas ti56 rfl hl24 rfl q168 q170 rfl zrr)) ?_
     refine zan (i := 15) rfl rfl (zar (zau (q := ((0 + n32 * rTClass.sz) + 4)) zbo rfl ti22 rfl rfl rfl zrr)) ?_
     refine zan (i := 16) rfl rfl (zar (zbu (v := (osv b32 0 x38.apart.length cap14)) zao rfl rfl (hL46.at 2 rfl rfl) q178 zrr)) ?_
     refine zan (i := 17) rfl rfl (zar (zae (v := (zI x34)) rfl zrr)) ?_
     exact zcd
    refine zdm (m := 2) [19] rfl rfl (fun q hq => ?_)
    obtain rfl := List.mem_singleton.1 hq
    refine zdt rfl ?_
    intro w50 V11 hE39 hp16
    obtain ⟨hL47, K41⟩ := zl hL45 hE39
    have f33 : Rs rI (vH w None (some b25 :: ob8 :: some b10 :: (List.set FB18 (n31 * 2 + 1) ob11)) w50) (V11 18) [x34] := hp16 (18, 146) (by decide) rfl
    obtain ⟨x40, q185, h⟩ := zee h
    obtain ⟨q186, q187, q188⟩ := zer q185
    obtain ⟨ds11, q189, q190⟩ := Rs.src f33
    refine OpY.apDeep (r := rI) (Op := [some b25, ob8, some b10]) (Cp := [zab [(zI x33.e0), (zI x33.e1)], zab ([] ++ (cs10 ++ sp10)), zab ([] ++ (cs25 ++ []))]) (FB := (List.set FB18 (n31 * 2 + 1) ob11)) (FC := (List.set FC18 (n31 * 2 + 1) (zab ([] ++ (cs29 ++ sp16))))) (cs := cs28) (sp := sp15) (xs := x38.apart) (ys := [x34]) (Y := x40) (n := List.length x38.apart) (cap := cap14) (j := (n32 * 2 + 1)) zao ti3 rfl rfl rfl rfl hL47 rfl ((List.getElem?_set_ne (by omega)).trans q176) ((List.getElem?_set_ne (by omega)).trans q177) hE33 rfl hc34 q189 (zci (fun _ _ _ _ h => h) q190) q186 q187 q188 ?_
    intro ob12 cap16 sp17 cs30 w51 hE40 hc36 (hL48 : vL w w51 (some b25 :: ob8 :: some b10 :: (List.set (List.set FB18 (n31 * 2 + 1) ob11) (n32 * 2 + 1) ob12)) (zab [(zI x33.e0), (zI x33.e1)] :: zab ([] ++ (cs10 ++ sp10)) :: zab ([] ++ (cs25 ++ [])) :: (List.set (List.set FC18 (n31 * 2 + 1) (zab ([] ++ (cs29 ++ sp16)))) (n32 * 2 + 1) (zab ([] ++ (cs30 ++ sp17)))))) hS22
    have K42 := ks w hS22
    obtain ⟨x41, n33, q192, q193, q194, h⟩ := zix h
    refine ⟨_, [20, 21], [(148, (zam (some ⟨b10, (0 + n33 * rTClass.sz), none⟩))), (149, (zam (some ⟨b10, ((0 + n33 * rTClass.sz) + 4), none⟩)))], K42, (fun b hb => hL48.own.lt b hb), hL48.size, rfl, rfl, ?_⟩
    refine ⟨?_, ?_⟩
    ·
     intro w52 hE41
     refine zan (i := 0) rfl rfl (zar (zae (v := (osv (some b10) 0 x10.length m10)) rfl zrr)) ?_
     refine zan (i := 1) rfl rfl (zar (zae (v := (zI x34)) rfl zrr)) ?_
     refine zan (i := 2) rfl rfl (zar (zae (v := (osv (some b10) 0 x10.length m10)) rfl zrr)) ?_
     refine zan (i := 3) rfl rfl (zar (zae (v := (zI x35)) rfl zrr)) ?_
     refine zan (i := 4) rfl rfl (zar (zae (v := (osv (some b10) 0 x10.length m10)) rfl zrr)) ?_
     refine zan (i := 5) rfl rfl (zar (zae (v := (zI x34)) rfl zrr)) ?_
     refine zan (i := 6) rfl rfl (zar (zbe (r := rTClass) (b := b10) (o := 0) (n := n31) (m := x10.length) (xs := l17) (q := (0 + n31 * rTClass.sz)) zas ti56 rfl hl24 rfl q156 q158 rfl zrr)) ?_
     refine zan (i := 7) rfl rfl (zar (zau (q := ((0 + n31 * rTClass.sz) + 4)) zbo rfl ti22 rfl rfl rfl zrr)) ?_
     refine zan (i := 9) rfl rfl (zar (zae (v := (zI x35)) rfl zrr)) ?_
     refine zan (i := 12) rfl rfl (zar (zae (v := (osv (some b10) 0 x10.length m10)) rfl zrr)) ?_
     refine zan (i := 13) rfl rfl (zar (zae (v := (zI x35)) rfl zrr)) ?_
     refine zan (i := 14) rfl rfl (zar (zbe (r := rTClass) (b := b10) (o := 0) (n := n32) (m := x10.length) (xs := l17) (q := (0 + n32 * rTClass.sz)) zas ti56 rfl hl24 rfl q168 q170 rfl zrr)) ?_
     refine zan (i := 15) rfl rfl (zar (zau (q := ((0 + n32 * rTClass.sz) + 4)) zbo rfl ti22 rfl rfl rfl zrr)) ?_
     refine zan (i := 17) rfl rfl (zar (zae (v := (zI x34)) rfl zrr)) ?_
     refine zan (i := 20) rfl rfl (zar (zbe (r := rTClass) (b := b10) (o := 0) (n := n33) (m := x10.length) (xs := l17) (q := (0 + n33 * rTClass.sz)) zas ti56 rfl hl24 rfl q192 q194 rfl zrr)) ?_
     refine zan (i := 21) rfl rfl (zar (zau (q := ((0 + n33 * rTClass.sz) + 4)) zbo rfl ti22 rfl rfl rfl zrr)) ?_
     exact zcd
    refine zdm (m := 1) [22] rfl rfl (fun q hq => ?_)
    obtain rfl := List.mem_singleton.1 hq
    refine RlF1.op0 rfl ?_
    intro w53 V12 hE42 hp17
    obtain ⟨hL49, K43⟩ := zl hL48 hE42
    obtain ⟨x42, n34, q196, q197, q198, h⟩ := zux h
    obtain rfl := zin q192 q196
    refine OpY.stDeepS (D := dkTClass) (sp := []) (n := n33) (off := 4) (a' := (TClass.mk x41.low x41.high x41.tests x41.words x39)) ti22 rfl rfl rfl (zes (zen _ _ _ _)) (zen _ _ _ _) hL49 2 rfl rfl hD21 q193 rfl q198 (zai rfl) (f := 1) (j := (n31 * 2 + 1)) (ob := ob11) (k := zab ([] ++ (cs29 ++ sp16))) (zai rfl) (show n33 * 2 + 1 = (n31 * 2 + 1) by rw [zin q192 q156]) (fun vs bs c hr => by obtain ⟨v0, b0, k0, v1, b1, k1, rfl, rfl, rfl, d0, d1, w0⟩ := hr; exact ⟨_, _, _, _, _, _, rfl, rfl, rfl, d0, ⟨_, _, _, rfl, rfl, hc35, hE37⟩, w0⟩) ?_
    have hl25 : x10.length = List.length x42 := by rw [q198, List.length_set]; exact hl24
    intro w54 cs31 (hL50 : vL w w54 (some b25 :: ob8 :: some b10 :: (List.set (List.set FB18 (n31 * 2 + 1) ob11) (n32 * 2 + 1) ob12)) (zab [(zI x33.e0), (zI x33.e1)] :: zab ([] ++ (cs10 ++ sp10)) :: zab ([] ++ (cs31 ++ [])) :: (List.set (List.set FC18 (n31 * 2 + 1) (zab ([] ++ (cs29 ++ sp16)))) (n32 * 2 + 1) (zab ([] ++ (cs30 ++ sp17)))))) hS23 hD22 q199
    have hc37 : (cs31 ++ []).length = m10 * rTClass.sz := zhc hc28 q199
    have K44 := ks w hS23
    obtain ⟨x43, n35, q201, q202, q203, h⟩ := zix h
    refine ⟨_, [23, 24], [(150, (zam (some ⟨b10, (0 + n35 * rTClass.sz), none⟩))), (151, (zam (some ⟨b10, ((0 + n35 * rTClass.sz) + 4), none⟩)))], K44, (fun b hb => hL50.own.lt b hb), hL50.size, rfl, rfl, ?_⟩
    refine ⟨?_, ?_⟩
    ·
     intro w55 hE43
     refine zan (i := 2) rfl rfl (zar (zae (v := (osv (some b10) 0 x10.length m10)) rfl zrr)) ?_
     refine zan (i := 3) rfl rfl (zar (zae (v := (zI x35)) rfl zrr)) ?_
     refine zan (i := 12) rfl rfl (zar (zae (v := (osv (some b10) 0 x10.length m10)) rfl zrr)) ?_
     refine zan (i := 13) rfl rfl (zar (zae (v := (zI x35)) rfl zrr)) ?_
     refine zan (i := 14) rfl rfl (zar (zbe (r := rTClass) (b := b10) (o := 0) (n := n32) (m := x10.length) (xs := x42) (q := (0 + n32 * rTClass.sz)) zas ti56 rfl hl25 rfl q168 (Nat.lt_of_lt_of_eq q170 (Eq.trans (Eq.symm hl24) hl25)) rfl zrr)) ?_
     refine zan (i := 15) rfl rfl (zar (zau (q := ((0 + n32 * rTClass.sz) + 4)) zbo rfl ti22 rfl rfl rfl zrr)) ?_
     refine zan (i := 17) rfl rfl (zar (zae (v := (zI x34)) rfl zrr)) ?_
     refine zan (i := 20) rfl rfl (zar (zbe (r := rTClass) (b := b10) (o := 0) (n := n33) (m := x10.length) (xs := x42) (q := (0 + n33 * rTClass.sz)) zas ti56 rfl hl25 rfl q192 (Nat.lt_of_lt_of_eq q194 (Eq.trans (Eq.symm hl24) hl25)) rfl zrr)) ?_
     refine zan (i := 23) rfl rfl (zar (zbe (r := rTClass) (b := b10) (o := 0) (n := n35) (m := x10.length) (xs := x42) (q := (0 + n35 * rTClass.sz)) zas ti56 rfl hl25 rfl q201 q203 rfl zrr)) ?_
     refine zan (i := 24) rfl rfl (zar (zau (q := ((0 + n35 * rTClass.sz) + 4)) zbo rfl ti22 rfl rfl rfl zrr)) ?_
     exact zcd
    refine zdm (m := 0) [25] rfl rfl (fun q hq => ?_)
    obtain rfl := List.mem_singleton.1 hq
    refine RlF1.op0 rfl ?_
    intro w56 V13 hE44 hp18
    obtain ⟨hL51, K45⟩ := zl hL50 hE44
    obtain ⟨x44, n36, q205, q206, q207, h⟩ := zux h
    obtain rfl := zin q201 q205
    refine OpY.stDeepS (D := dkTClass) (sp := []) (n := n35) (off := 4) (a' := (TClass.mk x43.low x43.high x43.tests x43.words x40)) ti22 rfl rfl rfl (zes (zen _ _ _ _)) (zen _ _ _ _) hL51 2 rfl rfl hD22 q202 rfl q207 (zai rfl) (f := 1) (j := (n32 * 2 + 1)) (ob := ob12) (k := zab ([] ++ (cs30 ++ sp17))) (zai rfl) (show n35 * 2 + 1 = (n32 * 2 + 1) by rw [zin q201 q168]) (fun vs bs c hr => by obtain ⟨v0, b0, k0, v1, b1, k1, rfl, rfl, rfl, d0, d1, w0⟩ := hr; exact ⟨_, _, _, _, _, _, rfl, rfl, rfl, d0, ⟨_, _, _, rfl, rfl, hc36, hE40⟩, w0⟩) ?_
    have hl26 : x10.length = List.length x44 := by rw [q207, List.length_set]; exact hl25
    intro w57 cs32 (hL52 : vL w w57 (some b25 :: ob8 :: some b10 :: (List.set (List.set FB18 (n31 * 2 + 1) ob11) (n32 * 2 + 1) ob12)) (zab [(zI x33.e0), (zI x33.e1)] :: zab ([] ++ (cs10 ++ sp10)) :: zab ([] ++ (cs32 ++ [])) :: (List.set (List.set FC18 (n31 * 2 + 1) (zab ([] ++ (cs29 ++ sp16)))) (n32 * 2 + 1) (zab ([] ++ (cs30 ++ sp17)))))) hS24 hD23 q208
    have hc38 : (cs32 ++ []).length = m10 * rTClass.sz := zhc hc37 q208
    have K46 := ks w hS24
    refine ⟨_, [], [], K46, (fun b hb => hL52.own.lt b hb), hL52.size, rfl, rfl, ?_⟩
    refine ⟨?_, ?_⟩
    ·
     intro w58 hE45
     refine zan (i := 23) rfl rfl (zar (zbe (r := rTClass) (b := b10) (o := 0) (n := n35) (m := x10.length) (xs := x44) (q := (0 + n35 * rTClass.sz)) zas ti56 rfl hl26 rfl q201 (Nat.lt_of_lt_of_eq q203 (Eq.trans (Eq.symm hl25) hl26)) rfl zrr)) ?_
     exact zcd
    refine RlF.fin ?_
    intro w59 V14 hE46
    obtain ⟨hL53, K47⟩ := zl hL52 hE46
    refine zbf (zah rfl (zag (zbx (x := x32) (y := 1) (z := (iw (x32 + 1))) rfl rfl rfl ?_)))
    refine zag (zae (v := (zI (iw (x32 + 1)))) rfl (zaq ?_))
    have hp19 := Loc.pickT (Op := [some b25, ob8, some b10]) (Cp := [zab [(zI x33.e0), (zI x33.e1)], zab ([] ++ (cs10 ++ sp10)), zab ([] ++ (cs32 ++ []))]) (FB := (List.set (List.set FB18 (n31 * 2 + 1) ob11) (n32 * 2 + 1) ob12)) (FC := (List.set (List.set FC18 (n31 * 2 + 1) (zab ([] ++ (cs29 ++ sp16)))) (n32 * 2 + 1) (zab ([] ++ (cs30 ++ sp17))))) hL53 [1, 2] rfl rfl rfl rfl
    have hL54 : vL w w59 (ob8 :: some b10 :: (List.set (List.set FB18 (n31 * 2 + 1) ob11) (n32 * 2 + 1) ob12)) (zab ([] ++ (cs10 ++ sp10)) :: zab ([] ++ (cs32 ++ [])) :: (List.set (List.set FC18 (n31 * 2 + 1) (zab ([] ++ (cs29 ++ sp16)))) (n32 * 2 + 1) (zab ([] ++ (cs30 ++ sp17))))) := hp19.1
    have K48 := ks w hp19.2
    obtain rfl := zad h
    refine zap ⟨(x44, (iw (x32 + 1))), rfl, ?_⟩
    exact ⟨cs32, (List.set (List.set FB18 (n31 * 2 + 1) ob11) (n32 * 2 + 1) ob12), (List.set (List.set FC18 (n31 * 2 + 1) (zab ([] ++ (cs29 ++ sp16)))) (n32 * 2 + 1) (zab ([] ++ (cs30 ++ sp17)))), _, (zef ⟨rfl, rfl, rfl, rfl, rfl, trivial⟩), hL54, (zak (zak (zak (zak (zak (zak (zak (zak (zak (zak (zak (zak (zak (zak (zak (zak K31 K32) K33) K34) K35) K37) K38) K39) K40) K41) K42) K43) K44) K45) K46) K47) K48), hD23, hl26, hc38, trivial⟩
   replace h := ite_f hc32 h
   refine zbl (zbf (zah rfl (zag (zbx (x := x32) (y := 1) (z := (iw (x32 + 1))) rfl rfl rfl ?_))))
   refine zag (zae (v := (zI (iw (x32 + 1)))) rfl (zaq ?_))
   have hp20 := Loc.pickT (Op := [some b25, ob8, some b10]) (Cp := [zab [(zI x33.e0), (zI x33.e1)], zab ([] ++ (cs10 ++ sp10)), zab ([] ++ (cs25 ++ []))]) (FB := FB18) (FC := FC18) hL41 [1, 2] rfl rfl rfl rfl
   have hL55 : vL w w44 (ob8 :: some b10 :: FB18) (zab ([] ++ (cs10 ++ sp10)) :: zab ([] ++ (cs25 ++ [])) :: FC18) := hp20.1
   have K49 := ks w hp20.2
   obtain rfl := zad h
   refine zap ⟨(l17, (iw (x32 + 1))), rfl, ?_⟩
   exact ⟨cs25, FB18, FC18, _, (zef ⟨rfl, rfl, rfl, rfl, rfl, trivial⟩), hL55, (zak (zak (zak (zak (zak (zak K31 K32) K33) K34) K35) K37) K49), hD21, hl24, hc28, trivial⟩
  replace h := ite_f hc29 h
  refine zca rfl ?_
  obtain rfl := zad h
  obtain rfl := hd13 _ rfl
  replace h := g13
  try dsimp only at h
  refine zap ?_
  exact ⟨l17, cs25, FB18, FC18, _, rfl, (zef ⟨rfl, rfl, trivial⟩), hL31, K31, hD21, hl24, hc28, trivial⟩
 rintro _ w60 ⟨l16, cs24, FB17, FC17, u, rfl, rfl, hL56, K50, hD24, hl27, hc39, -⟩
 replace h := g13
 try dsimp only at h
 refine zal (zah rfl (zag (zae (v := (osv (some b10) 0 x10.length m10)) rfl ?_)))
 refine zag (zae (v := (osv ob8 0 r6.1.length cap9)) rfl ?_)
 refine zag (zaj (v := (osv (some b10) 0 x10.length m10)) rfl ?_)
 refine zag (zaj (v := (osv ob8 0 r6.1.length cap9)) rfl ?_)
 refine zag (zaj (v := zT) rfl (zaq ?_))
 have hp21 := Loc.settle (S := None) (Op := [ob8, some b10]) (Cp := [zab ([] ++ (cs10 ++ sp10)), zab ([] ++ (cs24 ++ []))]) (FB := FB17) (FC := FC17) hL56 rfl hD24
 have f34 := hp21.1
 have hL57 : vL w w60 [ob8, some b10] [zab ([] ++ (cs10 ++ sp10)), zab ([] ++ (cs24 ++ []))] := hp21.2.1
 have K51 := ks w hp21.2.2
 refine zbt ?_
 obtain rfl := zad h
 refine ⟨[(osv (some b10) 0 x10.length m10), (osv ob8 0 r6.1.length cap9), zT], ⟨rfl, rfl, rfl, trivial⟩, ⟨_, rfl, hL57.done, ?_⟩⟩
 have f35 := ((((f15.mono (K20 None)).mono (K29 None)).mono (K50 None)).mono (K51 None))
 exact ⟨some b10, m10, cs24, [], ob8, cap9, cs10, sp10, (by rw [← hl27]; rfl), (hL57.newOwn [1, 0] rfl rfl rfl), (f34.mono (zdy [1, 0] rfl)), hc39, (f35.mono (zdy [1, 0] rfl)), hc10, trivial⟩
theorem tfirst_w (N : Nat) (c : TClass) (most : Int) (c_v : Value) (c_v1 : Value) (c_v2 : Value) (w : World) (S : Nat → Prop) (c_h : Rs rTTest (vH w S [] w) c_v c.tests) (c_h1 : Rs rStr (vH w S [] w) c_v1 c.words) (c_h2 : Rs rI (vH w S [] w) c_v2 c.apart) (r : (List (List UInt8))) (h : tfirst N c most = some r) :
  Calls Try.prog 32 #[(zbq #[(zI c.low), (zI c.high), c_v, c_v1, c_v2]), (zI most)] w (Ret w (fun v w' => ∃ (ob0 : Option Nat) (cap0 : Nat) (cs0 : List Value) (sp0 : List Value), (zO ob0 r cap0) = v ∧ NewOwn w w' [ob0] [zab ([] ++ (cs0 ++ sp0))] ∧ Els rStr (vH w None [ob0] w') cs0 r ∧ (cs0 ++ sp0).length = cap0 * rStr.sz ∧ True)) := by
 unfold tfirst at h
 have hL : vL w w [] [] := Go.X.Loc.begin0 w
 refine calls_of (l := [(zbq #[(zI c.low), (zI c.high), c_v, c_v1, c_v2]), (zI most)]) (rl := [.tmp 4]) (n := 57) Try.func32 rfl rfl rfl (zai rfl) ?_
 refine zal (zah rfl (zag (zdp (cs := [(zI c.low), (zI c.high), c_v, c_v1, c_v2]) rfl rfl hL ?_)))
 intro b1 w2 hL3 hS5
 have K4 := ks w hS5
 refine zag (zaj (v := zN) rfl ?_)
 refine zaq (zal (zah rfl (zag (zaj (v := zN) rfl ?_))))
 refine zaq (zal (zal (zah rfl (zag (zau (q := 0) zbo rfl ti3 rfl rfl rfl ?_)))))
 refine zag (zav (v := (zI c.low)) zaw rfl rfl (hL3.at 0 rfl rfl) rfl ?_)
 refine zag (zaj (v := (zI c.low)) rfl (zaq ?_))
 obtain ⟨s10, hl10, g10⟩ := zee h
 refine zbs (fun e w' => ∃ (out10 : (List (List UInt8))) (ob10 : Option Nat) (cap10 : Nat) (sp10 : List Value) (cs10 : List Value) (ln10 : Nat) (u : Env), out10 = s10 ∧ e = upds [(5, (osv ob10 0 ln10 cap10))] u ∧ vL w w' [ob10] [zab ([] ++ (cs10 ++ sp10))] ∧ Keep w.heap.size [some b1] w2 [ob10] w' ∧ Els rStr (vH w None [ob10] w') cs10 out10 ∧ ln10 = List.length out10 ∧ (cs10 ++ sp10).length = cap10 * rStr.sz ∧ True) ?_ ?_
 ·
  refine zbc ?_
  have hp10 := hL3.addNil
  have hL10 : vL w w2 [none, some b1] [zab ([] ++ ([] ++ [])), zab [(zI c.low), (zI c.high), c_v, c_v1, c_v2]] := hp10.1
  have K10 := ks w hp10.2
  have hp11 := hL10.pick [1, 0] rfl rfl rfl
  have hL11 : vL w w2 [some b1, none] [zab [(zI c.low), (zI c.high), c_v, c_v1, c_v2], zab ([] ++ ([] ++ []))] := hp11.1
  have K11 := ks w hp11.2
  have f10 := ((zcm (r := rStr)).mono (K11 None))
  refine zbw hl10 (fun (ss : ((List (List UInt8)) × Int)) (e : Env) (w' : World) => match ss with | (out11, n10) => ∃ (ob11 : Option Nat) (cap11 : Nat) (sp11 : List Value) (cs11 : List Value) (ln11 : Nat) (u : Env), e = upds [(1, (zI most)), (2, (zam (some ⟨b1, 0, none⟩))), (5, (osv ob11 0 ln11 cap11)), (6, (zI n10))] u ∧ vL w w' [some b1, ob11] [zab [(zI c.low), (zI c.high), c_v, c_v1, c_v2], zab ([] ++ (cs11 ++ sp11))] ∧ Keep w.heap.size [some b1] w2 [some b1, ob11] w' ∧ Els rStr (vH w None [some b1, ob11] w') cs11 out11 ∧ ln11 = List.length out11 ∧ (cs11 ++ sp11).length = cap11 * rStr.sz ∧ True) ⟨none, 0, [], [], (List.length ([] : (List (List UInt8)))), _, (zef ⟨rfl, rfl, rfl, rfl, trivial⟩), hL11, (zak K10 K11), f10, rfl, (show ([] ++ [] : List Value).length = 0 * rStr.sz by simp), trivial⟩ ?_
  rintro ⟨out11, n10⟩ oo _ w10 ⟨ob11, cap11, sp11, cs11, ln11, u, rfl, hL12, K12, hE10, rfl, hc10, -⟩ h hd10
  rw [tfirst_b1] at h
  refine zal (zal ?_)
  obtain ⟨s11, h, g11⟩ := zee h
  refine zbs (fun e w' => ∃ (x10 : Bool) (u : Env), x10 = s11 ∧ e = upds [(1, (zI most)), (2, (zam (some ⟨b1, 0, none⟩))), (5, (zO ob11 out11 cap11)), (6, (zI n10)), (20, (zac x10))] u ∧ vL w w' [some b1, ob11] [zab [(zI c.low), (zI c.high), c_v, c_v1, c_v2], zab ([] ++ (cs11 ++ sp11))] ∧ Keep w.heap.size [some b1, ob11] w10 [some b1, ob11] w' ∧ True) ?_ ?_
  ·
   refine zah rfl (zag (zae (v := (zI n10)) rfl ?_))
   refine zag (zau (q := 1) zbo rfl ti3 rfl rfl rfl ?_)
   refine zag (zav (v := (zI c.high)) zaw rfl rfl (hL12.at 0 rfl rfl) rfl ?_)
   refine zag (zea (x := n10) (y := c.high) ((n10 : Int) ≤ c.high) rfl rfl zbi ?_)
   refine zag (zae (v := (zac (decide ((n10 : Int) ≤ c.high)))) rfl ?_)
   by_cases hc11 : (n10 : Int) ≤ c.high
   ·
    replace h := ite_t hc11 h
    refine zaz rfl rfl (zed hc11) (zae (v := (zO ob11 out11 cap11)) rfl ?_)
    refine zaz rfl rfl (zed hc11) (zcj (pre := []) (r := rStr) (xs := out11) zba rfl (hL12.at 1 rfl rfl) hE10 rfl rfl ?_)
    refine zaz rfl rfl (zed hc11) (zae (v := (zI most)) rfl ?_)
    refine zaz rfl rfl (zed hc11) (zcg (x := (out11.length : Int)) (y := most) (((out11.length : Int) : Int) < most) rfl rfl zbi ?_)
    refine zag (zbn (t := (decide ((n10 : Int) ≤ c.high))) (v := (zac (decide (((out11.length : Int) : Int) < most)))) rfl (zed hc11) rfl (zaq ?_))
    obtain rfl := zad h
    refine zap ?_
    exact ⟨(decide (((out11.length : Int) : Int) < most)), _, rfl, (zef ⟨rfl, rfl, rfl, rfl, rfl, trivial⟩), hL12, zbp, trivial⟩
   replace h := ite_f hc11 h
   refine zbg rfl rfl (zec hc11) (zbg rfl rfl (zec hc11) (zbg rfl rfl (zec hc11) (zbg rfl rfl (zec hc11) ?_)))
   refine zag (zbh (t := (decide ((n10 : Int) ≤ c.high))) (v := zF) rfl (zec hc11) rfl (zaq ?_))
   obtain rfl := zad h
   refine zap ?_
   exact ⟨false, _, rfl, (zef ⟨rfl, rfl, rfl, rfl, rfl, trivial⟩), hL12, zbp, trivial⟩
  rintro _ w11 ⟨x10, u, rfl, rfl, hL13, K13, -⟩
  replace h := g11
  try dsimp only at h
  refine zch x10 rfl (fun hc12 => ?_) (fun hc12 => ?_)
  ·
   replace h := ite_t hc12 h
   refine zbl (zal (zbc (zal (zah rfl (zag (zau (q := 2) zbo rfl ti23 rfl rfl rfl ?_))))))
   refine zag (zav (v := c_v) zbk rfl rfl (hL13.at 0 rfl rfl) rfl ?_)
   obtain ⟨r10, q10, h⟩ := zee h
   have f11 := (((c_h.mono (K4 S)).mono (K12 S)).mono (K13 S))
   refine zag (zbz en60 rfl rfl (cloneTest_w N c.tests c_v _ Any (f11.mono vw_any) r10 q10) ?_)
   rintro _ w12 hE11 ⟨ob12, cap12, cs12, sp12, rfl, hN10, hE12, hc13, -⟩
   replace hE12 := hE12.mono (zbv (S := None) hL13 [ob12])
   have hp12 := hL13.adoptL hE11 hN10
   have hL14 := hp12.1
   have K14 := ks w hp12.2
   refine zag (zaj (v := (zO ob12 r10 cap12)) rfl (zaq ?_))
   obtain ⟨s12, hl11, g12⟩ := zee h
   refine zbs (fun e w' => ∃ (out12 : (List (List UInt8))) (ob13 : Option Nat) (cap13 : Nat) (sp13 : List Value) (cs13 : List Value) (ln12 : Nat) (u : Env), out12 = s12 ∧ e = upds [(1, (zI most)), (2, (zam (some ⟨b1, 0, none⟩))), (5, (osv ob13 0 ln12 cap13)), (6, (zI n10))] u ∧ vL w w' [some b1, ob13] [zab [(zI c.low), (zI c.high), c_v, c_v1, c_v2], zab ([] ++ (cs13 ++ sp13))] ∧ Keep w.heap.size [ob12, some b1, ob11] w12 [some b1, ob13] w' ∧ Els rStr (vH w None [some b1, ob13] w') cs13 out12 ∧ ln12 = List.length out12 ∧ (cs13 ++ sp13).length = cap13 * rStr.sz ∧ True) ?_ ?_
   ·
    refine zbc ?_
    have hp13 := hL14.pick [1, 2, 0] rfl rfl rfl
    have hL15 : vL w w12 [some b1, ob11, ob12] [zab [(zI c.low), (zI c.high), c_v, c_v1, c_v2], zab ([] ++ (cs11 ++ sp11)), zab ([] ++ (cs12 ++ sp12))] := hp13.1
    have K15 := ks w hp13.2
    have f12 := (((hE10.mono (K13 None)).mono (K14 None)).mono (K15 None))
    have f13 := (hE12.mono (K15 None))
    refine zbw hl11 (fun (ss : ((List (List UInt8)) × (List TTest))) (e : Env) (w' : World) => match ss with | (out13, tests10) => ∃ (ob14 : Option Nat) (cap14 : Nat) (sp14 : List Value) (cs14 : List Value) (ln13 : Nat) (ob15 : Option Nat) (cap15 : Nat) (sp15 : List Value) (cs15 : List Value) (ln14 : Nat) (u : Env), e = upds [(1, (zI most)), (2, (zam (some ⟨b1, 0, none⟩))), (5, (osv ob14 0 ln13 cap14)), (6, (zI n10)), (7, (osv ob15 0 ln14 cap15))] u ∧ vL w w' [some b1, ob14, ob15] [zab [(zI c.low), (zI c.high), c_v, c_v1, c_v2], zab ([] ++ (cs14 ++ sp14)), zab ([] ++ (cs15 ++ sp15))] ∧ Keep w.heap.size [ob12, some b1, ob11] w12 [some b1, ob14, ob15] w' ∧ Els rStr (vH w None [some b1, ob14, ob15] w') cs14 out13 ∧ ln13 = List.length out13 ∧ (cs14 ++ sp14).length = cap14 * rStr.sz ∧ Els rTTest (vH w None [some b1, ob14, ob15] w') cs15 tests10 ∧ ln14 = List.length tests10 ∧ (cs15 ++ sp15).length = cap15 * rTTest.sz ∧ True) ⟨ob11, cap11, sp11, cs11, out11.length, ob12, cap12, sp12, cs12, r10.length, _, (zef ⟨rfl, rfl, rfl, rfl, rfl, trivial⟩), hL15, K15, f12, rfl, hc10, f13, rfl, hc13, trivial⟩ ?_
    rintro ⟨out13, tests10⟩ oo _ w13 ⟨ob14, cap14, sp14, cs14, ln13, ob15, cap15, sp15, cs15, ln14, u, rfl, hL16, K16, hE13, rfl, hc14, hE14, rfl, hc15, -⟩ h hd11
    rw [tfirst_b2] at h
    refine zal (zal (zah rfl (zag (zae (v := (zO ob14 out13 cap14)) rfl ?_))))
    refine zag (zcj (pre := []) (r := rStr) (xs := out13) zba rfl (hL16.at 1 rfl rfl) hE13 rfl rfl ?_)
    refine zag (zae (v := (zI most)) rfl ?_)
    refine zag (zcg (x := (out13.length : Int)) (y := most) (((out13.length : Int) : Int) < most) rfl rfl zbi (zaq ?_))
    refine zbj (((out13.length : Int) : Int) < most) rfl (fun hc16 => ?_) (fun hc16 => ?_)
    ·
     replace h := ite_t hc16 h
     refine zbl (zbc (zal (zah rfl (zag (zae (v := (zO ob15 tests10 cap15)) rfl ?_)))))
     refine zag (zae (v := (zI n10)) rfl ?_)
     refine zag (zae (v := (zI most)) rfl ?_)
     refine zag (zae (v := (zO ob14 out13 cap14)) rfl ?_)
     refine zag (zcj (pre := []) (r := rStr) (xs := out13) zba rfl (hL16.at 1 rfl rfl) hE13 rfl rfl ?_)
     refine zag (OpY.sub (x := most) (y := (out13.length : Int)) (z := (iw (most - (out13.length : Int)))) rfl rfl rfl ?_)
     refine zag (OpY.min (x := 100) (y := (iw (most - (out13.length : Int)))) rfl rfl ?_)
     obtain ⟨r11, q11, h⟩ := zee h
     refine zag (zbz en39 rfl rfl (pWords_w N tests10 n10 (imin 100 (iw (most - (out13.length : Int)))) (zO ob15 tests10 cap15) _ Any (zej (pre := []) (o := 0) (n := tests10.length) (cap := cap15) (hL16.at 2 rfl rfl) hE14 vw_any rfl rfl rfl hc15) r11 q11) ?_)
     rintro _ w14 hE15 ⟨ob16, cap16, cs16, sp16, rfl, hN11, hE16, hc17, -⟩
     replace hE16 := hE16.mono (zbv (S := None) hL16 [ob16])
     have hp14 := hL16.adoptL hE15 hN11
     have hL17 := hp14.1
     have K17 := ks w hp14.2
     refine zag (zaj (v := (zO ob16 r11 cap16)) rfl ?_)
     refine zaq (zal (zah rfl (zag (zae (v := (zO ob14 out13 cap14)) rfl ?_))))
     refine zag (zae (v := (zO ob16 r11 cap16)) rfl ?_)
     obtain ⟨x11, q12, h⟩ := zee h
     obtain ⟨q13, q14, q15⟩ := zer q12
     have f14 := (hE13.mono (K17 None))
     refine zag (zcx (r := rStr) (H := (vH w None [ob16, some b1, ob14, ob15] w14)) (cs := cs14) (sp := sp14) (xs := out13) (ys := r11) (Y := x11) (n := out13.length) (cap := cap14) (i := 2) zba ti9 rfl rfl rfl rfl hL17 rfl rfl f14 rfl hc14 (zdw (pre := []) (o := 0) (n := r11.length) (cap := cap16) (hL17.at 0 rfl rfl) hE16 rfl rfl rfl) (zci (fun _ _ _ _ h => h) hE16) q13 q14 q15 ?_)
     intro ob17 cap17 sp17 cs17 w15 hE17 hc18 (hL18 : vL w w15 [ob16, some b1, ob17, ob15] [zab ([] ++ (cs16 ++ sp16)), zab [(zI c.low), (zI c.high), c_v, c_v1, c_v2], zab ([] ++ (cs17 ++ sp17)), zab ([] ++ (cs15 ++ sp15))]) hS10
     have K18 := ks w hS10
     refine zag (zaj (v := (zO ob17 x11 cap17)) rfl ?_)
     refine zaq (zal (zal (zah rfl (zag (zae (v := (zO ob16 r11 cap16)) rfl ?_)))))
     have f15 := (hE16.mono (K18 None))
     refine zag (zcj (pre := []) (r := rStr) (xs := r11) zba rfl (hL18.at 0 rfl rfl) f15 rfl rfl ?_)
     refine zag (zcg (x := (r11.length : Int)) (y := 100) (((r11.length : Int) : Int) < 100) rfl rfl zbi (zaq ?_))
     refine zbj (((r11.length : Int) : Int) < 100) rfl (fun hc19 => ?_) (fun hc19 => ?_)
     ·
      replace h := ite_t hc19 h
      refine zca rfl ?_
      have hp15 := hL18.pick [1, 2] rfl rfl rfl
      have hL19 : vL w w15 [some b1, ob17] [zab [(zI c.low), (zI c.high), c_v, c_v1, c_v2], zab ([] ++ (cs17 ++ sp17))] := hp15.1
      have K19 := ks w hp15.2
      have f16 := ((hE17.mono (K18 None)).mono (K19 None))
      obtain rfl := zad h
      obtain rfl := hd11 _ rfl
      replace h := g12
      try dsimp only at h
      refine zap ?_
      exact ⟨x11, ob17, cap17, sp17, cs17, x11.length, _, rfl, (zef ⟨rfl, rfl, rfl, rfl, trivial⟩), hL19, (zak (zak (zak K16 K17) K18) K19), f16, rfl, hc18, trivial⟩
     replace h := ite_f hc19 h
     refine zbl ?_
     obtain ⟨r12, q16, h⟩ := zee h
     obtain ⟨x12, n11, q18, q19, q20, h⟩ := zix h
     obtain ⟨b10, hb10⟩ := hL18.row_some 0 rfl rfl (zev (pre := []) f15 q19 (Nat.lt_of_sub_eq_succ rfl))
     obtain ⟨vs10, q21, q22, q23⟩ := zeo (pre := []) (sp := sp16) f15 q19
     obtain rfl := q22
     refine zcy 11 [] [] (fun W1 => [.det (zam (some ⟨b1, 2, none⟩)), .det c_v, .rel (fun v Z w' => ∃ ob18 cap18 cs18 sp18, (zO ob18 r12 cap18) = v ∧ OwnC w' ob18 (zab ([] ++ (cs18 ++ sp18))) ∧ Els rTTest (vZ W1 w None [ob16, some b1, ob17, ob15] Z w') cs18 r12 ∧ (cs18 ++ sp18 : List Value).length = cap18 * rTTest.sz ∧ True) footV, .det (zO ob16 r11 cap16), .det (zO ob16 r11 cap16), .det (zI (r11.length : Int)), .det (zI (iw ((r11.length : Int) - 1))), .det (zam (some ⟨b10, (0 + n11 * rStr.sz), none⟩)), .det (zS x12), .det (zbq #[(zI 0), (zI 3), zT, (zS x12)]), .rel (fun v Z w' => ∃ b11 cs19, (osv (some b11) 0 1 1) = v ∧ OwnC w' (some b11) (zab ([] ++ (cs19 ++ []))) ∧ Els rTTest (vZ W1 w None [ob16, some b1, ob17, ob15] Z w') cs19 [(TTest.mk 0 3 true x12)] ∧ (cs19 ++ [] : List Value).length = 1 * rTTest.sz ∧ True) footV]) mixed rfl rfl rfl (fun _ => rfl) (fun _ => rfl) ?_ ?_
     ·
      intro W1 _
      exact ⟨fun v Z Z' w w' hΦ hz _ _ hs => by obtain ⟨ob18, cap18, cs18, sp18, rfl, hO10, hE18, hc20, -⟩ := hΦ; exact ⟨ob18, cap18, cs18, sp18, rfl, (hO10.stay (fun b hb => (zek (ob := ob18) (o := 0) (n := r12.length) (cap := cap18)).2 (by rw [hb]; exact zbm)) hs), (hE18.mono (zdv hz hs)), hc20, trivial⟩, ⟨fun v Z Z' w w' hΦ hz _ _ hs => by obtain ⟨b11, cs19, rfl, hO11, hE19, hc21, -⟩ := hΦ; exact ⟨b11, cs19, rfl, (hO11.stay (fun b hb => by cases hb; exact zbm) hs), (hE19.mono (zdv hz hs)), hc21, trivial⟩, trivial⟩⟩
     intro w16 hE20
     obtain ⟨hL20, K20⟩ := zl hL18 hE20
     refine zay (fun _ _ => zar (zau zbo rfl ti23 rfl rfl rfl (er rfl))) ?_
     refine zay (fun _ hE22 => zar (zav zbk rfl rfl ((hL20.ext hE22).at 1 rfl rfl) rfl (er rfl))) ?_
     refine zeb ?_ ?_
     ·
      rintro w19 Z21 hE23 hZ12 ⟨-⟩
      have K21 := ke hL20 hE23
      refine zar (zbz en60 rfl rfl (cloneTest_w N c.tests c_v _ Any (((((((f11.mono (K14 S)).mono (K16 S)).mono (K17 S)).mono (K18 S)).mono (K20 S)).mono (K21 S)).mono vw_any) r12 q16) ?_)
      rintro _ w20 hE24 ⟨ob18, cap18, cs18, sp18, rfl, hN12, hE18, hc20, -⟩
      exact Made.ext hE24 hZ12 hN12 (fun b hb => footV_osv.1 hb) ⟨ob18, cap18, cs18, sp18, rfl, hN12.2.2.1, (hE18.mono Zv.made), hc20, trivial⟩
     intro z2
     refine zay (fun _ _ => zar (zae rfl (er rfl))) ?_
     refine zay (fun _ _ => zar (zae rfl (er rfl))) ?_
     refine zay (fun _ hE27 => zar (zcj (pre := []) (r := rStr) (xs := r11) zba rfl ((hL20.ext hE27).at 0 rfl rfl) ((f15.mono (K20 None)).mono ((ke hL20 hE27) None)) rfl rfl (er rfl))) ?_
     refine zay (fun _ _ => zar (OpY.sub rfl rfl rfl (er rfl))) ?_
     refine zay (fun _ _ => zar (zbe (r := rStr) (b := b10) (o := 0) (n := n11) (m := r11.length) (xs := r11) (q := (0 + n11 * rStr.sz)) zba ti9 (zem hb10) rfl rfl q18 q20 rfl (er rfl))) ?_
     refine zay (fun _ hE30 => zar (zbu zax rfl rfl (zeq hb10 ((hL20.ext hE30).at 0 rfl rfl)) q23 (er rfl))) ?_
     refine zay (fun _ _ => zar (OpY.build (zc := [(zI 0), (zI 0), zF, (zaf ⟨#[]⟩)]) (cs := [(zI 0), (zI 3), zT, (zS x12)]) (is := [1, 2, 3]) (vs := [(zI 3), zT, (zS x12)]) (css := [[(zI 3)], [zT], [(zS x12)]]) pl44 ti44 rfl rfl rfl ⟨rfl, rfl, rfl, trivial⟩ rfl (er rfl))) ?_
     refine zeb ?_ ?_
     ·
      rintro w28 Z29 hE32 hZ20 ⟨-, -⟩
      have hE33 : Els rTTest (vZ w16 w None [ob16, some b1, ob17, ob15] Z29 w28) [(zI 0), (zI 3), zT, (zS x12)] [(TTest.mk 0 3 true x12)] := (zcp (a := [(zI 0), (zI 3), zT, (zS x12)]) (rTTest_close ⟨rfl, trivial⟩) zcm)
      refine zar (zcl (r := rTTest) (vs := [(zbq #[(zI 0), (zI 3), zT, (zS x12)])]) (css := [[(zI 0), (zI 3), zT, (zS x12)]]) (xs := [(TTest.mk 0 3 true x12)]) zbk ti44 (zai rfl) rfl rfl ⟨rfl, rfl, trivial⟩ (zai rfl) hE33 rfl (Go.X.Loc.begin0 w28) ?_)
      intro b11 w29 hc22 hL24 hS11
      have hN13 : NewOwn w28 w29 [some b11] [zab ([] ++ ([(zI 0), (zI 3), zT, (zS x12)] ++ []))] := hL24.newOwn [0] rfl rfl rfl
      exact Made.ext hL24.done hZ20 hN13 (fun _ h => h) ⟨b11, [(zI 0), (zI 3), zT, (zS x12)], rfl, hN13.2.2.1, (hE33.mono (Zv.grow hL24.done)), hc22, trivial⟩
     intro z10
     refine zdh ?_
     rintro w30 Z30 hE34 hZ21 ⟨⟨⟨b11, cs19, rfl, hO11, hE19, hc21, -⟩, hB10⟩, ⟨⟨ob18, cap18, cs18, sp18, rfl, hO10, hE18, hc20, -⟩, hB2⟩, -⟩ ap10
     have hB11 : ∀ b, some b ∈ ([some b11, ob18] : List (Option Nat)) → w16.heap.size ≤ b ∧ ¬ Z30 b := by
      intro b hb
      rcases List.mem_cons.1 hb with hb' | hb
      ·
       have := hB10 b (by rw [hb']; exact zbm); exact ⟨this.1, this.2.2⟩
      rcases List.mem_cons.1 hb with hb' | hb
      ·
       have := hB2 b ((zek (ob := ob18) (o := 0) (n := r12.length) (cap := cap18)).2 (by rw [hb']; exact zbm)); exact ⟨this.1, this.2.2⟩
      cases hb
     replace hE19 := hE19.mono (Zv.fin hL20 hZ21 hB11)
     replace hE18 := hE18.mono (Zv.fin hL20 hZ21 hB11)
     have hN14 : NewOwn w16 w30 [some b11, ob18] [zab ([] ++ (cs19 ++ [])), zab ([] ++ (cs18 ++ sp18))] := (zdz (zdz NewOwn.nil hO10 (fun b hb => (hB11 b (by rw [← hb]; simp)).1) (fun b _ hb => by cases hb)) hO11 (fun b hb => (hB11 b (by rw [← hb]; simp)).1) (fun b hb hm => (List.mem_cons.1 hm).elim (fun e => apE (ap10.1) rfl rfl b ((zek (ob := (some b11)) (o := 0) (n := 1) (cap := 1)).2 hb) ((zek (ob := ob18) (o := 0) (n := r12.length) (cap := cap18)).2 (by rw [e]; exact zbm))) (fun hm => by cases hm)))
     have hp16 := hL20.adoptL hE34 hN14
     have hL25 := hp16.1
     have K23 := ks w hp16.2
     obtain ⟨x13, q24, h⟩ := zee h
     obtain ⟨q25, q26, q27⟩ := zer q24
     refine zag (zcx (r := rTTest) (H := (vH w None [some b11, ob18, ob16, some b1, ob17, ob15] w30)) (cs := cs18) (sp := sp18) (xs := r12) (ys := [(TTest.mk 0 3 true x12)]) (Y := x13) (n := r12.length) (cap := cap18) (i := 1) zbk ti44 rfl rfl rfl rfl hL25 rfl rfl hE18 rfl hc20 (zdw (pre := []) (o := 0) (n := 1) (cap := 1) (hL25.at 0 rfl rfl) hE19 rfl rfl rfl) (zci (fun _ _ _ _ h => h) hE19) q25 q26 q27 ?_)
     intro ob19 cap19 sp19 cs20 w31 hE35 hc23 (hL26 : vL w w31 [some b11, ob19, ob16, some b1, ob17, ob15] [zab ([] ++ (cs19 ++ [])), zab ([] ++ (cs20 ++ sp19)), zab ([] ++ (cs16 ++ sp16)), zab [(zI c.low), (zI c.high), c_v, c_v1, c_v2], zab ([] ++ (cs17 ++ sp17)), zab ([] ++ (cs15 ++ sp15))]) hS12
     have K24 := ks w hS12
     refine zag (zaj (v := (zO ob19 x13 cap19)) rfl ?_)
     refine zaq (zbf ?_)
     have hp17 := hL26.pick [3, 4, 1] rfl rfl rfl
     have hL27 : vL w w31 [some b1, ob17, ob19] [zab [(zI c.low), (zI c.high), c_v, c_v1, c_v2], zab ([] ++ (cs17 ++ sp17)), zab ([] ++ (cs20 ++ sp19))] := hp17.1
     have K25 := ks w hp17.2
     have f17 := (((((hE17.mono (K18 None)).mono (K20 None)).mono (K23 None)).mono (K24 None)).mono (K25 None))
     have f18 := ((hE35.mono (K24 None)).mono (K25 None))
     obtain rfl := zad h
     refine zap ⟨(x11, x13), rfl, ?_⟩
     exact ⟨ob17, cap17, sp17, cs17, x11.length, ob19, cap19, sp19, cs20, x13.length, _, (zef ⟨rfl, rfl, rfl, rfl, rfl, trivial⟩), hL27, (zak (zak (zak (zak (zak (zak K16 K17) K18) K20) K23) K24) K25), f17, rfl, hc18, f18, rfl, hc23, trivial⟩
    replace h := ite_f hc16 h
    refine zca rfl ?_
    have hp18 := hL16.pick [0, 1] rfl rfl rfl
    have hL28 : vL w w13 [some b1, ob14] [zab [(zI c.low), (zI c.high), c_v, c_v1, c_v2], zab ([] ++ (cs14 ++ sp14))] := hp18.1
    have K26 := ks w hp18.2
    have f19 := (hE13.mono (K26 None))
    obtain rfl := zad h
    obtain rfl := hd11 _ rfl
    replace h := g12
    try dsimp only at h
    refine zap ?_
    exact ⟨out13, ob14, cap14, sp14, cs14, out13.length, _, rfl, (zef ⟨rfl, rfl, rfl, rfl, trivial⟩), hL28, (zak K16 K26), f19, rfl, hc14, trivial⟩
   rintro _ w32 ⟨out12, ob13, cap13, sp13, cs13, ln12, u, rfl, rfl, hL29, K27, hE36, rfl, hc24, -⟩
   replace h := g12
   try dsimp only at h
   refine zbf (zah rfl (zag (zae (v := (zI n10)) rfl ?_)))
   refine zag (zbx (x := n10) (y := 1) (z := (iw (n10 + 1))) rfl rfl rfl ?_)
   refine zag (zaj (v := (zI (iw (n10 + 1)))) rfl (zaq ?_))
   obtain rfl := zad h
   refine zap ⟨(out12, (iw (n10 + 1))), rfl, ?_⟩
   exact ⟨ob13, cap13, sp13, cs13, out12.length, _, (zef ⟨rfl, rfl, rfl, rfl, trivial⟩), hL29, (zak (zak (zak K12 K13) K14) K27), hE36, rfl, hc24, trivial⟩
  replace h := ite_f hc12 h
  refine zca rfl ?_
  have hp19 := hL13.pick [1] rfl rfl rfl
  have hL30 : vL w w11 [ob11] [zab ([] ++ (cs11 ++ sp11))] := hp19.1
  have K28 := ks w hp19.2
  have f20 := ((hE10.mono (K13 None)).mono (K28 None))
  obtain rfl := zad h
  obtain rfl := hd10 _ rfl
  replace h := g10
  try dsimp only at h
  refine zap ?_
  exact ⟨out11, ob11, cap11, sp11, cs11, out11.length, _, rfl, (zef zrt), hL30, (zak (zak K12 K13) K28), f20, rfl, hc10, trivial⟩
 rintro _ w33 ⟨out10, ob10, cap10, sp10, cs10, ln10, u, rfl, rfl, hL31, K29, hE37, rfl, hc25, -⟩
 replace h := g10
 try dsimp only at h
 refine zal (zah rfl (zag (zae (v := (zO ob10 out10 cap10)) rfl ?_)))
 refine zag (zaj (v := (zO ob10 out10 cap10)) rfl ?_)
 refine zaq (zbt ?_)
 obtain rfl := zad h
 refine ⟨[(zO ob10 out10 cap10)], zrt, ⟨_, rfl, hL31.done, ?_⟩⟩
 exact ⟨ob10, cap10, cs10, sp10, rfl, (hL31.newOwn [0] rfl rfl rfl), (hE37.mono (zdy [0] rfl)), hc25, trivial⟩
theorem tLengths_w (N : Nat) (p : TProb) (pb : Int) (p_v : Value) (p_v1 : Value) (p_v2 : Value) (p_v3 : Value) (p_v4 : Value) (w : World) (S : Nat → Prop) (p_h : Rs rI (vH w S [] w) p_v p.Min) (p_h1 : Rs rI (vH w S [] w) p_v1 p.Max) (p_h2 : Rs rTTest (vH w S [] w) p_v2 p.Tests) (p_h3 : Rs rArr2Int (vH w S [] w) p_v3 p.Same) (p_h4 : Rs rArr2Int (vH w S [] w) p_v4 p.Different) (r : (List Int)) (h : tLengths N p pb = some r) :
  Calls Try.prog 19 #[(zbq #[p_v, p_v1, p_v2, p_v3, p_v4]), (zI pb)] w (Ret w (fun v w' => ∃ (ob0 : Option Nat) (cap0 : Nat) (cs0 : List Value) (sp0 : List Value), (zO ob0 r cap0) = v ∧ NewOwn w w' [ob0] [zab ([] ++ (cs0 ++ sp0))] ∧ Els rI (vH w None [ob0] w') cs0 r ∧ (cs0 ++ sp0).length = cap0 * rI.sz ∧ True)) := by
 unfold tLengths at h
 have hL : vL w w [] [] := Go.X.Loc.begin0 w
 refine calls_of (l := [(zbq #[p_v, p_v1, p_v2, p_v3, p_v4]), (zI pb)]) (rl := [.tmp 4]) (n := 52) Try.func19 rfl rfl rfl (zai rfl) ?_
 refine zal (zah rfl (zag (zdp (cs := [p_v, p_v1, p_v2, p_v3, p_v4]) rfl rfl hL ?_)))
 intro b1 w2 hL3 hS5
 have K4 := ks w hS5
 refine zag (zaj (v := zN) rfl ?_)
 refine zaq (zal (zal ?_))
 obtain ⟨s10, h, g10⟩ := zee h
 refine zbs (fun e w' => ∃ (x9 : Bool) (u : Env), x9 = s10 ∧ e = upds [(1, (zI pb)), (2, (zam (some ⟨b1, 0, none⟩))), (19, (zac x9))] u ∧ vL w w' [some b1] [zab [p_v, p_v1, p_v2, p_v3, p_v4]] ∧ Keep w.heap.size [some b1] w2 [some b1] w' ∧ True) ?_ ?_
 ·
  refine zah rfl (zag (zae (v := (zI pb)) rfl ?_))
  refine zag (zcg (x := pb) (y := 0) ((pb : Int) < 0) rfl rfl zbi ?_)
  refine zag (zae (v := (zac (decide ((pb : Int) < 0)))) rfl ?_)
  by_cases hc10 : (pb : Int) < 0
  ·
   replace h := ite_t hc10 h
   refine zbg rfl rfl (zed hc10) (zbg rfl rfl (zed hc10) (zbg rfl rfl (zed hc10) (zbg rfl rfl (zed hc10) (zbg rfl rfl (zed hc10) ?_))))
   refine zag (zbn (t := (decide ((pb : Int) < 0))) (v := zT) rfl (zed hc10) rfl (zaq ?_))
   obtain rfl := zad h
   refine zap ?_
   exact ⟨true, _, rfl, (zef ⟨rfl, rfl, rfl, trivial⟩), hL3, zbp, trivial⟩
  replace h := ite_f hc10 h
  refine zaz rfl rfl (zec hc10) (zae (v := (zI pb)) rfl ?_)
  refine zaz rfl rfl (zec hc10) (zau (q := 0) zco rfl ti22 rfl rfl rfl ?_)
  refine zaz rfl rfl (zec hc10) (zav (v := p_v) zao rfl rfl (hL3.at 0 rfl rfl) rfl ?_)
  have f10 := (p_h.mono (K4 S))
  refine zaz rfl rfl (zec hc10) (zcf (v := p_v) zao rfl f10 ?_)
  refine zaz rfl rfl (zec hc10) (OpY.geq (x := pb) (y := (p.Min.length : Int)) ((pb : Int) ≥ (p.Min.length : Int)) rfl rfl zbi ?_)
  refine zag (zbh (t := (decide ((pb : Int) < 0))) (v := (zac (decide ((pb : Int) ≥ (p.Min.length : Int))))) rfl (zec hc10) rfl (zaq ?_))
  obtain rfl := zad h
  refine zap ?_
  exact ⟨(decide ((pb : Int) ≥ (p.Min.length : Int))), _, rfl, (zef ⟨rfl, rfl, rfl, trivial⟩), hL3, zbp, trivial⟩
 rintro _ w10 ⟨x9, u, rfl, rfl, hL10, K10, -⟩
 replace h := g10
 try dsimp only at h
 refine zch x9 rfl (fun hc11 => ?_) (fun hc11 => ?_)
 ·
  replace h := ite_t hc11 h
  refine zal (zah rfl (zag (zaj (v := zN) rfl (zaq ?_))))
  have hp10 := hL10.addNil
  have hL11 : vL w w10 [none, some b1] [zab ([] ++ ([] ++ [])), zab [p_v, p_v1, p_v2, p_v3, p_v4]] := hp10.1
  have hE10 : Els rI (vH w None [none, some b1] w10) [] [] := zcm
  refine zbt ?_
  obtain rfl := zad h
  refine ⟨[(osv none 0 (List.length ([] : (List Int))) 0)], zrt, ⟨_, rfl, hL11.done, ?_⟩⟩
  exact ⟨none, 0, [], [], rfl, (hL11.newOwn [0] rfl rfl rfl), (hE10.mono (zdy [0] rfl)), (show ([] ++ [] : List Value).length = 0 * rI.sz by simp), trivial⟩
 replace h := ite_f hc11 h
 refine zbl (zal (zah rfl (zag (zct (vs := [p_v, p_v1, p_v2, p_v3, p_v4]) zco rfl ti31 rfl (hL10.at 0 rfl rfl) rfl rfl ?_))))
 obtain ⟨r10, q10, h⟩ := zee h
 have f11 := ((p_h.mono (K4 S)).mono (K10 S))
 have f12 := ((p_h1.mono (K4 S)).mono (K10 S))
 have f13 := ((p_h2.mono (K4 S)).mono (K10 S))
 have f14 := ((p_h3.mono (K4 S)).mono (K10 S))
 have f15 := ((p_h4.mono (K4 S)).mono (K10 S))
 refine zag (zbz en31 rfl rfl (tgathered_w N p p_v p_v1 p_v2 p_v3 p_v4 _ Any (f11.mono vw_any) (f12.mono vw_any) (f13.mono vw_any) (f14.mono vw_any) (f15.mono vw_any) r10 q10) ?_)
 rintro _ w11 hE11 ⟨ob10, cap10, cs10, sp10, ob11, cap11, cs11, sp11, rfl, hN10, hE12, hc12, hE13, hc13, -⟩
 replace hE12 := hE12.mono (zbv (S := None) hL10 [ob10, ob11])
 replace hE13 := hE13.mono (zbv (S := None) hL10 [ob10, ob11])
 have hp11 := hL10.adoptL hE11 hN10
 have hL12 := hp11.1
 refine zag (zae (v := (Value.tuple #[(zO ob10 r10.1 cap10), (zO ob11 r10.2.1 cap11), (zac r10.2.2)])) rfl ?_)
 refine zag (zck (vs := [(zO ob10 r10.1 cap10), (zO ob11 r10.2.1 cap11), (zac r10.2.2)]) (v := (zO ob10 r10.1 cap10)) rfl rfl ?_)
 refine zag (zck (vs := [(zO ob10 r10.1 cap10), (zO ob11 r10.2.1 cap11), (zac r10.2.2)]) (v := (zO ob11 r10.2.1 cap11)) rfl rfl ?_)
 refine zag (zck (vs := [(zO ob10 r10.1 cap10), (zO ob11 r10.2.1 cap11), (zac r10.2.2)]) (v := (zac r10.2.2)) rfl rfl ?_)
 refine zag (zaj (v := (zO ob10 r10.1 cap10)) rfl ?_)
 refine zag (zaj (v := (zO ob11 r10.2.1 cap11)) rfl ?_)
 refine zag (zaj (v := (zac r10.2.2)) rfl ?_)
 refine zaq (zal (zah rfl (zag (zae (v := (zO ob10 r10.1 cap10)) rfl ?_))))
 refine zag (zae (v := (zO ob11 r10.2.1 cap11)) rfl ?_)
 refine zag (zae (v := (zI pb)) rfl ?_)
 obtain ⟨x10, n10, q12, q13, q14, h⟩ := zix h
 obtain ⟨b10, hb10⟩ := hL12.row_some 1 rfl rfl (zev (pre := []) hE13 q13 (Nat.lt_of_sub_eq_succ rfl))
 refine zag (zbe (r := rI) (b := b10) (o := 0) (n := n10) (m := r10.2.1.length) (xs := r10.2.1) (q := (0 + n10 * rI.sz)) zao ti3 (zem hb10) rfl rfl q12 q14 rfl ?_)
 obtain ⟨vs10, q15, q16, q17⟩ := zeo (pre := []) (sp := sp11) hE13 q13
 obtain rfl := q16
 refine zag (zbu (v := (zI x10)) zaw rfl rfl (zeq hb10 (hL12.at 1 rfl rfl)) q17 ?_)
 obtain ⟨x11, n11, q19, q20, q21, h⟩ := zix h
 obtain ⟨b11, hb11⟩ := hL12.row_some 0 rfl rfl (zev (pre := []) hE12 q20 (Nat.lt_of_sub_eq_succ rfl))
 refine zag (zbe (r := rTClass) (b := b11) (o := 0) (n := n11) (m := r10.1.length) (xs := r10.1) (q := (0 + n11 * rTClass.sz)) zas ti56 (zem hb11) rfl rfl q19 q21 rfl ?_)
 obtain ⟨vs11, q22, q23, q24⟩ := zeo (pre := []) (sp := sp10) hE12 q20
 obtain ⟨v10, v11, v12, rfl, k10, k11, k12, -⟩ := rTClass_open q23
 refine zag (zct (vs := [(zI x11.low), (zI x11.high), v10, v11, v12]) zbo rfl ti56 rfl (zeq hb11 (hL12.at 0 rfl rfl)) rfl q24 ?_)
 refine zag (zdu (cs := [(zI 0), (zI 0), zN, zN, zN]) ti56 rfl hL12 ?_)
 intro b12 w12 hL13 hS10
 have K11 := ks w hS10
 have f16 := (k12.mono (K11 None))
 have f17 := (k11.mono (K11 None))
 have f18 := (k10.mono (K11 None))
 refine zdj (zdg (vs := [(zI x11.low), (zI x11.high), v10, v11, v12]) ti56 rfl rfl rfl rfl (zei rfl (zei rfl (zei f18.one (zei f17.one (zei f16.one zeu))))) hL13 0 rfl rfl (zai rfl) ?_)
 intro w13 (hL14 : vL w w13 [some b12, ob10, ob11, some b1] [zab [(zI x11.low), (zI x11.high), v10, v11, v12], zab ([] ++ (cs10 ++ sp10)), zab ([] ++ (cs11 ++ sp11)), zab [p_v, p_v1, p_v2, p_v3, p_v4]]) hS11
 have K12 := ks w hS11
 refine zaq (zal (zah rfl (zag (zaj (v := zN) rfl ?_))))
 refine zaq (zal (zal (zah rfl (zag (zau (q := 0) zbo rfl ti3 rfl rfl rfl ?_)))))
 refine zag (zav (v := (zI x11.low)) zaw rfl rfl (hL14.at 0 rfl rfl) rfl ?_)
 refine zag (zaj (v := (zI x11.low)) rfl (zaq ?_))
 obtain ⟨s11, hl10, g11⟩ := zee h
 refine zbs (fun e w' => ∃ (out10 : (List Int)) (ob12 : Option Nat) (cap12 : Nat) (sp12 : List Value) (cs12 : List Value) (ln10 : Nat) (u : Env), out10 = s11 ∧ e = upds [(9, (osv ob12 0 ln10 cap12))] u ∧ vL w w' [ob12] [zab ([] ++ (cs12 ++ sp12))] ∧ Keep w.heap.size [some b12, ob10, ob11, some b1] w13 [ob12] w' ∧ Els rI (vH w None [ob12] w') cs12 out10 ∧ ln10 = List.length out10 ∧ (cs12 ++ sp12).length = cap12 * rI.sz ∧ True) ?_ ?_
 ·
  refine zbc ?_
  have hp12 := hL14.addNil
  have hL15 : vL w w13 [none, some b12, ob10, ob11, some b1] [zab ([] ++ ([] ++ [])), zab [(zI x11.low), (zI x11.high), v10, v11, v12], zab ([] ++ (cs10 ++ sp10)), zab ([] ++ (cs11 ++ sp11)), zab [p_v, p_v1, p_v2, p_v3, p_v4]] := hp12.1
  have K13 := ks w hp12.2
  have hp13 := hL15.pick [1, 0] rfl rfl rfl
  have hL16 : vL w w13 [some b12, none] [zab [(zI x11.low), (zI x11.high), v10, v11, v12], zab ([] ++ ([] ++ []))] := hp13.1
  have K14 := ks w hp13.2
  have f19 := ((zcm (r := rI)).mono (K14 None))
  refine zbw hl10 (fun (ss : ((List Int) × Int)) (e : Env) (w' : World) => match ss with | (out11, n12) => ∃ (ob13 : Option Nat) (cap13 : Nat) (sp13 : List Value) (cs13 : List Value) (ln11 : Nat) (u : Env), e = upds [(8, (zam (some ⟨b12, 0, none⟩))), (9, (osv ob13 0 ln11 cap13)), (10, (zI n12))] u ∧ vL w w' [some b12, ob13] [zab [(zI x11.low), (zI x11.high), v10, v11, v12], zab ([] ++ (cs13 ++ sp13))] ∧ Keep w.heap.size [some b12, ob10, ob11, some b1] w13 [some b12, ob13] w' ∧ Els rI (vH w None [some b12, ob13] w') cs13 out11 ∧ ln11 = List.length out11 ∧ (cs13 ++ sp13).length = cap13 * rI.sz ∧ True) ⟨none, 0, [], [], (List.length ([] : (List Int))), _, (zef ⟨rfl, rfl, rfl, trivial⟩), hL16, (zak K13 K14), f19, rfl, (show ([] ++ [] : List Value).length = 0 * rI.sz by simp), trivial⟩ ?_
  rintro ⟨out11, n12⟩ oo _ w14 ⟨ob13, cap13, sp13, cs13, ln11, u, rfl, hL17, K15, hE14, rfl, hc14, -⟩ h hd10
  rw [tLengths_b1] at h
  refine zal (zal (zah rfl (zag (zae (v := (zI n12)) rfl ?_))))
  refine zag (zau (q := 1) zbo rfl ti3 rfl rfl rfl ?_)
  refine zag (zav (v := (zI x11.high)) zaw rfl rfl (hL17.at 0 rfl rfl) rfl ?_)
  refine zag (zea (x := n12) (y := x11.high) ((n12 : Int) ≤ x11.high) rfl rfl zbi (zaq ?_))
  refine zbj ((n12 : Int) ≤ x11.high) rfl (fun hc15 => ?_) (fun hc15 => ?_)
  ·
   replace h := ite_t hc15 h
   refine zbl (zal (zbc (zal (zah rfl (zag (zau (q := 2) zbo rfl ti23 rfl rfl rfl ?_))))))
   refine zag (zav (v := v10) zbk rfl rfl (hL17.at 0 rfl rfl) rfl ?_)
   refine zag (zae (v := (zI n12)) rfl ?_)
   obtain ⟨r11, q25, h⟩ := zee h
   have f20 := ((f18.mono (K12 None)).mono (K15 None))
   refine zag (zbz en39 rfl rfl (pWords_w N x11.tests n12 1 v10 _ Any (f20.mono vw_any) r11 q25) ?_)
   rintro _ w15 hE15 ⟨ob14, cap14, cs14, sp14, rfl, hN11, hE16, hc16, -⟩
   replace hE16 := hE16.mono (zbv (S := None) hL17 [ob14])
   have hp14 := hL17.adoptL hE15 hN11
   have hL18 := hp14.1
   have K16 := ks w hp14.2
   refine zag (zcj (pre := []) (r := rStr) (xs := r11) zba rfl (hL18.at 0 rfl rfl) hE16 rfl rfl ?_)
   refine zag (OpY.gtr (x := (r11.length : Int)) (y := 0) (((r11.length : Int) : Int) > 0) rfl rfl zbi (zaq ?_))
   refine zbj (((r11.length : Int) : Int) > 0) rfl (fun hc17 => ?_) (fun hc17 => ?_)
   ·
    replace h := ite_t hc17 h
    refine zah rfl (zag (zae (v := (zO ob13 out11 cap13)) rfl ?_))
    refine zag (zae (v := (zI n12)) rfl ?_)
    have hE17 : Els rI (vH w None [ob14, some b12, ob13] w15) [(zI n12)] [n12] := (zcp (a := [(zI n12)]) rfl zcm)
    refine zag (zcl (r := rI) (vs := [(zI n12)]) (css := [[(zI n12)]]) (xs := [n12]) zao ti3 (zai rfl) rfl rfl ⟨rfl, rfl, trivial⟩ (zai rfl) hE17 rfl hL18 ?_)
    intro b13 w16 hc18 hL19 hS12
    have K17 := ks w hS12
    obtain ⟨x12, q26, h⟩ := zee h
    obtain ⟨q27, q28, q29⟩ := zer q26
    have f21 := (hE17.mono (K17 None))
    have f22 := ((hE14.mono (K16 None)).mono (K17 None))
    refine zag (zcx (r := rI) (H := (vH w None [some b13, ob14, some b12, ob13] w16)) (cs := cs13) (sp := sp13) (xs := out11) (ys := [n12]) (Y := x12) (n := out11.length) (cap := cap13) (i := 3) zao ti3 rfl rfl rfl rfl hL19 rfl rfl f22 rfl hc14 (zdw (pre := []) (o := 0) (n := 1) (cap := 1) (hL19.at 0 rfl rfl) f21 rfl rfl rfl) (zci (fun _ _ _ _ h => h) f21) q27 q28 q29 ?_)
    intro ob15 cap15 sp15 cs15 w17 hE18 hc19 (hL20 : vL w w17 [some b13, ob14, some b12, ob15] [zab ([] ++ ([(zI n12)] ++ [])), zab ([] ++ (cs14 ++ sp14)), zab [(zI x11.low), (zI x11.high), v10, v11, v12], zab ([] ++ (cs15 ++ sp15))]) hS13
    have K18 := ks w hS13
    refine zag (zaj (v := (zO ob15 x12 cap15)) rfl ?_)
    refine zaq (zbf (zah rfl (zag (zae (v := (zI n12)) rfl ?_))))
    refine zag (zbx (x := n12) (y := 1) (z := (iw (n12 + 1))) rfl rfl rfl ?_)
    refine zag (zaj (v := (zI (iw (n12 + 1)))) rfl (zaq ?_))
    have hp15 := hL20.pick [2, 3] rfl rfl rfl
    have hL21 : vL w w17 [some b12, ob15] [zab [(zI x11.low), (zI x11.high), v10, v11, v12], zab ([] ++ (cs15 ++ sp15))] := hp15.1
    have K19 := ks w hp15.2
    have f23 := ((hE18.mono (K18 None)).mono (K19 None))
    obtain rfl := zad h
    refine zap ⟨(x12, (iw (n12 + 1))), rfl, ?_⟩
    exact ⟨ob15, cap15, sp15, cs15, x12.length, _, (zef ⟨rfl, rfl, rfl, trivial⟩), hL21, (zak (zak (zak (zak K15 K16) K17) K18) K19), f23, rfl, hc19, trivial⟩
   replace h := ite_f hc17 h
   refine zbl (zbf (zah rfl (zag (zae (v := (zI n12)) rfl ?_))))
   refine zag (zbx (x := n12) (y := 1) (z := (iw (n12 + 1))) rfl rfl rfl ?_)
   refine zag (zaj (v := (zI (iw (n12 + 1)))) rfl (zaq ?_))
   have hp16 := hL18.pick [1, 2] rfl rfl rfl
   have hL22 : vL w w15 [some b12, ob13] [zab [(zI x11.low), (zI x11.high), v10, v11, v12], zab ([] ++ (cs13 ++ sp13))] := hp16.1
   have K20 := ks w hp16.2
   have f24 := ((hE14.mono (K16 None)).mono (K20 None))
   obtain rfl := zad h
   refine zap ⟨(out11, (iw (n12 + 1))), rfl, ?_⟩
   exact ⟨ob13, cap13, sp13, cs13, out11.length, _, (zef ⟨rfl, rfl, rfl, trivial⟩), hL22, (zak (zak K15 K16) K20), f24, rfl, hc14, trivial⟩
  replace h := ite_f hc15 h
  refine zca rfl ?_
  have hp17 := hL17.pick [1] rfl rfl rfl
  have hL23 : vL w w14 [ob13] [zab ([] ++ (cs13 ++ sp13))] := hp17.1
  have K21 := ks w hp17.2
  have f25 := (hE14.mono (K21 None))
  obtain rfl := zad h
  obtain rfl := hd10 _ rfl
  replace h := g11
  try dsimp only at h
  refine zap ?_
  exact ⟨out11, ob13, cap13, sp13, cs13, out11.length, _, rfl, (zef zrt), hL23, (zak K15 K21), f25, rfl, hc14, trivial⟩
 rintro _ w18 ⟨out10, ob12, cap12, sp12, cs12, ln10, u, rfl, rfl, hL24, K22, hE19, rfl, hc20, -⟩
 replace h := g11
 try dsimp only at h
 refine zal (zah rfl (zag (zae (v := (zO ob12 out10 cap12)) rfl ?_)))
 refine zag (zaj (v := (zO ob12 out10 cap12)) rfl ?_)
 refine zaq (zbt ?_)
 obtain rfl := zad h
 refine ⟨[(zO ob12 out10 cap12)], zrt, ⟨_, rfl, hL24.done, ?_⟩⟩
 exact ⟨ob12, cap12, cs12, sp12, rfl, (hL24.newOwn [0] rfl rfl rfl), (hE19.mono (zdy [0] rfl)), hc20, trivial⟩
end Go.Proofs.Ytaakoedphmeenaa.WT

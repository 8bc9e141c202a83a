/- Walks, written by a program of mine (wip/tool); the kernel checks them. -/
import Derived.Test.YtakkacdhlocckaaProg
import Derived.Test.YtakkacdhlocckaaSqApply
import Derived.Test.YtakkacdhlocckaaPD
import Derived.Test.YtakkacdhlocckaaWAApply
import Derived.Test.YtakkacdhlocckaaWRApply
import Derived.Test.YtakkacdhlocckaaWBApply
import Derived.Test.YtakkacdhlocckaaWCApply
set_option maxRecDepth 100000
set_option maxHeartbeats 4000000
set_option linter.unusedVariables false
namespace Go.Proofs.Ytakkacdhlocckaa.WD
open Go Go.RowKit Go.X Go.D Go.Proofs.Ytakkacdhlocckaa.WA Go.Proofs.Ytakkacdhlocckaa.WR Go.Proofs.Ytakkacdhlocckaa.WB Go.Proofs.Ytakkacdhlocckaa.WC
theorem en50 : Enters Try.prog 50 := ⟨Try.f50, Try.func50, by kernel_rfl, by kernel_rfl⟩
theorem en49 : Enters Try.prog 49 := ⟨Try.f49, Try.func49, by kernel_rfl, by kernel_rfl⟩
theorem en39 : Enters Try.prog 39 := ⟨Try.f39, Try.func39, by kernel_rfl, by kernel_rfl⟩
theorem en51 : Enters Try.prog 51 := ⟨Try.f51, Try.func51, by kernel_rfl, by kernel_rfl⟩
theorem en15 : Enters Try.prog 15 := ⟨Try.f15, Try.func15, by kernel_rfl, by kernel_rfl⟩
theorem en23 : Enters Try.prog 23 := ⟨Try.f23, Try.func23, by kernel_rfl, by kernel_rfl⟩
theorem en16 : Enters Try.prog 16 := ⟨Try.f16, Try.func16, by kernel_rfl, by kernel_rfl⟩
theorem en43 : Enters Try.prog 43 := ⟨Try.f43, Try.func43, by kernel_rfl, by kernel_rfl⟩
theorem en13 : Enters Try.prog 13 := ⟨Try.f13, Try.func13, by kernel_rfl, by kernel_rfl⟩
theorem rzero_w (N : Nat) (n : Int)  (w : World) (S : Nat → Prop)  (r : Ineq) (h : rzero N n = some r) :
  Calls Try.prog 50 #[(zac .i64 n)] w (Ret w (fun v w' => ∃ (ob0_0 : Option Nat) (cap0_0 : Nat) (cs0_0 : List Value) (sp0_0 : List Value) (ob0_1 : Option Nat) (cap0_1 : Nat) (cs0_1 : List Value) (sp0_1 : List Value), (zan #[(osv ob0_0 0 r.Coefs.length cap0_0), (zaa r.Bound.Negative), (osv ob0_1 0 r.Bound.Digits.length cap0_1)]) = v ∧ NewOwn w w' [ob0_0, ob0_1] [.cells ([] ++ (cs0_0 ++ sp0_0)), .cells ([] ++ (cs0_1 ++ sp0_1))] ∧ Els rBig (vH w None [ob0_0, ob0_1] w') cs0_0 r.Coefs ∧ (cs0_0 ++ sp0_0).length = cap0_0 * rBig.sz ∧ Els (rInt .u32) (vH w None [ob0_0, ob0_1] w') cs0_1 r.Bound.Digits ∧ (cs0_1 ++ sp0_1).length = cap0_1 * (rInt .u32).sz ∧ True)) := by
 unfold rzero at h
 have hL : vL w w [] [] := Go.X.Loc.begin0 w
 refine calls_of (l := [(zac .i64 n)]) (rl := [.cell 2 34]) (n := 6) Try.func50 rfl rfl rfl (zae rfl) ?_
 refine zaj (zah rfl (zaf (zbw (cs := [(zad none 0 0), (zaa false), (zad none 0 0)]) ti34 rfl hL ?_)))
 intro b1 w2 hL3 hS5
 refine zap (zaj (zah rfl (zaf (zai (v := (zac .i64 n)) rfl ?_))))
 obtain ⟨x7, q8, h⟩ := bind_some h
 obtain ⟨m6, q9, q10, q11, q12⟩ := mk1_some q8
 refine zaf (OpY.mkRowX (r := rBig) (H := (vH w None [some b1] w2)) (zc := [(zaa false), (zad none 0 0)]) (x := (Big.mk false [])) zax ti26 rfl (rBig_close ⟨(zad none 0 0), rfl, zdj, trivial⟩) rfl rfl q9 q10 q11 q12 hL3 ?_)
 intro b13 w18 cs14 hE15 hc16 hL19 hS21
 have K20 := ks w hS21
 refine zaf (zcx (zc := [(zad none 0 0), (zaa false), (zad none 0 0)]) (cs := [(osv (some b13) 0 x7.length m6), (zaa false), (zad none 0 0)]) (is := [0]) (vs := [(osv (some b13) 0 x7.length m6)]) (css := [[(osv (some b13) 0 x7.length m6)]]) pl34 ti34 rfl rfl rfl ⟨(one_cells (osv_one _ _ _ _)), trivial⟩ rfl ?_)
 refine zcb (zbh (vs := [(osv (some b13) 0 x7.length m6), (zaa false), (zad none 0 0)]) ti34 rfl rfl rfl rfl (ones_cons (osv_one _ _ _ _) (ones_cons rfl (ones_cons rfl ones_nil))) hL19 1 rfl rfl (zae rfl) ?_)
 intro w22 (hL23 : vL w w22 [some b13, some b1] [zab ([] ++ (cs14 ++ [])), zab [(osv (some b13) 0 x7.length m6), (zaa false), (zad none 0 0)]]) hS25
 have K24 := ks w hS25
 refine zap ?_
 have hp26 := hL23.addNil
 have hL27 : vL w w22 [none, some b13, some b1] [zab ([] ++ ([] ++ [])), zab ([] ++ (cs14 ++ [])), zab [(osv (some b13) 0 x7.length m6), (zaa false), (zad none 0 0)]] := hp26.1
 have K28 := ks w hp26.2
 have hE30 : Els (rInt .u32) (vH w None [none, some b13, some b1] w22) [] [] := zct
 refine zbl ?_
 obtain rfl := zag h
 refine ⟨[(zan #[(osv (some b13) 0 x7.length m6), (zaa false), (osv none 0 (List.length ([] : (List Int))) 0)])], ⟨⟨⟨b1, 0, none⟩, rfl, res_boxA zba rfl ti34 (hL27.at 2 rfl rfl) rfl⟩, trivial⟩, ⟨_, rfl, hL27.done, ?_⟩⟩
 have f31 := (((hE15.mono (K20 None)).mono (K24 None)).mono (K28 None))
 exact ⟨some b13, m6, cs14, [], none, 0, [], [], rfl, (hL27.newOwn [1, 0] rfl rfl rfl), (f31.mono (Hv.pick [1, 0] rfl)), hc16, (hE30.mono (Hv.pick [1, 0] rfl)), (show ([] ++ [] : List Value).length = 0 * (rInt .u32).sz by simp), trivial⟩
theorem rEven_w (N : Nat) (l : (List Ineq)) (l_v : Value) (w : World) (S : Nat → Prop) (l_h : Rs rIneq (vH w S [] w) l_v l) (r : Bool) (h : rEven N l = some r) :
  Calls Try.prog 49 #[l_v] w (Ret w (fun v w' => (zaa r) = v ∧ True)) := by
 unfold rEven at h
 have hL : vL w w [] [] := Go.X.Loc.begin0 w
 refine calls_of (l := [l_v]) (rl := [.tmp 2]) (n := 22) Try.func49 rfl rfl rfl (zae rfl) ?_
 refine zaj (zah rfl (zaf (zak (v := (zaa false)) rfl ?_)))
 refine zap (zaj (zaj (zah rfl (zaf (zak (v := (zac .i64 0)) rfl ?_)))))
 refine zap ?_
 obtain ⟨s243, hl245, g244⟩ := bind_some h
 refine zbr (fun e w' => ∃  (u : Env), (Sum.inl ()) = s243 ∧ e = upds [] u ∧ vL w w' [] [] ∧ Keep w.heap.size [] w [] w' ∧ True) ?_ ?_
 ·
  refine zbj ?_
  refine zcg hl245 (fun (ss : Int) (e : Env) (w' : World) => match ss with | i242 => ∃ (u : Env), e = upds [(0, l_v), (3, (zac .i64 i242))] u ∧ vL w w' [] [] ∧ Keep w.heap.size [] w [] w' ∧ True) ⟨_, (upds_sym ⟨rfl, rfl, trivial⟩), hL, zbo, trivial⟩ ?_
  rintro i242 oo _ w247 ⟨u, rfl, hL248, K249, -⟩ h hd246
  rw [rEven_b1] at h
  refine zaj (zaj (zah rfl (zaf (zai (v := (zac .i64 i242)) rfl ?_))))
  refine zaf (zai (v := l_v) rfl ?_)
  have f250 := (l_h.mono (K249 S))
  refine zaf (zbf (v := l_v) zbm rfl f250 ?_)
  refine zaf (zcr (x := i242) (y := (l.length : Int)) ((i242 : Int) < (l.length : Int)) rfl rfl zbk ?_)
  refine zap ?_
  refine zbe ((i242 : Int) < (l.length : Int)) rfl (fun hc251 => ?_) (fun hc251 => ?_)
  ·
   replace h := ite_t hc251 h
   refine zbg (zaj (zbj (zaj ?_)))
   obtain ⟨x252, q253, h⟩ := bind_some h
   obtain ⟨n254, q255, q256⟩ := idx_some q253
   obtain ⟨b257, o258, c259, vs260, q261, q262, f263, q264⟩ := zcz f250 q256
   obtain ⟨v265, v267, rfl, k266, k268, -⟩ := rIneq_open q264
   have f269 := (f263.part (us := [v265]) 0 rfl)
   obtain ⟨x270, q271, h⟩ := bind_some h
   obtain ⟨n272, q273, q274⟩ := idx_some q271
   obtain ⟨b275, o276, c277, vs278, q279, q280, f281, q282⟩ := zcz f250 q274
   obtain ⟨v283, v285, rfl, k284, k286, -⟩ := rIneq_open q282
   have f287 := (f281.part (us := [v283]) 0 rfl)
   refine zcc 11 [] [] (fun W1 => [.det l_v, .det (zac .i64 i242), .det (zam (some ⟨b257, (o258 + n254 * rIneq.sz), none⟩)), .det (zam (some ⟨b257, (o258 + n254 * rIneq.sz) + 0, none⟩)), .det v265, .det (zac .i64 (x252.Coefs.length : Int)), .det l_v, .det (zam (some ⟨b275, (o276 + n272 * rIneq.sz), none⟩)), .det (zam (some ⟨b275, (o276 + n272 * rIneq.sz) + 0, none⟩)), .det v283, .det (zac .i64 (x270.Coefs.length : Int))]) mixed rfl rfl rfl (fun _ => rfl) (fun _ => rfl) ?_ ?_
   ·
    intro W1 _
    exact trivial
   ·
    intro w288 hE289
    have hL290 := hL248.ext hE289
    have K291 := ke hL248 hE289
    refine zau (fun _ _ => zat (zai rfl (er rfl))) ?_
    refine zau (fun _ _ => zat (zai rfl (er rfl))) ?_
    refine zau (fun _ _ => zat (zbv (r := rIneq) (v := l_v) (n := n254) (m := (o258 + n254 * rIneq.sz)) zbm ti34 rfl q261 rfl q255 q256 rfl (er rfl))) ?_
    refine zau (fun _ _ => zat (zar zba rfl ti32 rfl rfl rfl (er rfl))) ?_
    refine zau (fun _ hE318 => zat (zck zax rfl rfl vw_view (zcw ((ke hL290 hE318) S) (zcw (K291 S) f269)) (er rfl))) ?_
    refine zau (fun _ hE324 => zat (zbf (v := v265) zax rfl ((k266.mono (K291 S)).mono ((ke hL290 hE324) S)) (er rfl))) ?_
    refine zau (fun _ _ => zat (zai rfl (er rfl))) ?_
    refine zau (fun _ _ => zat (zbv (r := rIneq) (v := l_v) (n := n272) (m := (o276 + n272 * rIneq.sz)) zbm ti34 rfl q279 rfl q273 q274 rfl (er rfl))) ?_
    refine zau (fun _ _ => zat (zar zba rfl ti32 rfl rfl rfl (er rfl))) ?_
    refine zau (fun _ hE348 => zat (zck zax rfl rfl vw_view (zcw ((ke hL290 hE348) S) (zcw (K291 S) f287)) (er rfl))) ?_
    refine zau (fun _ hE354 => zat (zbf (v := v283) zax rfl ((k284.mono (K291 S)).mono ((ke hL290 hE354) S)) (er rfl))) ?_
    refine zcn ?_
    rintro w358 Z359 hE360 hZ361 ⟨-⟩ ap362
    have hB363 : ∀ b, some b ∈ ([] : List (Option Nat)) → w288.heap.size ≤ b ∧ ¬ Z359 b := by
     intro b hb; cases hb
    have hL364 := hL290.ext hE360
    have K365 := ke hL290 hE360
    refine zaf (OpY.neq (x := (x252.Coefs.length : Int)) (y := (x270.Coefs.length : Int)) (((x252.Coefs.length : Int) : Int) ≠ (x270.Coefs.length : Int)) rfl rfl zbk ?_)
    refine zap ?_
    refine zbe (((x252.Coefs.length : Int) : Int) ≠ (x270.Coefs.length : Int)) rfl (fun hc366 => ?_) (fun hc366 => ?_)
    ·
     replace h := ite_t hc366 h
     refine zaj (zah rfl (zaf (zak (v := (zaa false)) rfl ?_)))
     refine zap (zbl ?_)
     obtain rfl := zag h
     obtain rfl := hd246 _ rfl
     replace h := g244
     try dsimp only at h
     obtain rfl := zag h
     refine ⟨[(zaa false)], ⟨rfl, trivial⟩, ⟨_, rfl, hL364.done, ?_⟩⟩
     exact ⟨rfl, trivial⟩
    ·
     replace h := ite_f hc366 h
     refine zbg (zbs (zah rfl (zaf (zai (v := (zac .i64 i242)) rfl ?_))))
     refine zaf (zcd (x := i242) (y := 1) (z := (iw (i242 + 1))) rfl rfl rfl ?_)
     refine zaf (zak (v := (zac .i64 (iw (i242 + 1)))) rfl ?_)
     refine zap ?_
     obtain rfl := zag h
     refine zas ⟨(iw (i242 + 1)), rfl, ?_⟩
     exact ⟨_, (upds_sym ⟨rfl, rfl, trivial⟩), hL364, (zaq (zaq K249 K291) K365), trivial⟩
  ·
   replace h := ite_f hc251 h
   refine zcs rfl ?_
   obtain rfl := zag h
   obtain rfl := hd246 _ rfl
   replace h := g244
   try dsimp only at h
   skip
   refine zas ?_
   exact ⟨_, rfl, (upds_sym trivial), hL248, K249, trivial⟩
 ·
  rintro _ w367 ⟨u, rfl, rfl, hL368, K369, -⟩
  replace h := g244
  try dsimp only at h
  refine zaj (zah rfl (zaf (zak (v := (zaa true)) rfl ?_)))
  refine zap (zbl ?_)
  obtain rfl := zag h
  refine ⟨[(zaa true)], ⟨rfl, trivial⟩, ⟨_, rfl, hL368.done, ?_⟩⟩
  exact ⟨rfl, trivial⟩
theorem rApply_w (N : Nat) (l : (List Ineq)) (s : Step) (l_v : Value) (s_v : Value) (s_v1 : Value) (w : World) (S : Nat → Prop) (l_h : Rs rIneq (vH w S [] w) l_v l) (s_h : Rs rUse (vH w S [] w) s_v s.Uses) (s_h1 : Rs (rInt .u32) (vH w S [] w) s_v1 s.Divisor.Digits) (r : (Ineq × Bool)) (h : rApply N l s = some r) :
  Calls Try.prog 15 #[l_v, (zan #[s_v, (zaa s.Divisor.Negative), s_v1])] w (Ret w (fun v w' => ∃ (v0_0 : Value) (v0_1 : Value), .tuple #[(zan #[v0_0, (zaa r.1.Bound.Negative), v0_1]), (zaa r.2)] = v ∧ Rs rBig (vH w None [] w') v0_0 r.1.Coefs ∧ Rs (rInt .u32) (vH w None [] w') v0_1 r.1.Bound.Digits ∧ True)) := by
 unfold rApply at h
 have hL : vL w w [] [] := Go.X.Loc.begin0 w
 refine calls_of (l := [l_v, (zan #[s_v, (zaa s.Divisor.Negative), s_v1])]) (rl := [.cell 4 34, .tmp 5]) (n := 139) Try.func15 rfl rfl rfl (zae rfl) ?_
 refine zaj (zah rfl (zaf (zdc (cs := [s_v, (zaa s.Divisor.Negative), s_v1]) rfl rfl hL ?_)))
 intro b1 w2 hL3 hS5
 have K4 := ks w hS5
 refine zaf (zbw (cs := [(zad none 0 0), (zaa false), (zad none 0 0)]) ti34 rfl hL3 ?_)
 intro b6 w7 hL8 hS10
 have K9 := ks w hS10
 refine zaf (zak (v := (zaa false)) rfl ?_)
 refine zap (zaj (zaj ?_))
 obtain ⟨s31, h, g32⟩ := bind_some h
 refine zbr (fun e w' => ∃ (x30 : Bool) (u : Env), x30 = s31 ∧ e = upds [(0, l_v), (3, (zam (some ⟨b1, 0, none⟩))), (4, (zam (some ⟨b6, 0, none⟩))), (24, (zaa x30))] u ∧ vL w w' [some b1, some b6] [zab [s_v, (zaa s.Divisor.Negative), s_v1], zab [(zad none 0 0), (zaa false), (zad none 0 0)]] ∧ Keep w.heap.size [some b6, some b1] w7 [some b1, some b6] w' ∧ True) ?_ ?_
 ·
  refine zah rfl (zaf (zai (v := l_v) rfl ?_))
  obtain ⟨r33, q34, h⟩ := bind_some h
  have f36 := ((l_h.mono (K4 S)).mono (K9 S))
  refine zaf (zaw en49 rfl rfl (rEven_w N l l_v _ Any (f36.mono vw_any) r33 q34) ?_)
  rintro _ w37 hE40 ⟨rfl, -⟩
  have hL38 := hL8.ext hE40
  have K39 := ke hL8 hE40
  refine zaf (OpY.not (x := r33) rfl ?_)
  refine zaf (zai (v := (zaa (!r33))) rfl ?_)
  by_cases hc41 : (!r33) = true
  ·
   replace h := ite_t hc41 h
   refine zbt rfl rfl hc41 ?_
   refine zbt rfl rfl hc41 ?_
   refine zbt rfl rfl hc41 ?_
   refine zbt rfl rfl hc41 ?_
   refine zaf (zcm (t := (!r33)) (v := (zaa true)) rfl hc41 rfl ?_)
   refine zap ?_
   have hp42 := hL38.pick [1, 0] rfl rfl rfl
   have hL44 : vL w w37 [some b1, some b6] [zab [s_v, (zaa s.Divisor.Negative), s_v1], zab [(zad none 0 0), (zaa false), (zad none 0 0)]] := hp42.1
   have K43 := ks w hp42.2
   obtain rfl := zag h
   refine zas ?_
   exact ⟨true, _, rfl, (upds_sym ⟨rfl, rfl, rfl, rfl, trivial⟩), hL44, (zaq K39 K43), trivial⟩
  ·
   replace h := ite_f hc41 h
   refine zbu rfl rfl (eq_false_of_ne_true hc41) (zar (q := 1) zce rfl ti26 rfl rfl rfl ?_)
   refine zbu rfl rfl (eq_false_of_ne_true hc41) (zbd (vs := [(zaa s.Divisor.Negative), s_v1]) zal rfl ti26 rfl (hL38.at 1 rfl rfl) rfl rfl ?_)
   obtain ⟨r45, q46, h⟩ := bind_some h
   have f48 := (((s_h1.mono (K4 S)).mono (K9 S)).mono (K39 S))
   refine zbu rfl rfl (eq_false_of_ne_true hc41) (zaw en40 rfl rfl (rSign_w N s.Divisor s_v1 _ Any (f48.mono vw_any) r45 q46) ?_)
   rintro _ w49 hE52 ⟨rfl, -⟩
   have hL50 := hL38.ext hE52
   have K51 := ke hL38 hE52
   refine zbu rfl rfl (eq_false_of_ne_true hc41) (OpY.leq (x := r45) (y := 0) ((r45 : Int) ≤ 0) rfl rfl zbk ?_)
   refine zaf (zbz (t := (!r33)) (v := (zaa (decide ((r45 : Int) ≤ 0)))) rfl (eq_false_of_ne_true hc41) rfl ?_)
   refine zap ?_
   have hp53 := hL50.pick [1, 0] rfl rfl rfl
   have hL55 : vL w w49 [some b1, some b6] [zab [s_v, (zaa s.Divisor.Negative), s_v1], zab [(zad none 0 0), (zaa false), (zad none 0 0)]] := hp53.1
   have K54 := ks w hp53.2
   obtain rfl := zag h
   refine zas ?_
   exact ⟨(decide ((r45 : Int) ≤ 0)), _, rfl, (upds_sym ⟨rfl, rfl, rfl, rfl, trivial⟩), hL55, (zaq (zaq K39 K51) K54), trivial⟩
 ·
  rintro _ w56 ⟨x30, u, rfl, rfl, hL57, K58, -⟩
  replace h := g32
  try dsimp only at h
  refine zcu x30 rfl (fun hc59 => ?_) (fun hc59 => ?_)
  ·
   replace h := ite_t hc59 h
   refine zaj (zah rfl (zaf (zcx (zc := [(zad none 0 0), (zaa false), (zad none 0 0)]) (cs := [(zad none 0 0), (zaa false), (zad none 0 0)]) (is := []) (vs := []) (css := []) pl34 ti34 rfl rfl rfl trivial rfl ?_)))
   refine zcb (zbh (vs := [(zad none 0 0), (zaa false), (zad none 0 0)]) ti34 rfl rfl rfl rfl (ones_cons rfl (ones_cons rfl (ones_cons rfl ones_nil))) hL57 1 rfl rfl (zae rfl) ?_)
   intro w60 (hL61 : vL w w60 [some b1, some b6] [zab [s_v, (zaa s.Divisor.Negative), s_v1], zab [(zad none 0 0), (zaa false), (zad none 0 0)]]) hS63
   refine zaf (zak (v := (zaa false)) rfl ?_)
   refine zap (zbl ?_)
   obtain rfl := zag h
   refine ⟨[(zan #[(zad none 0 0), (zaa false), (zad none 0 0)]), (zaa false)], ⟨⟨⟨b6, 0, none⟩, rfl, res_boxA zba rfl ti34 (hL61.at 1 rfl rfl) rfl⟩, ⟨rfl, trivial⟩⟩, ⟨_, rfl, hL61.done, ?_⟩⟩
   exact ⟨(zad none 0 0), (zad none 0 0), rfl, zdj, zdj, trivial⟩
  ·
   replace h := ite_f hc59 h
   refine zbg (zaj (zah rfl (zaf (zak (v := (zac .i64 0)) rfl ?_))))
   refine zap (zaj (zaj (zah rfl (zaf (zai (v := l_v) rfl ?_)))))
   have f64 := (((l_h.mono (K4 S)).mono (K9 S)).mono (K58 S))
   refine zaf (zbf (v := l_v) zbm rfl f64 ?_)
   refine zaf (zdm (x := (l.length : Int)) (y := 0) (((l.length : Int) : Int) > 0) rfl rfl zbk ?_)
   refine zap ?_
   obtain ⟨s87, h, g88⟩ := bind_some h
   refine zbr (fun e w' => ∃ (n86 : Int) (u : Env), n86 = s87 ∧ e = upds [(0, l_v), (3, (zam (some ⟨b1, 0, none⟩))), (4, (zam (some ⟨b6, 0, none⟩))), (6, (zac .i64 n86))] u ∧ vL w w' [some b1, some b6] [zab [s_v, (zaa s.Divisor.Negative), s_v1], zab [(zad none 0 0), (zaa false), (zad none 0 0)]] ∧ Keep w.heap.size [some b1, some b6] w56 [some b1, some b6] w' ∧ True) ?_ ?_
   ·
    refine zbe (((l.length : Int) : Int) > 0) rfl (fun hc89 => ?_) (fun hc89 => ?_)
    ·
     replace h := ite_t hc89 h
     refine zah rfl (zaf (zai (v := l_v) rfl ?_))
     obtain ⟨x90, q91, h⟩ := bind_some h
     obtain ⟨n92, q93, q94⟩ := idx_some q91
     obtain ⟨b95, o96, c97, vs98, q99, q100, f101, q102⟩ := zcz f64 q94
     obtain ⟨v103, v105, rfl, k104, k106, -⟩ := rIneq_open q102
     refine zaf (zbv (r := rIneq) (v := l_v) (n := n92) (m := (o96 + n92 * rIneq.sz)) zbm ti34 rfl q99 rfl q93 q94 rfl ?_)
     have f107 := (f101.part (us := [v103]) 0 rfl)
     refine zaf (zar (q := (o96 + n92 * rIneq.sz) + 0) zba rfl ti32 rfl rfl rfl ?_)
     refine zaf (zck (v := v103) zax rfl rfl vw_view f107 ?_)
     refine zaf (zbf (v := v103) zax rfl k104 ?_)
     refine zaf (zak (v := (zac .i64 (x90.Coefs.length : Int))) rfl ?_)
     refine zap ?_
     obtain rfl := zag h
     refine zas ?_
     exact ⟨(x90.Coefs.length : Int), _, rfl, (upds_sym ⟨rfl, rfl, rfl, rfl, trivial⟩), hL57, zbo, trivial⟩
    ·
     replace h := ite_f hc89 h
     refine zbg ?_
     obtain rfl := zag h
     refine zas ?_
     exact ⟨0, _, rfl, (upds_sym ⟨rfl, rfl, rfl, rfl, trivial⟩), hL57, zbo, trivial⟩
   ·
    rintro _ w108 ⟨n86, u, rfl, rfl, hL109, K110, -⟩
    replace h := g88
    try dsimp only at h
    refine zaj (zah rfl (zaf (zai (v := (zac .i64 n86)) rfl ?_)))
    obtain ⟨r111, q112, h⟩ := bind_some h
    refine zaf (zaw en50 rfl rfl (rzero_w N n86 _ Any r111 q112) ?_)
    rintro _ w128 hE131 ⟨ob113, cap114, cs115, sp116, ob120, cap121, cs122, sp123, rfl, hN127, hE117, hc118, hE124, hc125, -⟩
    replace hE117 := hE117.mono (zbc (S := None) hL109 [ob113, ob120])
    replace hE124 := hE124.mono (zbc (S := None) hL109 [ob113, ob120])
    have hp132 := hL109.adoptL hE131 hN127
    have hL129 := hp132.1
    have K130 := ks w hp132.2
    refine zaf (zbw (cs := [(zad none 0 0), (zaa false), (zad none 0 0)]) ti34 rfl hL129 ?_)
    intro b133 w134 hL135 hS137
    have K136 := ks w hS137
    refine zcb (zbh (vs := [(osv ob113 0 r111.Coefs.length cap114), (zaa r111.Bound.Negative), (osv ob120 0 r111.Bound.Digits.length cap121)]) ti34 rfl rfl rfl rfl (ones_cons (osv_one _ _ _ _) (ones_cons rfl (ones_cons (osv_one _ _ _ _) ones_nil))) hL135 0 rfl rfl (zae rfl) ?_)
    intro w138 (hL139 : vL w w138 [some b133, ob113, ob120, some b1, some b6] [zab [(osv ob113 0 r111.Coefs.length cap114), (zaa r111.Bound.Negative), (osv ob120 0 r111.Bound.Digits.length cap121)], zab ([] ++ (cs115 ++ sp116)), zab ([] ++ (cs122 ++ sp123)), zab [s_v, (zaa s.Divisor.Negative), s_v1], zab [(zad none 0 0), (zaa false), (zad none 0 0)]]) hS141
    have K140 := ks w hS141
    refine zap (zaj (zaj (zah rfl (zaf (zak (v := (zac .i64 0)) rfl ?_)))))
    refine zap ?_
    obtain ⟨s1767, hl1769, g1768⟩ := bind_some h
    refine zbr (fun e w' => ∃ (coefs1759 : (List Big)) (negative1763 : Bool) (digits1764 : (List Int)) (cs1758 : List Value) (v1765 : Value) (u : Env), (Sum.inl (coefs1759, negative1763, digits1764)) = s1767 ∧ e = upds [(3, (zam (some ⟨b1, 0, none⟩))), (4, (zam (some ⟨b6, 0, none⟩))), (6, (zac .i64 n86)), (7, (zam (some ⟨b133, 0, none⟩)))] u ∧ vL w w' [some b1, some b6, some b133, ob113] [zab [s_v, (zaa s.Divisor.Negative), s_v1], zab [(zad none 0 0), (zaa false), (zad none 0 0)], zab [(osv ob113 0 r111.Coefs.length cap114), (zaa negative1763), v1765], zab ([] ++ (cs1758 ++ sp116))] ∧ Keep w.heap.size [some b133, ob113, ob120, some b1, some b6] w138 [some b1, some b6, some b133, ob113] w' ∧ Els rBig (vH w None [some b1, some b6, some b133, ob113] w') cs1758 coefs1759 ∧ r111.Coefs.length = List.length coefs1759 ∧ (cs1758 ++ sp116).length = cap114 * rBig.sz ∧ Rs (rInt .u32) (vH w None [some b1, some b6, some b133, ob113] w') v1765 digits1764 ∧ True) ?_ ?_
    ·
     refine zbj ?_
     have f1772 := ((hE124.mono (K136 None)).mono (K140 None))
     have f1771 := hL139.freezeRow 2 rfl rfl f1772 rfl rfl rfl hc125
     have hp1773 := hL139.pick [0, 1, 3, 4] rfl rfl rfl
     have hL1775 : vL w w138 [some b133, ob113, some b1, some b6] [zab [(osv ob113 0 r111.Coefs.length cap114), (zaa r111.Bound.Negative), (osv ob120 0 r111.Bound.Digits.length cap121)], zab ([] ++ (cs115 ++ sp116)), zab [s_v, (zaa s.Divisor.Negative), s_v1], zab [(zad none 0 0), (zaa false), (zad none 0 0)]] := hp1773.1
     have K1774 := ks w hp1773.2
     have hp1776 := hL1775.pick [2, 3, 0, 1] rfl rfl rfl
     have hL1778 : vL w w138 [some b1, some b6, some b133, ob113] [zab [s_v, (zaa s.Divisor.Negative), s_v1], zab [(zad none 0 0), (zaa false), (zad none 0 0)], zab [(osv ob113 0 r111.Coefs.length cap114), (zaa r111.Bound.Negative), (osv ob120 0 r111.Bound.Digits.length cap121)], zab ([] ++ (cs115 ++ sp116))] := hp1776.1
     have K1777 := ks w hp1776.2
     have f1779 := ((((hE117.mono (K136 None)).mono (K140 None)).mono (K1774 None)).mono (K1777 None))
     have f1780 := (f1771.mono (K1777 None))
     refine zcg hl1769 (fun (ss : ((List Big) × Bool × (List Int) × Int)) (e : Env) (w' : World) => match ss with | (coefs1745, negative1749, digits1750, i1753) => ∃ (cs1744 : List Value) (v1751 : Value) (u : Env), e = upds [(0, l_v), (3, (zam (some ⟨b1, 0, none⟩))), (4, (zam (some ⟨b6, 0, none⟩))), (6, (zac .i64 n86)), (7, (zam (some ⟨b133, 0, none⟩))), (8, (zac .i64 i1753))] u ∧ vL w w' [some b1, some b6, some b133, ob113] [zab [s_v, (zaa s.Divisor.Negative), s_v1], zab [(zad none 0 0), (zaa false), (zad none 0 0)], zab [(osv ob113 0 r111.Coefs.length cap114), (zaa negative1749), v1751], zab ([] ++ (cs1744 ++ sp116))] ∧ Keep w.heap.size [some b133, ob113, ob120, some b1, some b6] w138 [some b1, some b6, some b133, ob113] w' ∧ Els rBig (vH w None [some b1, some b6, some b133, ob113] w') cs1744 coefs1745 ∧ r111.Coefs.length = List.length coefs1745 ∧ (cs1744 ++ sp116).length = cap114 * rBig.sz ∧ Rs (rInt .u32) (vH w None [some b1, some b6, some b133, ob113] w') v1751 digits1750 ∧ True) ⟨cs115, (osv ob120 0 r111.Bound.Digits.length cap121), _, (upds_sym ⟨rfl, rfl, rfl, rfl, rfl, rfl, trivial⟩), hL1778, (zaq K1774 K1777), f1779, rfl, hc118, f1780, trivial⟩ ?_
     rintro ⟨coefs1745, negative1749, digits1750, i1753⟩ oo _ w1781 ⟨cs1744, v1751, u, rfl, hL1782, K1783, hE1746, hl1748, hc1747, k1752, -⟩ h hd1770
     rw [rApply_b1] at h
     refine zaj (zaj (zah rfl (zaf (zai (v := (zac .i64 i1753)) rfl ?_))))
     refine zaf (zar (q := 0) zce rfl ti23 rfl rfl rfl ?_)
     refine zaf (zbb (v := s_v) zbx rfl rfl (hL1782.at 0 rfl rfl) rfl ?_)
     have f1784 := ((((((((s_h.mono (K4 S)).mono (K9 S)).mono (K58 S)).mono (K110 S)).mono (K130 S)).mono (K136 S)).mono (K140 S)).mono (K1783 S))
     refine zaf (zbf (v := s_v) zbx rfl f1784 ?_)
     refine zaf (zcr (x := i1753) (y := (s.Uses.length : Int)) ((i1753 : Int) < (s.Uses.length : Int)) rfl rfl zbk ?_)
     refine zap ?_
     refine zbe ((i1753 : Int) < (s.Uses.length : Int)) rfl (fun hc1785 => ?_) (fun hc1785 => ?_)
     ·
      replace h := ite_t hc1785 h
      refine zbg (zaj (zbj (zaj (zah rfl (zaf (zar (q := 0) zce rfl ti23 rfl rfl rfl ?_))))))
      refine zaf (zbb (v := s_v) zbx rfl rfl (hL1782.at 0 rfl rfl) rfl ?_)
      refine zaf (zai (v := (zac .i64 i1753)) rfl ?_)
      obtain ⟨x1786, q1787, h⟩ := bind_some h
      obtain ⟨n1788, q1789, q1790⟩ := idx_some q1787
      obtain ⟨b1791, o1792, c1793, vs1794, q1795, q1796, f1797, q1798⟩ := zcz f1784 q1790
      obtain ⟨v1799, rfl, k1800, -⟩ := rUse_open q1798
      refine zaf (zbv (r := rUse) (v := s_v) (n := n1788) (m := (o1792 + n1788 * rUse.sz)) zbx ti50 rfl q1795 rfl q1789 q1790 rfl ?_)
      refine zaf (zdi (vs := [(zac .i64 x1786.Index), (zaa x1786.N.Negative), v1799]) zch rfl ti50 rfl rfl vw_view f1797 ?_)
      refine zaf (zbw (cs := [(zac .i64 0), (zaa false), (zad none 0 0)]) ti50 rfl hL1782 ?_)
      intro b1801 w1802 hL1803 hS1805
      have K1804 := ks w hS1805
      have f1806 := (k1800.mono (K1804 S))
      refine zcb (zbh (vs := [(zac .i64 x1786.Index), (zaa x1786.N.Negative), v1799]) ti50 rfl rfl rfl rfl (ones_cons rfl (ones_cons rfl (ones_cons f1806.one ones_nil))) hL1803 0 rfl rfl (zae rfl) ?_)
      intro w1807 (hL1808 : vL w w1807 [some b1801, some b1, some b6, some b133, ob113] [zab [(zac .i64 x1786.Index), (zaa x1786.N.Negative), v1799], zab [s_v, (zaa s.Divisor.Negative), s_v1], zab [(zad none 0 0), (zaa false), (zad none 0 0)], zab [(osv ob113 0 r111.Coefs.length cap114), (zaa negative1749), v1751], zab ([] ++ (cs1744 ++ sp116))]) hS1810
      have K1809 := ks w hS1810
      refine zap (zaj (zaj ?_))
      obtain ⟨s1828, h, g1829⟩ := bind_some h
      refine zbr (fun e w' => ∃ (x1827 : Bool) (u : Env), x1827 = s1828 ∧ e = upds [(0, l_v), (3, (zam (some ⟨b1, 0, none⟩))), (4, (zam (some ⟨b6, 0, none⟩))), (6, (zac .i64 n86)), (7, (zam (some ⟨b133, 0, none⟩))), (8, (zac .i64 i1753)), (9, (zam (some ⟨b1801, 0, none⟩))), (63, (zaa x1827))] u ∧ vL w w' [some b1, some b6, some b133, ob113, some b1801] [zab [s_v, (zaa s.Divisor.Negative), s_v1], zab [(zad none 0 0), (zaa false), (zad none 0 0)], zab [(osv ob113 0 r111.Coefs.length cap114), (zaa negative1749), v1751], zab ([] ++ (cs1744 ++ sp116)), zab [(zac .i64 x1786.Index), (zaa x1786.N.Negative), v1799]] ∧ Keep w.heap.size [some b1801, some b1, some b6, some b133, ob113] w1807 [some b1, some b6, some b133, ob113, some b1801] w' ∧ True) ?_ ?_
      ·
       refine zah rfl (zaf (zar (q := 0) zch rfl ti3 rfl rfl rfl ?_))
       refine zaf (zbb (v := (zac .i64 x1786.Index)) zbq rfl rfl (hL1808.at 0 rfl rfl) rfl ?_)
       refine zaf (zcr (x := x1786.Index) (y := 0) ((x1786.Index : Int) < 0) rfl rfl zbk ?_)
       refine zaf (zai (v := (zaa (decide ((x1786.Index : Int) < 0)))) rfl ?_)
       by_cases hc1830 : (x1786.Index : Int) < 0
       ·
        replace h := ite_t hc1830 h
        refine zbt rfl rfl (decide_eq_true hc1830) ?_
        refine zbt rfl rfl (decide_eq_true hc1830) ?_
        refine zbt rfl rfl (decide_eq_true hc1830) ?_
        refine zbt rfl rfl (decide_eq_true hc1830) ?_
        refine zbt rfl rfl (decide_eq_true hc1830) ?_
        refine zaf (zcm (t := (decide ((x1786.Index : Int) < 0))) (v := (zaa true)) rfl (decide_eq_true hc1830) rfl ?_)
        refine zaf (zai (v := (zaa true)) rfl ?_)
        refine zbt rfl rfl rfl ?_
        refine zbt rfl rfl rfl ?_
        refine zbt rfl rfl rfl ?_
        refine zbt rfl rfl rfl ?_
        refine zaf (zcm (t := true) (v := (zaa true)) rfl rfl rfl ?_)
        refine zap ?_
        have hp1831 := hL1808.pick [1, 2, 3, 4, 0] rfl rfl rfl
        have hL1833 : vL w w1807 [some b1, some b6, some b133, ob113, some b1801] [zab [s_v, (zaa s.Divisor.Negative), s_v1], zab [(zad none 0 0), (zaa false), (zad none 0 0)], zab [(osv ob113 0 r111.Coefs.length cap114), (zaa negative1749), v1751], zab ([] ++ (cs1744 ++ sp116)), zab [(zac .i64 x1786.Index), (zaa x1786.N.Negative), v1799]] := hp1831.1
        have K1832 := ks w hp1831.2
        obtain rfl := zag h
        refine zas ?_
        exact ⟨true, _, rfl, (upds_sym ⟨rfl, rfl, rfl, rfl, rfl, rfl, rfl, rfl, trivial⟩), hL1833, K1832, trivial⟩
       ·
        replace h := ite_f hc1830 h
        refine zbu rfl rfl (decide_eq_false hc1830) (zar (q := 0) zch rfl ti3 rfl rfl rfl ?_)
        refine zbu rfl rfl (decide_eq_false hc1830) (zbb (v := (zac .i64 x1786.Index)) zbq rfl rfl (hL1808.at 0 rfl rfl) rfl ?_)
        refine zbu rfl rfl (decide_eq_false hc1830) (zai (v := l_v) rfl ?_)
        have f1834 := (((((((f64.mono (K110 S)).mono (K130 S)).mono (K136 S)).mono (K140 S)).mono (K1783 S)).mono (K1804 S)).mono (K1809 S))
        refine zbu rfl rfl (decide_eq_false hc1830) (zbf (v := l_v) zbm rfl f1834 ?_)
        refine zbu rfl rfl (decide_eq_false hc1830) (OpY.geq (x := x1786.Index) (y := (l.length : Int)) ((x1786.Index : Int) ≥ (l.length : Int)) rfl rfl zbk ?_)
        refine zaf (zbz (t := (decide ((x1786.Index : Int) < 0))) (v := (zaa (decide ((x1786.Index : Int) ≥ (l.length : Int))))) rfl (decide_eq_false hc1830) rfl ?_)
        refine zaf (zai (v := (zaa (decide ((x1786.Index : Int) ≥ (l.length : Int))))) rfl ?_)
        by_cases hc1835 : (x1786.Index : Int) ≥ (l.length : Int)
        ·
         replace h := ite_t hc1835 h
         refine zbt rfl rfl (decide_eq_true hc1835) ?_
         refine zbt rfl rfl (decide_eq_true hc1835) ?_
         refine zbt rfl rfl (decide_eq_true hc1835) ?_
         refine zbt rfl rfl (decide_eq_true hc1835) ?_
         refine zaf (zcm (t := (decide ((x1786.Index : Int) ≥ (l.length : Int)))) (v := (zaa true)) rfl (decide_eq_true hc1835) rfl ?_)
         refine zap ?_
         have hp1836 := hL1808.pick [1, 2, 3, 4, 0] rfl rfl rfl
         have hL1838 : vL w w1807 [some b1, some b6, some b133, ob113, some b1801] [zab [s_v, (zaa s.Divisor.Negative), s_v1], zab [(zad none 0 0), (zaa false), (zad none 0 0)], zab [(osv ob113 0 r111.Coefs.length cap114), (zaa negative1749), v1751], zab ([] ++ (cs1744 ++ sp116)), zab [(zac .i64 x1786.Index), (zaa x1786.N.Negative), v1799]] := hp1836.1
         have K1837 := ks w hp1836.2
         obtain rfl := zag h
         refine zas ?_
         exact ⟨true, _, rfl, (upds_sym ⟨rfl, rfl, rfl, rfl, rfl, rfl, rfl, rfl, trivial⟩), hL1838, K1837, trivial⟩
        ·
         replace h := ite_f hc1835 h
         refine zbu rfl rfl (decide_eq_false hc1835) (zar (q := 1) zch rfl ti26 rfl rfl rfl ?_)
         refine zbu rfl rfl (decide_eq_false hc1835) (zbd (vs := [(zaa x1786.N.Negative), v1799]) zal rfl ti26 rfl (hL1808.at 0 rfl rfl) rfl rfl ?_)
         obtain ⟨r1839, q1840, h⟩ := bind_some h
         have f1842 := (f1806.mono (K1809 S))
         refine zbu rfl rfl (decide_eq_false hc1835) (zaw en40 rfl rfl (rSign_w N x1786.N v1799 _ Any (f1842.mono vw_any) r1839 q1840) ?_)
         rintro _ w1843 hE1846 ⟨rfl, -⟩
         have hL1844 := hL1808.ext hE1846
         have K1845 := ke hL1808 hE1846
         refine zbu rfl rfl (decide_eq_false hc1835) (zcr (x := r1839) (y := 0) ((r1839 : Int) < 0) rfl rfl zbk ?_)
         refine zaf (zbz (t := (decide ((x1786.Index : Int) ≥ (l.length : Int)))) (v := (zaa (decide ((r1839 : Int) < 0)))) rfl (decide_eq_false hc1835) rfl ?_)
         refine zap ?_
         have hp1847 := hL1844.pick [1, 2, 3, 4, 0] rfl rfl rfl
         have hL1849 : vL w w1843 [some b1, some b6, some b133, ob113, some b1801] [zab [s_v, (zaa s.Divisor.Negative), s_v1], zab [(zad none 0 0), (zaa false), (zad none 0 0)], zab [(osv ob113 0 r111.Coefs.length cap114), (zaa negative1749), v1751], zab ([] ++ (cs1744 ++ sp116)), zab [(zac .i64 x1786.Index), (zaa x1786.N.Negative), v1799]] := hp1847.1
         have K1848 := ks w hp1847.2
         obtain rfl := zag h
         refine zas ?_
         exact ⟨(decide ((r1839 : Int) < 0)), _, rfl, (upds_sym ⟨rfl, rfl, rfl, rfl, rfl, rfl, rfl, rfl, trivial⟩), hL1849, (zaq K1845 K1848), trivial⟩
      ·
       rintro _ w1850 ⟨x1827, u, rfl, rfl, hL1851, K1852, -⟩
       replace h := g1829
       try dsimp only at h
       refine zcu x1827 rfl (fun hc1853 => ?_) (fun hc1853 => ?_)
       ·
        replace h := ite_t hc1853 h
        refine zaj (zah rfl (zaf (zcx (zc := [(zad none 0 0), (zaa false), (zad none 0 0)]) (cs := [(zad none 0 0), (zaa false), (zad none 0 0)]) (is := []) (vs := []) (css := []) pl34 ti34 rfl rfl rfl trivial rfl ?_)))
        refine zcb (zbh (vs := [(zad none 0 0), (zaa false), (zad none 0 0)]) ti34 rfl rfl rfl rfl (ones_cons rfl (ones_cons rfl (ones_cons rfl ones_nil))) hL1851 1 rfl rfl (zae rfl) ?_)
        intro w1854 (hL1855 : vL w w1854 [some b1, some b6, some b133, ob113, some b1801] [zab [s_v, (zaa s.Divisor.Negative), s_v1], zab [(zad none 0 0), (zaa false), (zad none 0 0)], zab [(osv ob113 0 r111.Coefs.length cap114), (zaa negative1749), v1751], zab ([] ++ (cs1744 ++ sp116)), zab [(zac .i64 x1786.Index), (zaa x1786.N.Negative), v1799]]) hS1857
        refine zaf (zak (v := (zaa false)) rfl ?_)
        refine zap (zbl ?_)
        obtain rfl := zag h
        obtain rfl := hd1770 _ rfl
        replace h := g1768
        try dsimp only at h
        obtain rfl := zag h
        refine ⟨[(zan #[(zad none 0 0), (zaa false), (zad none 0 0)]), (zaa false)], ⟨⟨⟨b6, 0, none⟩, rfl, res_boxA zba rfl ti34 (hL1855.at 1 rfl rfl) rfl⟩, ⟨rfl, trivial⟩⟩, ⟨_, rfl, hL1855.done, ?_⟩⟩
        exact ⟨(zad none 0 0), (zad none 0 0), rfl, zdj, zdj, trivial⟩
       ·
        replace h := ite_f hc1853 h
        refine zbg (zaj (zah rfl (zaf (zai (v := l_v) rfl ?_))))
        refine zaf (zar (q := 0) zch rfl ti3 rfl rfl rfl ?_)
        refine zaf (zbb (v := (zac .i64 x1786.Index)) zbq rfl rfl (hL1851.at 4 rfl rfl) rfl ?_)
        obtain ⟨x1858, q1859, h⟩ := bind_some h
        obtain ⟨n1860, q1861, q1862⟩ := idx_some q1859
        have f1875 := ((((((((f64.mono (K110 S)).mono (K130 S)).mono (K136 S)).mono (K140 S)).mono (K1783 S)).mono (K1804 S)).mono (K1809 S)).mono (K1852 S))
        obtain ⟨b1863, o1864, c1865, vs1866, q1867, q1868, f1869, q1870⟩ := zcz f1875 q1862
        obtain ⟨v1871, v1873, rfl, k1872, k1874, -⟩ := rIneq_open q1870
        refine zaf (zbv (r := rIneq) (v := l_v) (n := n1860) (m := (o1864 + n1860 * rIneq.sz)) zbm ti34 rfl q1867 rfl q1861 q1862 rfl ?_)
        refine zaf (zdi (vs := [v1871, (zaa x1858.Bound.Negative), v1873]) zba rfl ti34 rfl rfl vw_view f1869 ?_)
        refine zaf (zbw (cs := [(zad none 0 0), (zaa false), (zad none 0 0)]) ti34 rfl hL1851 ?_)
        intro b1876 w1877 hL1878 hS1880
        have K1879 := ks w hS1880
        have f1881 := (k1874.mono (K1879 S))
        have f1882 := (k1872.mono (K1879 S))
        refine zcb (zbh (vs := [v1871, (zaa x1858.Bound.Negative), v1873]) ti34 rfl rfl rfl rfl (ones_cons f1882.one (ones_cons rfl (ones_cons f1881.one ones_nil))) hL1878 0 rfl rfl (zae rfl) ?_)
        intro w1883 (hL1884 : vL w w1883 [some b1876, some b1, some b6, some b133, ob113, some b1801] [zab [v1871, (zaa x1858.Bound.Negative), v1873], zab [s_v, (zaa s.Divisor.Negative), s_v1], zab [(zad none 0 0), (zaa false), (zad none 0 0)], zab [(osv ob113 0 r111.Coefs.length cap114), (zaa negative1749), v1751], zab ([] ++ (cs1744 ++ sp116)), zab [(zac .i64 x1786.Index), (zaa x1786.N.Negative), v1799]]) hS1886
        have K1885 := ks w hS1886
        refine zap (zaj (zaj (zah rfl (zaf (zak (v := (zac .i64 0)) rfl ?_)))))
        refine zap ?_
        obtain ⟨s2297, hl2299, g2298⟩ := bind_some h
        refine zbr (fun e w' => ∃ (coefs2291 : (List Big)) (cs2290 : List Value) (u : Env), coefs2291 = s2297 ∧ e = upds [(0, l_v), (3, (zam (some ⟨b1, 0, none⟩))), (4, (zam (some ⟨b6, 0, none⟩))), (6, (zac .i64 n86)), (7, (zam (some ⟨b133, 0, none⟩))), (8, (zac .i64 i1753)), (9, (zam (some ⟨b1801, 0, none⟩))), (10, (zam (some ⟨b1876, 0, none⟩)))] u ∧ vL w w' [some b1, some b6, some b133, ob113, some b1801, some b1876] [zab [s_v, (zaa s.Divisor.Negative), s_v1], zab [(zad none 0 0), (zaa false), (zad none 0 0)], zab [(osv ob113 0 r111.Coefs.length cap114), (zaa negative1749), v1751], zab ([] ++ (cs2290 ++ sp116)), zab [(zac .i64 x1786.Index), (zaa x1786.N.Negative), v1799], zab [v1871, (zaa x1858.Bound.Negative), v1873]] ∧ Keep w.heap.size [some b1876, some b1, some b6, some b133, ob113, some b1801] w1883 [some b1, some b6, some b133, ob113, some b1801, some b1876] w' ∧ Els rBig (vH w None [some b1, some b6, some b133, ob113, some b1801, some b1876] w') cs2290 coefs2291 ∧ r111.Coefs.length = List.length coefs2291 ∧ (cs2290 ++ sp116).length = cap114 * rBig.sz ∧ True) ?_ ?_
        ·
         refine zbj ?_
         have hp2301 := hL1884.pick [1, 2, 3, 4, 5, 0] rfl rfl rfl
         have hL2303 : vL w w1883 [some b1, some b6, some b133, ob113, some b1801, some b1876] [zab [s_v, (zaa s.Divisor.Negative), s_v1], zab [(zad none 0 0), (zaa false), (zad none 0 0)], zab [(osv ob113 0 r111.Coefs.length cap114), (zaa negative1749), v1751], zab ([] ++ (cs1744 ++ sp116)), zab [(zac .i64 x1786.Index), (zaa x1786.N.Negative), v1799], zab [v1871, (zaa x1858.Bound.Negative), v1873]] := hp2301.1
         have K2302 := ks w hp2301.2
         have f2304 := ((((((hE1746.mono (K1804 None)).mono (K1809 None)).mono (K1852 None)).mono (K1879 None)).mono (K1885 None)).mono (K2302 None))
         refine zcg hl2299 (fun (ss : ((List Big) × Int)) (e : Env) (w' : World) => match ss with | (coefs2279, k2285) => ∃ (cs2278 : List Value) (u : Env), e = upds [(0, l_v), (3, (zam (some ⟨b1, 0, none⟩))), (4, (zam (some ⟨b6, 0, none⟩))), (6, (zac .i64 n86)), (7, (zam (some ⟨b133, 0, none⟩))), (8, (zac .i64 i1753)), (9, (zam (some ⟨b1801, 0, none⟩))), (10, (zam (some ⟨b1876, 0, none⟩))), (11, (zac .i64 k2285))] u ∧ vL w w' [some b1, some b6, some b133, ob113, some b1801, some b1876] [zab [s_v, (zaa s.Divisor.Negative), s_v1], zab [(zad none 0 0), (zaa false), (zad none 0 0)], zab [(osv ob113 0 r111.Coefs.length cap114), (zaa negative1749), v1751], zab ([] ++ (cs2278 ++ sp116)), zab [(zac .i64 x1786.Index), (zaa x1786.N.Negative), v1799], zab [v1871, (zaa x1858.Bound.Negative), v1873]] ∧ Keep w.heap.size [some b1876, some b1, some b6, some b133, ob113, some b1801] w1883 [some b1, some b6, some b133, ob113, some b1801, some b1876] w' ∧ Els rBig (vH w None [some b1, some b6, some b133, ob113, some b1801, some b1876] w') cs2278 coefs2279 ∧ r111.Coefs.length = List.length coefs2279 ∧ (cs2278 ++ sp116).length = cap114 * rBig.sz ∧ True) ⟨cs1744, _, (upds_sym ⟨rfl, rfl, rfl, rfl, rfl, rfl, rfl, rfl, rfl, trivial⟩), hL2303, K2302, f2304, hl1748, hc1747, trivial⟩ ?_
         rintro ⟨coefs2279, k2285⟩ oo _ w2305 ⟨cs2278, u, rfl, hL2306, K2307, hE2280, hl2282, hc2281, -⟩ h hd2300
         rw [rApply_b2] at h
         refine zaj (zaj (zah rfl (zaf (zai (v := (zac .i64 k2285)) rfl ?_))))
         refine zaf (zai (v := (zac .i64 n86)) rfl ?_)
         refine zaf (zcr (x := k2285) (y := n86) ((k2285 : Int) < n86) rfl rfl zbk ?_)
         refine zap ?_
         refine zbe ((k2285 : Int) < n86) rfl (fun hc2308 => ?_) (fun hc2308 => ?_)
         ·
          replace h := ite_t hc2308 h
          refine zbg (zaj (zbj ?_))
          obtain ⟨x2309, q2310, h⟩ := bind_some h
          obtain ⟨n2311, q2312, q2313⟩ := idx_some q2310
          have q2314 := (List.getElem?_eq_some_iff.1 q2313).1
          obtain ⟨b2315, hb2316⟩ := hL2306.row_some 3 rfl rfl (row_pos (pre := []) hE2280 q2313 (Nat.lt_of_sub_eq_succ rfl))
          obtain ⟨vs2319, q2320, q2321, q2322⟩ := row_elem (pre := []) (sp := sp116) hE2280 q2313
          obtain ⟨v2317, rfl, k2318, -⟩ := rBig_open q2321
          obtain ⟨x2323, q2324, h⟩ := bind_some h
          obtain ⟨n2325, q2326, q2327⟩ := idx_some q2324
          have f2338 := ((f1882.mono (K1885 S)).mono (K2307 S))
          obtain ⟨b2328, o2329, c2330, vs2331, q2332, q2333, f2334, q2335⟩ := zcz f2338 q2327
          obtain ⟨v2336, rfl, k2337, -⟩ := rBig_open q2335
          obtain ⟨r2339, q2340, h⟩ := bind_some h
          obtain ⟨r2344, q2345, h⟩ := bind_some h
          refine zcc 17 [] [] (fun W1 => [.det (zam (some ⟨b133, 0, none⟩)), .det (osv ob113 0 r111.Coefs.length cap114), .det (zac .i64 k2285), .det (zam (some ⟨b133, 0, none⟩)), .det (osv ob113 0 r111.Coefs.length cap114), .det (zac .i64 k2285), .det (zam (some ⟨b2315, (0 + n2311 * rBig.sz), none⟩)), .det (zan #[(zaa x2309.Negative), v2317]), .det (zam (some ⟨b1876, 0, none⟩)), .det v1871, .det (zac .i64 k2285), .det (zam (some ⟨b2328, (o2329 + n2325 * rBig.sz), none⟩)), .det (zan #[(zaa x2323.Negative), v2336]), .det (zam (some ⟨b1801, 1, none⟩)), .det (zan #[(zaa x1786.N.Negative), v1799]), .rel (fun v Z w' => ∃ v2341, (zan #[(zaa r2339.Negative), v2341]) = v ∧ Rs (rInt .u32) (vZ W1 w None [some b1, some b6, some b133, ob113, some b1801, some b1876] Z w') v2341 r2339.Digits ∧ True) (fun _ => []), .rel (fun v Z w' => ∃ v2346, (zan #[(zaa r2344.Negative), v2346]) = v ∧ Rs (rInt .u32) (vZ W1 w None [some b1, some b6, some b133, ob113, some b1801, some b1876] Z w') v2346 r2344.Digits ∧ True) (fun _ => [])]) mixed rfl rfl rfl (fun _ => rfl) (fun _ => rfl) ?_ ?_
          ·
           intro W1 _
           exact ⟨fun v Z Z' w w' hΦ hz _ _ hs => by obtain ⟨v2341, rfl, k2342, -⟩ := hΦ; exact ⟨v2341, rfl, (k2342.mono (zcl hz hs)), trivial⟩, ⟨fun v Z Z' w w' hΦ hz _ _ hs => by obtain ⟨v2346, rfl, k2347, -⟩ := hΦ; exact ⟨v2346, rfl, (k2347.mono (zcl hz hs)), trivial⟩, trivial⟩⟩
          ·
           intro w2349 hE2350
           have hL2351 := hL2306.ext hE2350
           have K2352 := ke hL2306 hE2350
           refine zau (fun _ _ => zat (zar zba rfl ti32 rfl rfl rfl (er rfl))) ?_
           refine zau (fun _ hE2361 => zat (zbb zax rfl rfl ((hL2351.ext hE2361).at 2 rfl rfl) rfl (er rfl))) ?_
           refine zau (fun _ _ => zat (zai rfl (er rfl))) ?_
           refine zau (fun _ _ => zat (zar zba rfl ti32 rfl rfl rfl (er rfl))) ?_
           refine zau (fun _ hE2379 => zat (zbb zax rfl rfl ((hL2351.ext hE2379).at 2 rfl rfl) rfl (er rfl))) ?_
           refine zau (fun _ _ => zat (zai rfl (er rfl))) ?_
           refine zau (fun _ _ => zat (zci (r := rBig) (b := b2315) (o := 0) (n := n2311) (m := r111.Coefs.length) (xs := coefs2279) (q := (0 + n2311 * rBig.sz)) zax ti26 (osv_some hb2316) hl2282 rfl q2312 q2314 rfl (er rfl))) ?_
           refine zau (fun _ hE2397 => zat (zbd (vs := [(zaa x2309.Negative), v2317]) zal rfl ti26 rfl (own_some hb2316 ((hL2351.ext hE2397).at 3 rfl rfl)) rfl q2322 (er rfl))) ?_
           refine zau (fun _ _ => zat (zar zba rfl ti32 rfl rfl rfl (er rfl))) ?_
           refine zau (fun _ hE2409 => zat (zbb zax rfl rfl ((hL2351.ext hE2409).at 5 rfl rfl) rfl (er rfl))) ?_
           refine zau (fun _ _ => zat (zai rfl (er rfl))) ?_
           refine zau (fun _ _ => zat (zbv (r := rBig) (v := v1871) (n := n2325) (m := (o2329 + n2325 * rBig.sz)) zax ti26 rfl q2332 rfl q2326 q2327 rfl (er rfl))) ?_
           refine zau (fun _ hE2427 => zat (zdi (vs := [(zaa x2323.Negative), v2336]) zal rfl ti26 rfl rfl vw_view (zcw ((ke hL2351 hE2427) S) (zcw (K2352 S) f2334)) (er rfl))) ?_
           refine zau (fun _ _ => zat (zar zch rfl ti26 rfl rfl rfl (er rfl))) ?_
           refine zau (fun _ hE2439 => zat (zbd (vs := [(zaa x1786.N.Negative), v1799]) zal rfl ti26 rfl ((hL2351.ext hE2439).at 4 rfl rfl) rfl rfl (er rfl))) ?_
           refine zcq ?_ ?_
           ·
            rintro w2443 Z2444 hE2445 hZ2446 ⟨-⟩
            have K2448 := ke hL2351 hE2445
            refine zat (zaw en39 rfl rfl (rMul_w N x2323 x1786.N v2336 v1799 _ Any (((k2337.mono (K2352 S)).mono (K2448 S)).mono vw_any) ((((((((f1806.mono (K1809 S)).mono (K1852 S)).mono (K1879 S)).mono (K1885 S)).mono (K2307 S)).mono (K2352 S)).mono (K2448 S)).mono vw_any) r2339 q2340) ?_)
            rintro _ w2449 hE2450 ⟨v2341, rfl, k2342, -⟩
            exact zcj hE2450 hZ2446 zca (fun _ h => h) ⟨v2341, rfl, (k2342.mono zda), trivial⟩
           intro z15
           refine zcq ?_ ?_
           ·
            rintro w2451 Z2452 hE2453 hZ2454 ⟨⟨⟨v2341, rfl, k2342, -⟩, hB15⟩, -⟩
            have K2456 := ke hL2351 hE2453
            refine zat (zaw en38 rfl rfl (rAdd_w N x2309 r2339 v2317 v2341 _ Any (((k2318.mono (K2352 None)).mono (K2456 None)).mono vw_any) (k2342.mono vw_any) r2344 q2345) ?_)
            rintro _ w2457 hE2458 ⟨v2346, rfl, k2347, -⟩
            exact zcj hE2458 hZ2454 zca (fun _ h => h) ⟨v2346, rfl, (k2347.mono zda), trivial⟩
           intro z16
           refine zcn ?_
           rintro w2459 Z2460 hE2461 hZ2462 ⟨⟨⟨v2346, rfl, k2347, -⟩, hB16⟩, ⟨⟨v2341, rfl, k2342, -⟩, hB15⟩, -⟩ ap2463
           have hB2464 : ∀ b, some b ∈ ([] : List (Option Nat)) → w2349.heap.size ≤ b ∧ ¬ Z2460 b := by
            intro b hb; cases hb
           replace k2347 := k2347.mono (zcy hL2351 hZ2462 hB2464)
           replace k2342 := k2342.mono (zcy hL2351 hZ2462 hB2464)
           have hL2465 := hL2351.ext hE2461
           have K2466 := ke hL2351 hE2461
           obtain ⟨x2467, q2468, h⟩ := bind_some h
           obtain ⟨n2469, q2470, q2471⟩ := idx_some q2468
           have q2472 := (List.getElem?_eq_some_iff.1 q2471).1
           refine zaf (zci (r := rBig) (b := b2315) (o := 0) (n := n2469) (m := r111.Coefs.length) (xs := coefs2279) (q := (0 + n2469 * rBig.sz)) zax ti26 (osv_some hb2316) hl2282 rfl q2470 q2472 rfl ?_)
           obtain ⟨x2473, q2474, h⟩ := bind_some h
           obtain ⟨n2475, q2476, q2477, q2478⟩ := upd1_some q2474
           obtain rfl := Int.ofNat_inj.1 (q2470.symm.trans q2476)
           have f2479 := ((hE2280.mono (K2352 None)).mono (K2466 None))
           refine zcb (zdh (pre := []) (r := rBig) (vs := [(zaa r2344.Negative), v2346]) (a := r2344) ti26 rfl rfl rfl (rBig_close ⟨v2346, rfl, k2347, trivial⟩) hL2465 3 (congrArg some hb2316) rfl f2479 q2472 rfl q2478 ?_)
           have hl2487 : r111.Coefs.length = List.length x2473 := by rw [q2478, List.length_set]; exact hl2282
           intro w2480 cs2484 (hL2481 : vL w w2480 [some b1, some b6, some b133, ob113, some b1801, some b1876] [zab [s_v, (zaa s.Divisor.Negative), s_v1], zab [(zad none 0 0), (zaa false), (zad none 0 0)], zab [(osv ob113 0 r111.Coefs.length cap114), (zaa negative1749), v1751], zab ([] ++ (cs2484 ++ sp116)), zab [(zac .i64 x1786.Index), (zaa x1786.N.Negative), v1799], zab [v1871, (zaa x1858.Bound.Negative), v1873]]) hS2483 hE2485 q2486
           have hc2488 : (cs2484 ++ sp116).length = cap114 * rBig.sz := by have := hc2281; rw [List.length_append] at this ⊢; rw [q2486]; exact this
           have K2482 := ks w hS2483
           refine zap (zbs (zah rfl (zaf (zai (v := (zac .i64 k2285)) rfl ?_))))
           refine zaf (zcd (x := k2285) (y := 1) (z := (iw (k2285 + 1))) rfl rfl rfl ?_)
           refine zaf (zak (v := (zac .i64 (iw (k2285 + 1)))) rfl ?_)
           refine zap ?_
           have f2489 := (hE2485.mono (K2482 None))
           obtain rfl := zag h
           refine zas ⟨(x2473, (iw (k2285 + 1))), rfl, ?_⟩
           exact ⟨cs2484, _, (upds_sym ⟨rfl, rfl, rfl, rfl, rfl, rfl, rfl, rfl, rfl, trivial⟩), hL2481, (zaq (zaq (zaq K2307 K2352) K2466) K2482), f2489, hl2487, hc2488, trivial⟩
         ·
          replace h := ite_f hc2308 h
          refine zcs rfl ?_
          obtain rfl := zag h
          obtain rfl := hd2300 _ rfl
          replace h := g2298
          try dsimp only at h
          skip
          refine zas ?_
          exact ⟨coefs2279, cs2278, _, rfl, (upds_sym ⟨rfl, rfl, rfl, rfl, rfl, rfl, rfl, rfl, trivial⟩), hL2306, K2307, hE2280, hl2282, hc2281, trivial⟩
        ·
         rintro _ w2490 ⟨coefs2291, cs2290, u, rfl, rfl, hL2491, K2492, hE2292, hl2294, hc2293, -⟩
         replace h := g2298
         try dsimp only at h
         obtain ⟨r2493, q2494, h⟩ := bind_some h
         refine zcc 7 [] [] (fun W1 => [.det (zam (some ⟨b133, 1, none⟩)), .det (zan #[(zaa negative1749), v1751]), .det (zam (some ⟨b1876, 1, none⟩)), .det (zan #[(zaa x1858.Bound.Negative), v1873]), .det (zam (some ⟨b1801, 1, none⟩)), .det (zan #[(zaa x1786.N.Negative), v1799]), .rel (fun v Z w' => ∃ v2495, (zan #[(zaa r2493.Negative), v2495]) = v ∧ Rs (rInt .u32) (vZ W1 w None [some b1, some b6, some b133, ob113, some b1801, some b1876] Z w') v2495 r2493.Digits ∧ True) (fun _ => [])]) mixed rfl rfl rfl (fun _ => rfl) (fun _ => rfl) ?_ ?_
         ·
          intro W1 _
          exact ⟨fun v Z Z' w w' hΦ hz _ _ hs => by obtain ⟨v2495, rfl, k2496, -⟩ := hΦ; exact ⟨v2495, rfl, (k2496.mono (zcl hz hs)), trivial⟩, trivial⟩
         ·
          intro w2498 hE2499
          have hL2500 := hL2491.ext hE2499
          have K2501 := ke hL2491 hE2499
          refine zau (fun _ _ => zat (zar zba rfl ti26 rfl rfl rfl (er rfl))) ?_
          refine zau (fun _ hE2510 => zat (zbd (vs := [(zaa negative1749), v1751]) zal rfl ti26 rfl ((hL2500.ext hE2510).at 2 rfl rfl) rfl rfl (er rfl))) ?_
          refine zau (fun _ _ => zat (zar zba rfl ti26 rfl rfl rfl (er rfl))) ?_
          refine zau (fun _ hE2522 => zat (zbd (vs := [(zaa x1858.Bound.Negative), v1873]) zal rfl ti26 rfl ((hL2500.ext hE2522).at 5 rfl rfl) rfl rfl (er rfl))) ?_
          refine zau (fun _ _ => zat (zar zch rfl ti26 rfl rfl rfl (er rfl))) ?_
          refine zau (fun _ hE2534 => zat (zbd (vs := [(zaa x1786.N.Negative), v1799]) zal rfl ti26 rfl ((hL2500.ext hE2534).at 4 rfl rfl) rfl rfl (er rfl))) ?_
          refine zcq ?_ ?_
          ·
           rintro w2538 Z2539 hE2540 hZ2541 ⟨-⟩
           have K2543 := ke hL2500 hE2540
           refine zat (zaw en39 rfl rfl (rMul_w N x1858.Bound x1786.N v1873 v1799 _ Any (((((f1881.mono (K1885 S)).mono (K2492 S)).mono (K2501 S)).mono (K2543 S)).mono vw_any) ((((((((f1806.mono (K1809 S)).mono (K1852 S)).mono (K1879 S)).mono (K1885 S)).mono (K2492 S)).mono (K2501 S)).mono (K2543 S)).mono vw_any) r2493 q2494) ?_)
           rintro _ w2544 hE2545 ⟨v2495, rfl, k2496, -⟩
           exact zcj hE2545 hZ2541 zca (fun _ h => h) ⟨v2495, rfl, (k2496.mono zda), trivial⟩
          intro z6
          refine zcn ?_
          rintro w2546 Z2547 hE2548 hZ2549 ⟨⟨⟨v2495, rfl, k2496, -⟩, hB6⟩, -⟩ ap2550
          have hB2551 : ∀ b, some b ∈ ([] : List (Option Nat)) → w2498.heap.size ≤ b ∧ ¬ Z2547 b := by
           intro b hb; cases hb
          replace k2496 := k2496.mono (zcy hL2500 hZ2549 hB2551)
          have hL2552 := hL2500.ext hE2548
          have K2553 := ke hL2500 hE2548
          obtain ⟨r2554, q2555, h⟩ := bind_some h
          have f2559 := ((((((((k1752.mono (K1804 None)).mono (K1809 None)).mono (K1852 None)).mono (K1879 None)).mono (K1885 None)).mono (K2492 None)).mono (K2501 None)).mono (K2553 None))
          refine zaf (zaw en38 rfl rfl (rAdd_w N (Big.mk negative1749 digits1750) r2493 v1751 v2495 _ Any (f2559.mono vw_any) (k2496.mono vw_any) r2554 q2555) ?_)
          rintro _ w2560 hE2563 ⟨v2556, rfl, k2557, -⟩
          replace k2557 := k2557.mono (zbc (S := None) hL2552 [])
          have hL2561 := hL2552.ext hE2563
          have K2562 := ke hL2552 hE2563
          refine zaf (zar (q := 1) zba rfl ti26 rfl rfl rfl ?_)
          refine zcb (zbh (vs := [(zaa r2554.Negative), v2556]) ti26 rfl rfl rfl rfl (ones_cons rfl (ones_cons k2557.one ones_nil)) hL2561 2 rfl rfl (zae rfl) ?_)
          intro w2564 (hL2565 : vL w w2564 [some b1, some b6, some b133, ob113, some b1801, some b1876] [zab [s_v, (zaa s.Divisor.Negative), s_v1], zab [(zad none 0 0), (zaa false), (zad none 0 0)], zab [(osv ob113 0 r111.Coefs.length cap114), (zaa r2554.Negative), v2556], zab ([] ++ (cs2290 ++ sp116)), zab [(zac .i64 x1786.Index), (zaa x1786.N.Negative), v1799], zab [v1871, (zaa x1858.Bound.Negative), v1873]]) hS2567
          have K2566 := ks w hS2567
          refine zap (zbs (zah rfl (zaf (zai (v := (zac .i64 i1753)) rfl ?_))))
          refine zaf (zcd (x := i1753) (y := 1) (z := (iw (i1753 + 1))) rfl rfl rfl ?_)
          refine zaf (zak (v := (zac .i64 (iw (i1753 + 1)))) rfl ?_)
          refine zap ?_
          have hp2568 := hL2565.pick [0, 1, 2, 3] rfl rfl rfl
          have hL2570 : vL w w2564 [some b1, some b6, some b133, ob113] [zab [s_v, (zaa s.Divisor.Negative), s_v1], zab [(zad none 0 0), (zaa false), (zad none 0 0)], zab [(osv ob113 0 r111.Coefs.length cap114), (zaa r2554.Negative), v2556], zab ([] ++ (cs2290 ++ sp116))] := hp2568.1
          have K2569 := ks w hp2568.2
          have f2571 := (((((hE2292.mono (K2501 None)).mono (K2553 None)).mono (K2562 None)).mono (K2566 None)).mono (K2569 None))
          have f2572 := ((k2557.mono (K2566 None)).mono (K2569 None))
          obtain rfl := zag h
          refine zas ⟨(coefs2291, r2554.Negative, r2554.Digits, (iw (i1753 + 1))), rfl, ?_⟩
          exact ⟨cs2290, v2556, _, (upds_sym ⟨rfl, rfl, rfl, rfl, rfl, rfl, trivial⟩), hL2570, (zaq (zaq (zaq (zaq (zaq (zaq (zaq (zaq (zaq (zaq (zaq K1783 K1804) K1809) K1852) K1879) K1885) K2492) K2501) K2553) K2562) K2566) K2569), f2571, hl2294, hc2293, f2572, trivial⟩
     ·
      replace h := ite_f hc1785 h
      refine zcs rfl ?_
      obtain rfl := zag h
      obtain rfl := hd1770 _ rfl
      replace h := g1768
      try dsimp only at h
      skip
      refine zas ?_
      exact ⟨coefs1745, negative1749, digits1750, cs1744, v1751, _, rfl, (upds_sym ⟨rfl, rfl, rfl, rfl, trivial⟩), hL1782, K1783, hE1746, hl1748, hc1747, k1752, trivial⟩
    ·
     rintro _ w2573 ⟨coefs1759, negative1763, digits1764, cs1758, v1765, u, rfl, rfl, hL2574, K2575, hE1760, hl1762, hc1761, k1766, -⟩
     replace h := g1768
     try dsimp only at h
     refine zaj (zaj (zah rfl (zaf (zak (v := (zac .i64 0)) rfl ?_))))
     refine zap ?_
     obtain ⟨s2982, hl2984, g2983⟩ := bind_some h
     refine zbr (fun e w' => ∃ (coefs2978 : (List Big)) (cs2977 : List Value) (u : Env), (Sum.inl coefs2978) = s2982 ∧ e = upds [(3, (zam (some ⟨b1, 0, none⟩))), (4, (zam (some ⟨b6, 0, none⟩))), (7, (zam (some ⟨b133, 0, none⟩)))] u ∧ vL w w' [some b1, some b6, some b133, ob113] [zab [s_v, (zaa s.Divisor.Negative), s_v1], zab [(zad none 0 0), (zaa false), (zad none 0 0)], zab [(osv ob113 0 r111.Coefs.length cap114), (zaa negative1763), v1765], zab ([] ++ (cs2977 ++ sp116))] ∧ Keep w.heap.size [some b1, some b6, some b133, ob113] w2573 [some b1, some b6, some b133, ob113] w' ∧ Els rBig (vH w None [some b1, some b6, some b133, ob113] w') cs2977 coefs2978 ∧ r111.Coefs.length = List.length coefs2978 ∧ (cs2977 ++ sp116).length = cap114 * rBig.sz ∧ True) ?_ ?_
     ·
      refine zbj ?_
      refine zcg hl2984 (fun (ss : ((List Big) × Int)) (e : Env) (w' : World) => match ss with | (coefs2968, k2972) => ∃ (cs2967 : List Value) (u : Env), e = upds [(3, (zam (some ⟨b1, 0, none⟩))), (4, (zam (some ⟨b6, 0, none⟩))), (6, (zac .i64 n86)), (7, (zam (some ⟨b133, 0, none⟩))), (12, (zac .i64 k2972))] u ∧ vL w w' [some b1, some b6, some b133, ob113] [zab [s_v, (zaa s.Divisor.Negative), s_v1], zab [(zad none 0 0), (zaa false), (zad none 0 0)], zab [(osv ob113 0 r111.Coefs.length cap114), (zaa negative1763), v1765], zab ([] ++ (cs2967 ++ sp116))] ∧ Keep w.heap.size [some b1, some b6, some b133, ob113] w2573 [some b1, some b6, some b133, ob113] w' ∧ Els rBig (vH w None [some b1, some b6, some b133, ob113] w') cs2967 coefs2968 ∧ r111.Coefs.length = List.length coefs2968 ∧ (cs2967 ++ sp116).length = cap114 * rBig.sz ∧ True) ⟨cs1758, _, (upds_sym ⟨rfl, rfl, rfl, rfl, rfl, trivial⟩), hL2574, zbo, hE1760, hl1762, hc1761, trivial⟩ ?_
      rintro ⟨coefs2968, k2972⟩ oo _ w2986 ⟨cs2967, u, rfl, hL2987, K2988, hE2969, hl2971, hc2970, -⟩ h hd2985
      rw [rApply_b3] at h
      refine zaj (zaj (zah rfl (zaf (zai (v := (zac .i64 k2972)) rfl ?_))))
      refine zaf (zai (v := (zac .i64 n86)) rfl ?_)
      refine zaf (zcr (x := k2972) (y := n86) ((k2972 : Int) < n86) rfl rfl zbk ?_)
      refine zap ?_
      refine zbe ((k2972 : Int) < n86) rfl (fun hc2989 => ?_) (fun hc2989 => ?_)
      ·
       replace h := ite_t hc2989 h
       refine zbg (zaj (zbj (zaj ?_)))
       obtain ⟨x2990, q2991, h⟩ := bind_some h
       obtain ⟨n2992, q2993, q2994⟩ := idx_some q2991
       have q2995 := (List.getElem?_eq_some_iff.1 q2994).1
       obtain ⟨b2996, hb2997⟩ := hL2987.row_some 3 rfl rfl (row_pos (pre := []) hE2969 q2994 (Nat.lt_of_sub_eq_succ rfl))
       obtain ⟨vs3000, q3001, q3002, q3003⟩ := row_elem (pre := []) (sp := sp116) hE2969 q2994
       obtain ⟨v2998, rfl, k2999, -⟩ := rBig_open q3002
       obtain ⟨r3004, q3005, h⟩ := bind_some h
       refine zcc 14 [] [10, 11] (fun W1 => [.det (zam (some ⟨b133, 0, none⟩)), .det (osv ob113 0 r111.Coefs.length cap114), .det (zac .i64 k2972), .det (zam (some ⟨b2996, (0 + n2992 * rBig.sz), none⟩)), .det (zan #[(zaa x2990.Negative), v2998]), .det (zam (some ⟨b1, 1, none⟩)), .det (zan #[(zaa s.Divisor.Negative), s_v1]), .rel (fun v Z w' => ∃ v3006 v3008, (Value.tuple #[(zan #[(zaa r3004.1.Negative), v3006]), (zan #[(zaa r3004.2.1.Negative), v3008]), (zaa r3004.2.2)]) = v ∧ Rs (rInt .u32) (vZ W1 w None [some b1, some b6, some b133, ob113] Z w') v3006 r3004.1.Digits ∧ Rs (rInt .u32) (vZ W1 w None [some b1, some b6, some b133, ob113] Z w') v3008 r3004.2.1.Digits ∧ True) (fun _ => []), .rel (fun v Z w' => ∃ v3011 v3013, (Value.tuple #[(zan #[(zaa r3004.1.Negative), v3011]), (zan #[(zaa r3004.2.1.Negative), v3013]), (zaa r3004.2.2)]) = v ∧ Rs (rInt .u32) (vZ W1 w None [some b1, some b6, some b133, ob113] Z w') v3011 r3004.1.Digits ∧ Rs (rInt .u32) (vZ W1 w None [some b1, some b6, some b133, ob113] Z w') v3013 r3004.2.1.Digits ∧ True) (fun _ => []), .fn 8 (tg 0), .fn 8 (tg 1), .fn 8 (tg 2), .rel (fun v Z w' => ∃ b3015, (zam (some ⟨b3015, 0, none⟩)) = v ∧ OwnC w' (some b3015) (zab [(zaa false), (zad none 0 0)]) ∧ True) footV, .rel (fun v Z w' => ∃ b3017, (zam (some ⟨b3017, 0, none⟩)) = v ∧ OwnC w' (some b3017) (zab [(zaa false), (zad none 0 0)]) ∧ True) footV]) mixed rfl rfl rfl (fun _ => rfl) (fun _ => rfl) ?_ ?_
       ·
        intro W1 _
        exact ⟨fun v Z Z' w w' hΦ hz _ _ hs => by obtain ⟨v3006, v3008, rfl, k3007, k3009, -⟩ := hΦ; exact ⟨v3006, v3008, rfl, (k3007.mono (zcl hz hs)), (k3009.mono (zcl hz hs)), trivial⟩, ⟨fun v Z Z' w w' hΦ hz _ _ hs => by obtain ⟨v3011, v3013, rfl, k3012, k3014, -⟩ := hΦ; exact ⟨v3011, v3013, rfl, (k3012.mono (zcl hz hs)), (k3014.mono (zcl hz hs)), trivial⟩, ⟨fun v Z Z' w w' hΦ hz _ _ hs => by obtain ⟨b3015, rfl, hO3016, -⟩ := hΦ; exact ⟨b3015, rfl, (hO3016.stay (fun b hb => by cases hb; exact zay) hs), trivial⟩, ⟨fun v Z Z' w w' hΦ hz _ _ hs => by obtain ⟨b3017, rfl, hO3018, -⟩ := hΦ; exact ⟨b3017, rfl, (hO3018.stay (fun b hb => by cases hb; exact zay) hs), trivial⟩, trivial⟩⟩⟩⟩
       ·
        intro w3019 hE3020
        have hL3021 := hL2987.ext hE3020
        have K3022 := ke hL2987 hE3020
        refine zau (fun _ _ => zat (zar zba rfl ti32 rfl rfl rfl (er rfl))) ?_
        refine zau (fun _ hE3031 => zat (zbb zax rfl rfl ((hL3021.ext hE3031).at 2 rfl rfl) rfl (er rfl))) ?_
        refine zau (fun _ _ => zat (zai rfl (er rfl))) ?_
        refine zau (fun _ _ => zat (zci (r := rBig) (b := b2996) (o := 0) (n := n2992) (m := r111.Coefs.length) (xs := coefs2968) (q := (0 + n2992 * rBig.sz)) zax ti26 (osv_some hb2997) hl2971 rfl q2993 q2995 rfl (er rfl))) ?_
        refine zau (fun _ hE3049 => zat (zbd (vs := [(zaa x2990.Negative), v2998]) zal rfl ti26 rfl (own_some hb2997 ((hL3021.ext hE3049).at 3 rfl rfl)) rfl q3003 (er rfl))) ?_
        refine zau (fun _ _ => zat (zar zce rfl ti26 rfl rfl rfl (er rfl))) ?_
        refine zau (fun _ hE3061 => zat (zbd (vs := [(zaa s.Divisor.Negative), s_v1]) zal rfl ti26 rfl ((hL3021.ext hE3061).at 0 rfl rfl) rfl rfl (er rfl))) ?_
        refine zcq ?_ ?_
        ·
         rintro w3065 Z3066 hE3067 hZ3068 ⟨-⟩
         have K3070 := ke hL3021 hE3067
         refine zat (zaw en51 rfl rfl (rDivFloor_w N x2990 s.Divisor v2998 s_v1 _ Any (((k2999.mono (K3022 None)).mono (K3070 None)).mono vw_any) ((((((((((((s_h1.mono (K4 S)).mono (K9 S)).mono (K58 S)).mono (K110 S)).mono (K130 S)).mono (K136 S)).mono (K140 S)).mono (K2575 S)).mono (K2988 S)).mono (K3022 S)).mono (K3070 S)).mono vw_any) r3004 q3005) ?_)
         rintro _ w3071 hE3072 ⟨v3006, v3008, rfl, k3007, k3009, -⟩
         exact zcj hE3072 hZ3068 zca (fun _ h => h) ⟨v3006, v3008, rfl, (k3007.mono zda), (k3009.mono zda), trivial⟩
        intro z7
        refine zcq ?_ ?_
        ·
         rintro w3073 Z3074 hE3075 hZ3076 ⟨⟨⟨v3006, v3008, rfl, k3007, k3009, -⟩, hB7⟩, -⟩
         refine zat (zai (v := (Value.tuple #[(zan #[(zaa r3004.1.Negative), v3006]), (zan #[(zaa r3004.2.1.Negative), v3008]), (zaa r3004.2.2)])) rfl ?_)
         exact Go.X.Made.same ⟨v3006, v3008, rfl, k3007, k3009, trivial⟩
        intro z8
        refine DrH.fn rfl ?_ ?_
        ·
         rintro w3079 Z3080 hE3081 hZ3082 ⟨⟨⟨v3011, v3013, rfl, k3012, k3014, -⟩, hB8⟩, -, -⟩
         refine zat (zcf (vs := [(zan #[(zaa r3004.1.Negative), v3011]), (zan #[(zaa r3004.2.1.Negative), v3013]), (zaa r3004.2.2)]) (v := (zan #[(zaa r3004.1.Negative), v3011])) rfl rfl ?_)
         exact ⟨Ext.refl _, rfl⟩
        refine DrH.fn rfl ?_ ?_
        ·
         rintro w3085 Z3086 hE3087 hZ3088 ⟨⟨⟨v3011, v3013, rfl, k3012, k3014, -⟩, hB8⟩, -, -⟩
         refine zat (zcf (vs := [(zan #[(zaa r3004.1.Negative), v3011]), (zan #[(zaa r3004.2.1.Negative), v3013]), (zaa r3004.2.2)]) (v := (zan #[(zaa r3004.2.1.Negative), v3013])) rfl rfl ?_)
         exact ⟨Ext.refl _, rfl⟩
        refine DrH.fn rfl ?_ ?_
        ·
         rintro w3091 Z3092 hE3093 hZ3094 ⟨⟨⟨v3011, v3013, rfl, k3012, k3014, -⟩, hB8⟩, -, -⟩
         refine zat (zcf (vs := [(zan #[(zaa r3004.1.Negative), v3011]), (zan #[(zaa r3004.2.1.Negative), v3013]), (zaa r3004.2.2)]) (v := (zaa r3004.2.2)) rfl rfl ?_)
         exact ⟨Ext.refl _, rfl⟩
        refine zcq ?_ ?_
        ·
         rintro w3097 Z3098 hE3099 hZ3100 ⟨-, -, -⟩
         refine zat (zbw (cs := [(zaa false), (zad none 0 0)]) ti26 rfl (Go.X.Loc.begin0 w3097) ?_)
         intro b3015 w3103 hL3104 hS3105
         have hN3106 : NewOwn w3097 w3103 [some b3015] [zab [(zaa false), (zad none 0 0)]] := hL3104.newOwn [0] rfl rfl rfl
         exact zcj hL3104.done hZ3100 hN3106 (fun _ h => h) ⟨b3015, rfl, hN3106.2.2.1, trivial⟩
        intro z12
        refine zcq ?_ ?_
        ·
         rintro w3107 Z3108 hE3109 hZ3110 ⟨-, -, -, -⟩
         refine zat (zbw (cs := [(zaa false), (zad none 0 0)]) ti26 rfl (Go.X.Loc.begin0 w3107) ?_)
         intro b3017 w3113 hL3114 hS3115
         have hN3116 : NewOwn w3107 w3113 [some b3017] [zab [(zaa false), (zad none 0 0)]] := hL3114.newOwn [0] rfl rfl rfl
         exact zcj hL3114.done hZ3110 hN3116 (fun _ h => h) ⟨b3017, rfl, hN3116.2.2.1, trivial⟩
        intro z13
        refine DrH.fin ?_
        rintro w3117 Z3118 hE3119 hZ3120 ⟨⟨⟨b3017, rfl, hO3018, -⟩, hB13⟩, ⟨⟨b3015, rfl, hO3016, -⟩, hB12⟩, ⟨⟨v3011, v3013, rfl, k3012, k3014, -⟩, hB8⟩, ⟨⟨v3006, v3008, rfl, k3007, k3009, -⟩, hB7⟩, -⟩ ap3121
        have hB3122 : ∀ b, some b ∈ ([some b3017, some b3015] : List (Option Nat)) → w3019.heap.size ≤ b ∧ ¬ Z3118 b := by
         intro b hb
         rcases List.mem_cons.1 hb with hb' | hb
         ·
          have := hB13 b (by rw [hb']; exact zay); exact ⟨this.1, this.2.2⟩
         rcases List.mem_cons.1 hb with hb' | hb
         ·
          have := hB12 b (by rw [hb']; exact zay); exact ⟨this.1, this.2.2⟩
         cases hb
        replace k3012 := k3012.mono (zcy hL3021 hZ3120 hB3122)
        replace k3014 := k3014.mono (zcy hL3021 hZ3120 hB3122)
        replace k3007 := k3007.mono (zcy hL3021 hZ3120 hB3122)
        replace k3009 := k3009.mono (zcy hL3021 hZ3120 hB3122)
        have hN3125 : NewOwn w3019 w3117 [some b3017, some b3015] [zab [(zaa false), (zad none 0 0)], zab [(zaa false), (zad none 0 0)]] := (zdb (zdb zca hO3016 (fun b hb => (hB3122 b (by rw [← hb]; simp)).1) (fun b _ hb => by cases hb)) hO3018 (fun b hb => (hB3122 b (by rw [← hb]; simp)).1) (fun b hb hm => (List.mem_cons.1 hm).elim (fun e => apE (ap3121.1) rfl rfl b (hb) ((by rw [e]; exact zay))) (fun hm => by cases hm)))
        have hp3126 := hL3021.adoptL hE3119 hN3125
        have hL3123 := hp3126.1
        have K3124 := ks w hp3126.2
        refine RlL.op0 (zbh (vs := [(zaa r3004.1.Negative), v3011]) ti26 rfl rfl rfl rfl (ones_cons rfl (ones_cons k3012.one ones_nil)) hL3123 1 rfl rfl (zae rfl) ?_)
        intro w3127 (hL3128 : vL w w3127 [some b3017, some b3015, some b1, some b6, some b133, ob113] [zab [(zaa false), (zad none 0 0)], zab [(zaa r3004.1.Negative), v3011], zab [s_v, (zaa s.Divisor.Negative), s_v1], zab [(zad none 0 0), (zaa false), (zad none 0 0)], zab [(osv ob113 0 r111.Coefs.length cap114), (zaa negative1763), v1765], zab ([] ++ (cs2967 ++ sp116))]) hS3130
        have K3129 := ks w hS3130
        refine ⟨?_, ?_⟩
        ·
         refine LateP.cons (i := 10) rfl rfl (zat (zcf (vs := [(zan #[(zaa r3004.1.Negative), v3011]), (zan #[(zaa r3004.2.1.Negative), v3013]), (zaa r3004.2.2)]) (v := (zan #[(zaa r3004.2.1.Negative), v3013])) rfl rfl ⟨rfl, rfl⟩)) ?_
         refine LateP.cons (i := 11) rfl rfl (zat (zcf (vs := [(zan #[(zaa r3004.1.Negative), v3011]), (zan #[(zaa r3004.2.1.Negative), v3013]), (zaa r3004.2.2)]) (v := (zaa r3004.2.2)) rfl rfl ⟨rfl, rfl⟩)) ?_
         exact LateP.nil
        have f3131 := (k3014.mono (K3129 None))
        refine RlL.op0 (zbh (vs := [(zaa r3004.2.1.Negative), v3013]) ti26 rfl rfl rfl rfl (ones_cons rfl (ones_cons f3131.one ones_nil)) hL3128 0 rfl rfl (zae rfl) ?_)
        intro w3132 (hL3133 : vL w w3132 [some b3017, some b3015, some b1, some b6, some b133, ob113] [zab [(zaa r3004.2.1.Negative), v3013], zab [(zaa r3004.1.Negative), v3011], zab [s_v, (zaa s.Divisor.Negative), s_v1], zab [(zad none 0 0), (zaa false), (zad none 0 0)], zab [(osv ob113 0 r111.Coefs.length cap114), (zaa negative1763), v1765], zab ([] ++ (cs2967 ++ sp116))]) hS3135
        have K3134 := ks w hS3135
        refine ⟨?_, ?_⟩
        ·
         refine LateP.cons (i := 11) rfl rfl (zat (zcf (vs := [(zan #[(zaa r3004.1.Negative), v3011]), (zan #[(zaa r3004.2.1.Negative), v3013]), (zaa r3004.2.2)]) (v := (zaa r3004.2.2)) rfl rfl ⟨rfl, rfl⟩)) ?_
         exact LateP.nil
        refine RlL.op (zak (v := (zaa r3004.2.2)) rfl ?_)
        refine ⟨?_, ?_⟩
        ·
         exact LateP.nil
        refine RlL_nil ?_
        refine zap (zaj (zaj (zah rfl (zaf (zbd (vs := [(zaa r3004.2.1.Negative), v3013]) zal rfl ti26 rfl (hL3133.at 0 rfl rfl) rfl rfl ?_)))))
        obtain ⟨r3136, q3137, h⟩ := bind_some h
        have f3139 := (f3131.mono (K3134 None))
        refine zaf (zaw en40 rfl rfl (rSign_w N r3004.2.1 v3013 _ Any (f3139.mono vw_any) r3136 q3137) ?_)
        rintro _ w3140 hE3143 ⟨rfl, -⟩
        have hL3141 := hL3133.ext hE3143
        have K3142 := ke hL3133 hE3143
        refine zaf (OpY.neq (x := r3136) (y := 0) ((r3136 : Int) ≠ 0) rfl rfl zbk ?_)
        refine zap ?_
        refine zbe ((r3136 : Int) ≠ 0) rfl (fun hc3144 => ?_) (fun hc3144 => ?_)
        ·
         replace h := ite_t hc3144 h
         refine zaj (zah rfl (zaf (zcx (zc := [(zad none 0 0), (zaa false), (zad none 0 0)]) (cs := [(zad none 0 0), (zaa false), (zad none 0 0)]) (is := []) (vs := []) (css := []) pl34 ti34 rfl rfl rfl trivial rfl ?_)))
         refine zcb (zbh (vs := [(zad none 0 0), (zaa false), (zad none 0 0)]) ti34 rfl rfl rfl rfl (ones_cons rfl (ones_cons rfl (ones_cons rfl ones_nil))) hL3141 3 rfl rfl (zae rfl) ?_)
         intro w3145 (hL3146 : vL w w3145 [some b3017, some b3015, some b1, some b6, some b133, ob113] [zab [(zaa r3004.2.1.Negative), v3013], zab [(zaa r3004.1.Negative), v3011], zab [s_v, (zaa s.Divisor.Negative), s_v1], zab [(zad none 0 0), (zaa false), (zad none 0 0)], zab [(osv ob113 0 r111.Coefs.length cap114), (zaa negative1763), v1765], zab ([] ++ (cs2967 ++ sp116))]) hS3148
         refine zaf (zak (v := (zaa false)) rfl ?_)
         refine zap (zbl ?_)
         obtain rfl := zag h
         obtain rfl := hd2985 _ rfl
         replace h := g2983
         try dsimp only at h
         obtain rfl := zag h
         refine ⟨[(zan #[(zad none 0 0), (zaa false), (zad none 0 0)]), (zaa false)], ⟨⟨⟨b6, 0, none⟩, rfl, res_boxA zba rfl ti34 (hL3146.at 3 rfl rfl) rfl⟩, ⟨rfl, trivial⟩⟩, ⟨_, rfl, hL3146.done, ?_⟩⟩
         exact ⟨(zad none 0 0), (zad none 0 0), rfl, zdj, zdj, trivial⟩
        ·
         replace h := ite_f hc3144 h
         refine zbg (zah rfl (zaf (zar (q := 0) zba rfl ti32 rfl rfl rfl ?_)))
         refine zaf (zbb (v := (osv ob113 0 r111.Coefs.length cap114)) zax rfl rfl (hL3141.at 4 rfl rfl) rfl ?_)
         refine zaf (zai (v := (zac .i64 k2972)) rfl ?_)
         refine zaf (zbd (vs := [(zaa r3004.1.Negative), v3011]) zal rfl ti26 rfl (hL3141.at 1 rfl rfl) rfl rfl ?_)
         obtain ⟨x3149, q3150, h⟩ := bind_some h
         obtain ⟨n3151, q3152, q3153⟩ := idx_some q3150
         have q3154 := (List.getElem?_eq_some_iff.1 q3153).1
         refine zaf (zci (r := rBig) (b := b2996) (o := 0) (n := n3151) (m := r111.Coefs.length) (xs := coefs2968) (q := (0 + n3151 * rBig.sz)) zax ti26 (osv_some hb2997) hl2971 rfl q3152 q3154 rfl ?_)
         obtain ⟨x3155, q3156, h⟩ := bind_some h
         obtain ⟨n3157, q3158, q3159, q3160⟩ := upd1_some q3156
         obtain rfl := Int.ofNat_inj.1 (q3152.symm.trans q3158)
         have f3161 := (((((hE2969.mono (K3022 None)).mono (K3124 None)).mono (K3129 None)).mono (K3134 None)).mono (K3142 None))
         have f3162 := (((k3012.mono (K3129 None)).mono (K3134 None)).mono (K3142 None))
         refine zcb (zdh (pre := []) (r := rBig) (vs := [(zaa r3004.1.Negative), v3011]) (a := r3004.1) ti26 rfl rfl rfl (rBig_close ⟨v3011, rfl, f3162, trivial⟩) hL3141 5 (congrArg some hb2997) rfl f3161 q3154 rfl q3160 ?_)
         have hl3170 : r111.Coefs.length = List.length x3155 := by rw [q3160, List.length_set]; exact hl2971
         intro w3163 cs3167 (hL3164 : vL w w3163 [some b3017, some b3015, some b1, some b6, some b133, ob113] [zab [(zaa r3004.2.1.Negative), v3013], zab [(zaa r3004.1.Negative), v3011], zab [s_v, (zaa s.Divisor.Negative), s_v1], zab [(zad none 0 0), (zaa false), (zad none 0 0)], zab [(osv ob113 0 r111.Coefs.length cap114), (zaa negative1763), v1765], zab ([] ++ (cs3167 ++ sp116))]) hS3166 hE3168 q3169
         have hc3171 : (cs3167 ++ sp116).length = cap114 * rBig.sz := by have := hc2970; rw [List.length_append] at this ⊢; rw [q3169]; exact this
         have K3165 := ks w hS3166
         refine zap (zbs (zah rfl (zaf (zai (v := (zac .i64 k2972)) rfl ?_))))
         refine zaf (zcd (x := k2972) (y := 1) (z := (iw (k2972 + 1))) rfl rfl rfl ?_)
         refine zaf (zak (v := (zac .i64 (iw (k2972 + 1)))) rfl ?_)
         refine zap ?_
         have hp3172 := hL3164.pick [2, 3, 4, 5] rfl rfl rfl
         have hL3174 : vL w w3163 [some b1, some b6, some b133, ob113] [zab [s_v, (zaa s.Divisor.Negative), s_v1], zab [(zad none 0 0), (zaa false), (zad none 0 0)], zab [(osv ob113 0 r111.Coefs.length cap114), (zaa negative1763), v1765], zab ([] ++ (cs3167 ++ sp116))] := hp3172.1
         have K3173 := ks w hp3172.2
         have f3175 := ((hE3168.mono (K3165 None)).mono (K3173 None))
         obtain rfl := zag h
         refine zas ⟨(x3155, (iw (k2972 + 1))), rfl, ?_⟩
         exact ⟨cs3167, _, (upds_sym ⟨rfl, rfl, rfl, rfl, rfl, trivial⟩), hL3174, (zaq (zaq (zaq (zaq (zaq (zaq (zaq K2988 K3022) K3124) K3129) K3134) K3142) K3165) K3173), f3175, hl3170, hc3171, trivial⟩
      ·
       replace h := ite_f hc2989 h
       refine zcs rfl ?_
       obtain rfl := zag h
       obtain rfl := hd2985 _ rfl
       replace h := g2983
       try dsimp only at h
       skip
       refine zas ?_
       exact ⟨coefs2968, cs2967, _, rfl, (upds_sym ⟨rfl, rfl, rfl, trivial⟩), hL2987, K2988, hE2969, hl2971, hc2970, trivial⟩
     ·
      rintro _ w3176 ⟨coefs2978, cs2977, u, rfl, rfl, hL3177, K3178, hE2979, hl2981, hc2980, -⟩
      replace h := g2983
      try dsimp only at h
      refine zaj (zah rfl (zaf (zar (q := 1) zba rfl ti26 rfl rfl rfl ?_)))
      refine zaf (zbd (vs := [(zaa negative1763), v1765]) zal rfl ti26 rfl (hL3177.at 2 rfl rfl) rfl rfl ?_)
      refine zaf (zar (q := 1) zce rfl ti26 rfl rfl rfl ?_)
      refine zaf (zbd (vs := [(zaa s.Divisor.Negative), s_v1]) zal rfl ti26 rfl (hL3177.at 0 rfl rfl) rfl rfl ?_)
      obtain ⟨r3179, q3180, h⟩ := bind_some h
      have f3186 := (k1766.mono (K3178 None))
      have f3187 := (((((((((s_h1.mono (K4 S)).mono (K9 S)).mono (K58 S)).mono (K110 S)).mono (K130 S)).mono (K136 S)).mono (K140 S)).mono (K2575 S)).mono (K3178 S))
      refine zaf (zaw en51 rfl rfl (rDivFloor_w N (Big.mk negative1763 digits1764) s.Divisor v1765 s_v1 _ Any (f3186.mono vw_any) (f3187.mono vw_any) r3179 q3180) ?_)
      rintro _ w3188 hE3191 ⟨v3181, v3183, rfl, k3182, k3184, -⟩
      replace k3182 := k3182.mono (zbc (S := None) hL3177 [])
      replace k3184 := k3184.mono (zbc (S := None) hL3177 [])
      have hL3189 := hL3177.ext hE3191
      have K3190 := ke hL3177 hE3191
      refine zaf (zai (v := (Value.tuple #[(zan #[(zaa r3179.1.Negative), v3181]), (zan #[(zaa r3179.2.1.Negative), v3183]), (zaa r3179.2.2)])) rfl ?_)
      refine zaf (zcf (vs := [(zan #[(zaa r3179.1.Negative), v3181]), (zan #[(zaa r3179.2.1.Negative), v3183]), (zaa r3179.2.2)]) (v := (zan #[(zaa r3179.1.Negative), v3181])) rfl rfl ?_)
      refine zaf (zcf (vs := [(zan #[(zaa r3179.1.Negative), v3181]), (zan #[(zaa r3179.2.1.Negative), v3183]), (zaa r3179.2.2)]) (v := (zan #[(zaa r3179.2.1.Negative), v3183])) rfl rfl ?_)
      refine zaf (zcf (vs := [(zan #[(zaa r3179.1.Negative), v3181]), (zan #[(zaa r3179.2.1.Negative), v3183]), (zaa r3179.2.2)]) (v := (zaa r3179.2.2)) rfl rfl ?_)
      refine zaf (zar (q := 1) zba rfl ti26 rfl rfl rfl ?_)
      refine zcb (zbh (vs := [(zaa r3179.1.Negative), v3181]) ti26 rfl rfl rfl rfl (ones_cons rfl (ones_cons k3182.one ones_nil)) hL3189 2 rfl rfl (zae rfl) ?_)
      intro w3192 (hL3193 : vL w w3192 [some b1, some b6, some b133, ob113] [zab [s_v, (zaa s.Divisor.Negative), s_v1], zab [(zad none 0 0), (zaa false), (zad none 0 0)], zab [(osv ob113 0 r111.Coefs.length cap114), (zaa r3179.1.Negative), v3181], zab ([] ++ (cs2977 ++ sp116))]) hS3195
      have K3194 := ks w hS3195
      refine zap (zaj (zah rfl (zaf (zbd (vs := [(osv ob113 0 r111.Coefs.length cap114), (zaa r3179.1.Negative), v3181]) zba rfl ti34 rfl (hL3193.at 2 rfl rfl) rfl rfl ?_))))
      have f3196 := (k3182.mono (K3194 None))
      refine zcb (zbh (vs := [(osv ob113 0 r111.Coefs.length cap114), (zaa r3179.1.Negative), v3181]) ti34 rfl rfl rfl rfl (ones_cons (osv_one _ _ _ _) (ones_cons rfl (ones_cons f3196.one ones_nil))) hL3193 1 rfl rfl (zae rfl) ?_)
      intro w3197 (hL3198 : vL w w3197 [some b1, some b6, some b133, ob113] [zab [s_v, (zaa s.Divisor.Negative), s_v1], zab [(osv ob113 0 r111.Coefs.length cap114), (zaa r3179.1.Negative), v3181], zab [(osv ob113 0 r111.Coefs.length cap114), (zaa r3179.1.Negative), v3181], zab ([] ++ (cs2977 ++ sp116))]) hS3200
      have K3199 := ks w hS3200
      refine zaf (zak (v := (zaa true)) rfl ?_)
      refine zap ?_
      have f3202 := (((hE2979.mono (K3190 None)).mono (K3194 None)).mono (K3199 None))
      have f3201 := hL3198.freezeRow 3 rfl rfl f3202 rfl rfl hl2981 hc2980
      have hp3203 := hL3198.pick [0, 1, 2] rfl rfl rfl
      have hL3205 : vL w w3197 [some b1, some b6, some b133] [zab [s_v, (zaa s.Divisor.Negative), s_v1], zab [(osv ob113 0 r111.Coefs.length cap114), (zaa r3179.1.Negative), v3181], zab [(osv ob113 0 r111.Coefs.length cap114), (zaa r3179.1.Negative), v3181]] := hp3203.1
      have K3204 := ks w hp3203.2
      refine zbl ?_
      obtain rfl := zag h
      refine ⟨[(zan #[(osv ob113 0 r111.Coefs.length cap114), (zaa r3179.1.Negative), v3181]), (zaa true)], ⟨⟨⟨b6, 0, none⟩, rfl, res_boxA zba rfl ti34 (hL3205.at 1 rfl rfl) rfl⟩, ⟨rfl, trivial⟩⟩, ⟨_, rfl, hL3205.done, ?_⟩⟩
      have f3206 := ((f3196.mono (K3199 None)).mono (K3204 None))
      exact ⟨(osv ob113 0 r111.Coefs.length cap114), v3181, rfl, (f3201.mono zdf), (f3206.mono zdf), trivial⟩
theorem rSame1_w (N : Nat) (a : Ineq) (b : Ineq) (a_v : Value) (a_v1 : Value) (b_v : Value) (b_v1 : Value) (w : World) (S : Nat → Prop) (a_h : Rs rBig (vH w S [] w) a_v a.Coefs) (a_h1 : Rs (rInt .u32) (vH w S [] w) a_v1 a.Bound.Digits) (b_h : Rs rBig (vH w S [] w) b_v b.Coefs) (b_h1 : Rs (rInt .u32) (vH w S [] w) b_v1 b.Bound.Digits) (r : Bool) (h : rSame1 N a b = some r) :
  Calls Try.prog 16 #[(zan #[a_v, (zaa a.Bound.Negative), a_v1]), (zan #[b_v, (zaa b.Bound.Negative), b_v1])] w (Ret w (fun v w' => (zaa r) = v ∧ True)) := by
 unfold rSame1 at h
 have hL : vL w w [] [] := Go.X.Loc.begin0 w
 refine calls_of (l := [(zan #[a_v, (zaa a.Bound.Negative), a_v1]), (zan #[b_v, (zaa b.Bound.Negative), b_v1])]) (rl := [.tmp 4]) (n := 40) Try.func16 rfl rfl rfl (zae rfl) ?_
 refine zaj (zah rfl (zaf (zdc (cs := [a_v, (zaa a.Bound.Negative), a_v1]) rfl rfl hL ?_)))
 intro b1 w2 hL3 hS5
 have K4 := ks w hS5
 refine zaf (zdc (cs := [b_v, (zaa b.Bound.Negative), b_v1]) rfl rfl hL3 ?_)
 intro b6 w7 hL8 hS10
 have K9 := ks w hS10
 refine zaf (zak (v := (zaa false)) rfl ?_)
 refine zap (zaj (zaj ?_))
 obtain ⟨s26, h, g27⟩ := bind_some h
 refine zbr (fun e w' => ∃ (x25 : Bool) (u : Env), x25 = s26 ∧ e = upds [(2, (zam (some ⟨b1, 0, none⟩))), (3, (zam (some ⟨b6, 0, none⟩))), (20, (zaa x25))] u ∧ vL w w' [some b1, some b6] [zab [a_v, (zaa a.Bound.Negative), a_v1], zab [b_v, (zaa b.Bound.Negative), b_v1]] ∧ Keep w.heap.size [some b6, some b1] w7 [some b1, some b6] w' ∧ True) ?_ ?_
 ·
  refine zah rfl (zaf (zar (q := 0) zba rfl ti32 rfl rfl rfl ?_))
  refine zaf (zbb (v := a_v) zax rfl rfl (hL8.at 1 rfl rfl) rfl ?_)
  have f28 := ((a_h.mono (K4 S)).mono (K9 S))
  refine zaf (zbf (v := a_v) zax rfl f28 ?_)
  refine zaf (zar (q := 0) zba rfl ti32 rfl rfl rfl ?_)
  refine zaf (zbb (v := b_v) zax rfl rfl (hL8.at 0 rfl rfl) rfl ?_)
  have f29 := ((b_h.mono (K4 S)).mono (K9 S))
  refine zaf (zbf (v := b_v) zax rfl f29 ?_)
  refine zaf (OpY.neq (x := (a.Coefs.length : Int)) (y := (b.Coefs.length : Int)) (((a.Coefs.length : Int) : Int) ≠ (b.Coefs.length : Int)) rfl rfl zbk ?_)
  refine zaf (zai (v := (zaa (decide (((a.Coefs.length : Int) : Int) ≠ (b.Coefs.length : Int))))) rfl ?_)
  by_cases hc30 : ((a.Coefs.length : Int) : Int) ≠ (b.Coefs.length : Int)
  ·
   replace h := ite_t hc30 h
   refine zbt rfl rfl (decide_eq_true hc30) ?_
   refine zbt rfl rfl (decide_eq_true hc30) ?_
   refine zbt rfl rfl (decide_eq_true hc30) ?_
   refine zbt rfl rfl (decide_eq_true hc30) ?_
   refine zbt rfl rfl (decide_eq_true hc30) ?_
   refine zbt rfl rfl (decide_eq_true hc30) ?_
   refine zaf (zcm (t := (decide (((a.Coefs.length : Int) : Int) ≠ (b.Coefs.length : Int)))) (v := (zaa true)) rfl (decide_eq_true hc30) rfl ?_)
   refine zap ?_
   have hp31 := hL8.pick [1, 0] rfl rfl rfl
   have hL33 : vL w w7 [some b1, some b6] [zab [a_v, (zaa a.Bound.Negative), a_v1], zab [b_v, (zaa b.Bound.Negative), b_v1]] := hp31.1
   have K32 := ks w hp31.2
   obtain rfl := zag h
   refine zas ?_
   exact ⟨true, _, rfl, (upds_sym ⟨rfl, rfl, rfl, trivial⟩), hL33, K32, trivial⟩
  ·
   replace h := ite_f hc30 h
   refine zbu rfl rfl (decide_eq_false hc30) (zar (q := 1) zba rfl ti26 rfl rfl rfl ?_)
   refine zbu rfl rfl (decide_eq_false hc30) (zbd (vs := [(zaa a.Bound.Negative), a_v1]) zal rfl ti26 rfl (hL8.at 1 rfl rfl) rfl rfl ?_)
   refine zbu rfl rfl (decide_eq_false hc30) (zar (q := 1) zba rfl ti26 rfl rfl rfl ?_)
   refine zbu rfl rfl (decide_eq_false hc30) (zbd (vs := [(zaa b.Bound.Negative), b_v1]) zal rfl ti26 rfl (hL8.at 0 rfl rfl) rfl rfl ?_)
   obtain ⟨r34, q35, h⟩ := bind_some h
   have f37 := ((a_h1.mono (K4 S)).mono (K9 S))
   have f38 := ((b_h1.mono (K4 S)).mono (K9 S))
   refine zbu rfl rfl (decide_eq_false hc30) (zaw en23 rfl rfl (rSame_w N a.Bound b.Bound a_v1 b_v1 _ Any (f37.mono vw_any) (f38.mono vw_any) r34 q35) ?_)
   rintro _ w39 hE42 ⟨rfl, -⟩
   have hL40 := hL8.ext hE42
   have K41 := ke hL8 hE42
   refine zbu rfl rfl (decide_eq_false hc30) (OpY.not (x := r34) rfl ?_)
   refine zaf (zbz (t := (decide (((a.Coefs.length : Int) : Int) ≠ (b.Coefs.length : Int)))) (v := (zaa (!r34))) rfl (decide_eq_false hc30) rfl ?_)
   refine zap ?_
   have hp43 := hL40.pick [1, 0] rfl rfl rfl
   have hL45 : vL w w39 [some b1, some b6] [zab [a_v, (zaa a.Bound.Negative), a_v1], zab [b_v, (zaa b.Bound.Negative), b_v1]] := hp43.1
   have K44 := ks w hp43.2
   obtain rfl := zag h
   refine zas ?_
   exact ⟨(!r34), _, rfl, (upds_sym ⟨rfl, rfl, rfl, trivial⟩), hL45, (zaq K41 K44), trivial⟩
 ·
  rintro _ w46 ⟨x25, u, rfl, rfl, hL47, K48, -⟩
  replace h := g27
  try dsimp only at h
  refine zcu x25 rfl (fun hc49 => ?_) (fun hc49 => ?_)
  ·
   replace h := ite_t hc49 h
   refine zaj (zah rfl (zaf (zak (v := (zaa false)) rfl ?_)))
   refine zap (zbl ?_)
   obtain rfl := zag h
   refine ⟨[(zaa false)], ⟨rfl, trivial⟩, ⟨_, rfl, hL47.done, ?_⟩⟩
   exact ⟨rfl, trivial⟩
  ·
   replace h := ite_f hc49 h
   refine zbg (zaj (zaj (zah rfl (zaf (zak (v := (zac .i64 0)) rfl ?_)))))
   refine zap ?_
   obtain ⟨s294, hl296, g295⟩ := bind_some h
   refine zbr (fun e w' => ∃  (u : Env), (Sum.inl ()) = s294 ∧ e = upds [] u ∧ vL w w' [] [] ∧ Keep w.heap.size [some b1, some b6] w46 [] w' ∧ True) ?_ ?_
   ·
    refine zbj ?_
    refine zcg hl296 (fun (ss : Int) (e : Env) (w' : World) => match ss with | i293 => ∃ (u : Env), e = upds [(2, (zam (some ⟨b1, 0, none⟩))), (3, (zam (some ⟨b6, 0, none⟩))), (5, (zac .i64 i293))] u ∧ vL w w' [some b1, some b6] [zab [a_v, (zaa a.Bound.Negative), a_v1], zab [b_v, (zaa b.Bound.Negative), b_v1]] ∧ Keep w.heap.size [some b1, some b6] w46 [some b1, some b6] w' ∧ True) ⟨_, (upds_sym ⟨rfl, rfl, rfl, trivial⟩), hL47, zbo, trivial⟩ ?_
    rintro i293 oo _ w298 ⟨u, rfl, hL299, K300, -⟩ h hd297
    rw [rSame1_b1] at h
    refine zaj (zaj (zah rfl (zaf (zai (v := (zac .i64 i293)) rfl ?_))))
    refine zaf (zar (q := 0) zba rfl ti32 rfl rfl rfl ?_)
    refine zaf (zbb (v := a_v) zax rfl rfl (hL299.at 0 rfl rfl) rfl ?_)
    have f301 := ((((a_h.mono (K4 S)).mono (K9 S)).mono (K48 S)).mono (K300 S))
    refine zaf (zbf (v := a_v) zax rfl f301 ?_)
    refine zaf (zcr (x := i293) (y := (a.Coefs.length : Int)) ((i293 : Int) < (a.Coefs.length : Int)) rfl rfl zbk ?_)
    refine zap ?_
    refine zbe ((i293 : Int) < (a.Coefs.length : Int)) rfl (fun hc302 => ?_) (fun hc302 => ?_)
    ·
     replace h := ite_t hc302 h
     refine zbg (zaj (zbj (zaj ?_)))
     obtain ⟨x303, q304, h⟩ := bind_some h
     obtain ⟨n305, q306, q307⟩ := idx_some q304
     obtain ⟨b308, o309, c310, vs311, q312, q313, f314, q315⟩ := zcz f301 q307
     obtain ⟨v316, rfl, k317, -⟩ := rBig_open q315
     obtain ⟨x318, q319, h⟩ := bind_some h
     obtain ⟨n320, q321, q322⟩ := idx_some q319
     have f333 := ((((b_h.mono (K4 S)).mono (K9 S)).mono (K48 S)).mono (K300 S))
     obtain ⟨b323, o324, c325, vs326, q327, q328, f329, q330⟩ := zcz f333 q322
     obtain ⟨v331, rfl, k332, -⟩ := rBig_open q330
     refine zcc 10 [] [] (fun W1 => [.det (zam (some ⟨b1, 0, none⟩)), .det a_v, .det (zac .i64 i293), .det (zam (some ⟨b308, (o309 + n305 * rBig.sz), none⟩)), .det (zan #[(zaa x303.Negative), v316]), .det (zam (some ⟨b6, 0, none⟩)), .det b_v, .det (zac .i64 i293), .det (zam (some ⟨b323, (o324 + n320 * rBig.sz), none⟩)), .det (zan #[(zaa x318.Negative), v331])]) mixed rfl rfl rfl (fun _ => rfl) (fun _ => rfl) ?_ ?_
     ·
      intro W1 _
      exact trivial
     ·
      intro w334 hE335
      have hL336 := hL299.ext hE335
      have K337 := ke hL299 hE335
      refine zau (fun _ _ => zat (zar zba rfl ti32 rfl rfl rfl (er rfl))) ?_
      refine zau (fun _ hE346 => zat (zbb zax rfl rfl ((hL336.ext hE346).at 0 rfl rfl) rfl (er rfl))) ?_
      refine zau (fun _ _ => zat (zai rfl (er rfl))) ?_
      refine zau (fun _ _ => zat (zbv (r := rBig) (v := a_v) (n := n305) (m := (o309 + n305 * rBig.sz)) zax ti26 rfl q312 rfl q306 q307 rfl (er rfl))) ?_
      refine zau (fun _ hE364 => zat (zdi (vs := [(zaa x303.Negative), v316]) zal rfl ti26 rfl rfl vw_view (zcw ((ke hL336 hE364) S) (zcw (K337 S) f314)) (er rfl))) ?_
      refine zau (fun _ _ => zat (zar zba rfl ti32 rfl rfl rfl (er rfl))) ?_
      refine zau (fun _ hE376 => zat (zbb zax rfl rfl ((hL336.ext hE376).at 1 rfl rfl) rfl (er rfl))) ?_
      refine zau (fun _ _ => zat (zai rfl (er rfl))) ?_
      refine zau (fun _ _ => zat (zbv (r := rBig) (v := b_v) (n := n320) (m := (o324 + n320 * rBig.sz)) zax ti26 rfl q327 rfl q321 q322 rfl (er rfl))) ?_
      refine zau (fun _ hE394 => zat (zdi (vs := [(zaa x318.Negative), v331]) zal rfl ti26 rfl rfl vw_view (zcw ((ke hL336 hE394) S) (zcw (K337 S) f329)) (er rfl))) ?_
      refine zcn ?_
      rintro w398 Z399 hE400 hZ401 ⟨-⟩ ap402
      have hB403 : ∀ b, some b ∈ ([] : List (Option Nat)) → w334.heap.size ≤ b ∧ ¬ Z399 b := by
       intro b hb; cases hb
      have hL404 := hL336.ext hE400
      have K405 := ke hL336 hE400
      obtain ⟨r406, q407, h⟩ := bind_some h
      have f409 := ((k317.mono (K337 S)).mono (K405 S))
      have f410 := ((k332.mono (K337 S)).mono (K405 S))
      refine zaf (zaw en23 rfl rfl (rSame_w N x303 x318 v316 v331 _ Any (f409.mono vw_any) (f410.mono vw_any) r406 q407) ?_)
      rintro _ w411 hE414 ⟨rfl, -⟩
      have hL412 := hL404.ext hE414
      have K413 := ke hL404 hE414
      refine zaf (OpY.not (x := r406) rfl ?_)
      refine zap ?_
      refine zcu (!r406) rfl (fun hc415 => ?_) (fun hc415 => ?_)
      ·
       replace h := ite_t hc415 h
       refine zaj (zah rfl (zaf (zak (v := (zaa false)) rfl ?_)))
       refine zap (zbl ?_)
       obtain rfl := zag h
       obtain rfl := hd297 _ rfl
       replace h := g295
       try dsimp only at h
       obtain rfl := zag h
       refine ⟨[(zaa false)], ⟨rfl, trivial⟩, ⟨_, rfl, hL412.done, ?_⟩⟩
       exact ⟨rfl, trivial⟩
      ·
       replace h := ite_f hc415 h
       refine zbg (zbs (zah rfl (zaf (zai (v := (zac .i64 i293)) rfl ?_))))
       refine zaf (zcd (x := i293) (y := 1) (z := (iw (i293 + 1))) rfl rfl rfl ?_)
       refine zaf (zak (v := (zac .i64 (iw (i293 + 1)))) rfl ?_)
       refine zap ?_
       obtain rfl := zag h
       refine zas ⟨(iw (i293 + 1)), rfl, ?_⟩
       exact ⟨_, (upds_sym ⟨rfl, rfl, rfl, trivial⟩), hL412, (zaq (zaq (zaq K300 K337) K405) K413), trivial⟩
    ·
     replace h := ite_f hc302 h
     refine zcs rfl ?_
     have hp416 := hL299.pick [] rfl rfl rfl
     have hL418 : vL w w298 [] [] := hp416.1
     have K417 := ks w hp416.2
     obtain rfl := zag h
     obtain rfl := hd297 _ rfl
     replace h := g295
     try dsimp only at h
     skip
     refine zas ?_
     exact ⟨_, rfl, (upds_sym trivial), hL418, (zaq K300 K417), trivial⟩
   ·
    rintro _ w419 ⟨u, rfl, rfl, hL420, K421, -⟩
    replace h := g295
    try dsimp only at h
    refine zaj (zah rfl (zaf (zak (v := (zaa true)) rfl ?_)))
    refine zap (zbl ?_)
    obtain rfl := zag h
    refine ⟨[(zaa true)], ⟨rfl, trivial⟩, ⟨_, rfl, hL420.done, ?_⟩⟩
    exact ⟨rfl, trivial⟩
theorem rbigs_w (N : Nat) (l : (List Big)) (l_v : Value) (w : World) (S : Nat → Prop) (l_h : Rs rBig (vH w S [] w) l_v l) (r : Bool) (h : rbigs N l = some r) :
  Calls Try.prog 43 #[l_v] w (Ret w (fun v w' => (zaa r) = v ∧ True)) := by
 unfold rbigs at h
 have hL : vL w w [] [] := Go.X.Loc.begin0 w
 refine calls_of (l := [l_v]) (rl := [.tmp 2]) (n := 20) Try.func43 rfl rfl rfl (zae rfl) ?_
 refine zaj (zah rfl (zaf (zak (v := (zaa false)) rfl ?_)))
 refine zap (zaj (zaj (zah rfl (zaf (zak (v := (zac .i64 0)) rfl ?_)))))
 refine zap ?_
 obtain ⟨s47, hl49, g48⟩ := bind_some h
 refine zbr (fun e w' => ∃  (u : Env), (Sum.inl ()) = s47 ∧ e = upds [(0, l_v)] u ∧ vL w w' [] [] ∧ Keep w.heap.size [] w [] w' ∧ True) ?_ ?_
 ·
  refine zbj ?_
  refine zcg hl49 (fun (ss : Int) (e : Env) (w' : World) => match ss with | i46 => ∃ (u : Env), e = upds [(0, l_v), (3, (zac .i64 i46))] u ∧ vL w w' [] [] ∧ Keep w.heap.size [] w [] w' ∧ True) ⟨_, (upds_sym ⟨rfl, rfl, trivial⟩), hL, zbo, trivial⟩ ?_
  rintro i46 oo _ w51 ⟨u, rfl, hL52, K53, -⟩ h hd50
  rw [rbigs_b1] at h
  refine zaj (zaj (zah rfl (zaf (zai (v := (zac .i64 i46)) rfl ?_))))
  refine zaf (zai (v := l_v) rfl ?_)
  have f54 := (l_h.mono (K53 S))
  refine zaf (zbf (v := l_v) zax rfl f54 ?_)
  refine zaf (zcr (x := i46) (y := (l.length : Int)) ((i46 : Int) < (l.length : Int)) rfl rfl zbk ?_)
  refine zap ?_
  refine zbe ((i46 : Int) < (l.length : Int)) rfl (fun hc55 => ?_) (fun hc55 => ?_)
  ·
   replace h := ite_t hc55 h
   refine zbg (zaj (zbj (zaj (zah rfl (zaf (zai (v := l_v) rfl ?_))))))
   refine zaf (zai (v := (zac .i64 i46)) rfl ?_)
   obtain ⟨x56, q57, h⟩ := bind_some h
   obtain ⟨n58, q59, q60⟩ := idx_some q57
   obtain ⟨b61, o62, c63, vs64, q65, q66, f67, q68⟩ := zcz f54 q60
   obtain ⟨v69, rfl, k70, -⟩ := rBig_open q68
   refine zaf (zbv (r := rBig) (v := l_v) (n := n58) (m := (o62 + n58 * rBig.sz)) zax ti26 rfl q65 rfl q59 q60 rfl ?_)
   have f71 := (f67.part (us := [v69]) 1 rfl)
   refine zaf (zar (q := (o62 + n58 * rBig.sz) + 1) zal rfl ti24 rfl rfl rfl ?_)
   refine zaf (zck (v := v69) zao rfl rfl vw_view f71 ?_)
   refine zaf (zbf (v := v69) zao rfl k70 ?_)
   refine zaf (zdm (x := (x56.Digits.length : Int)) (y := 4) (((x56.Digits.length : Int) : Int) > 4) rfl rfl zbk ?_)
   refine zap ?_
   refine zbe (((x56.Digits.length : Int) : Int) > 4) rfl (fun hc72 => ?_) (fun hc72 => ?_)
   ·
    replace h := ite_t hc72 h
    refine zaj (zah rfl (zaf (zak (v := (zaa false)) rfl ?_)))
    refine zap (zbl ?_)
    obtain rfl := zag h
    obtain rfl := hd50 _ rfl
    replace h := g48
    try dsimp only at h
    obtain rfl := zag h
    refine ⟨[(zaa false)], ⟨rfl, trivial⟩, ⟨_, rfl, hL52.done, ?_⟩⟩
    exact ⟨rfl, trivial⟩
   ·
    replace h := ite_f hc72 h
    refine zbg (zbs (zah rfl (zaf (zai (v := (zac .i64 i46)) rfl ?_))))
    refine zaf (zcd (x := i46) (y := 1) (z := (iw (i46 + 1))) rfl rfl rfl ?_)
    refine zaf (zak (v := (zac .i64 (iw (i46 + 1)))) rfl ?_)
    refine zap ?_
    obtain rfl := zag h
    refine zas ⟨(iw (i46 + 1)), rfl, ?_⟩
    exact ⟨_, (upds_sym ⟨rfl, rfl, trivial⟩), hL52, K53, trivial⟩
  ·
   replace h := ite_f hc55 h
   refine zcs rfl ?_
   obtain rfl := zag h
   obtain rfl := hd50 _ rfl
   replace h := g48
   try dsimp only at h
   skip
   refine zas ?_
   exact ⟨_, rfl, (upds_sym ⟨rfl, trivial⟩), hL52, K53, trivial⟩
 ·
  rintro _ w73 ⟨u, rfl, rfl, hL74, K75, -⟩
  replace h := g48
  try dsimp only at h
  refine zaj (zah rfl (zaf (zai (v := l_v) rfl ?_)))
  have f76 := (l_h.mono (K75 S))
  refine zaf (zbf (v := l_v) zax rfl f76 ?_)
  refine zaf (OpY.leq (x := (l.length : Int)) (y := 6) (((l.length : Int) : Int) ≤ 6) rfl rfl zbk ?_)
  refine zaf (zak (v := (zaa (decide (((l.length : Int) : Int) ≤ 6)))) rfl ?_)
  refine zap (zbl ?_)
  obtain rfl := zag h
  refine ⟨[(zaa (decide (((l.length : Int) : Int) ≤ 6)))], ⟨rfl, trivial⟩, ⟨_, rfl, hL74.done, ?_⟩⟩
  exact ⟨rfl, trivial⟩
theorem rSmall_w (N : Nat) (l : (List Ineq)) (l_v : Value) (w : World) (S : Nat → Prop) (l_h : Rs rIneq (vH w S [] w) l_v l) (r : Bool) (h : rSmall N l = some r) :
  Calls Try.prog 12 #[l_v] w (Ret w (fun v w' => (zaa r) = v ∧ True)) := by
 unfold rSmall at h
 have hL : vL w w [] [] := Go.X.Loc.begin0 w
 refine calls_of (l := [l_v]) (rl := [.tmp 2]) (n := 30) Try.func12 rfl rfl rfl (zae rfl) ?_
 refine zaj (zah rfl (zaf (zak (v := (zaa false)) rfl ?_)))
 refine zap (zaj (zaj (zah rfl (zaf (zak (v := (zac .i64 0)) rfl ?_)))))
 refine zap ?_
 obtain ⟨s211, hl213, g212⟩ := bind_some h
 refine zbr (fun e w' => ∃  (u : Env), (Sum.inl ()) = s211 ∧ e = upds [(0, l_v)] u ∧ vL w w' [] [] ∧ Keep w.heap.size [] w [] w' ∧ True) ?_ ?_
 ·
  refine zbj ?_
  refine zcg hl213 (fun (ss : Int) (e : Env) (w' : World) => match ss with | i210 => ∃ (u : Env), e = upds [(0, l_v), (3, (zac .i64 i210))] u ∧ vL w w' [] [] ∧ Keep w.heap.size [] w [] w' ∧ True) ⟨_, (upds_sym ⟨rfl, rfl, trivial⟩), hL, zbo, trivial⟩ ?_
  rintro i210 oo _ w215 ⟨u, rfl, hL216, K217, -⟩ h hd214
  rw [rSmall_b1] at h
  refine zaj (zaj (zah rfl (zaf (zai (v := (zac .i64 i210)) rfl ?_))))
  refine zaf (zai (v := l_v) rfl ?_)
  have f218 := (l_h.mono (K217 S))
  refine zaf (zbf (v := l_v) zbm rfl f218 ?_)
  refine zaf (zcr (x := i210) (y := (l.length : Int)) ((i210 : Int) < (l.length : Int)) rfl rfl zbk ?_)
  refine zap ?_
  refine zbe ((i210 : Int) < (l.length : Int)) rfl (fun hc219 => ?_) (fun hc219 => ?_)
  ·
   replace h := ite_t hc219 h
   refine zbg (zaj (zbj (zaj ?_)))
   obtain ⟨s267, h, g268⟩ := bind_some h
   refine zbr (fun e w' => ∃ (x266 : Bool) (u : Env), x266 = s267 ∧ e = upds [(0, l_v), (3, (zac .i64 i210)), (26, (zaa x266))] u ∧ vL w w' [] [] ∧ Keep w.heap.size [] w215 [] w' ∧ True) ?_ ?_
   ·
    refine zah rfl (zaf (zai (v := l_v) rfl ?_))
    refine zaf (zai (v := (zac .i64 i210)) rfl ?_)
    obtain ⟨x269, q270, h⟩ := bind_some h
    obtain ⟨n271, q272, q273⟩ := idx_some q270
    obtain ⟨b274, o275, c276, vs277, q278, q279, f280, q281⟩ := zcz f218 q273
    obtain ⟨v282, v284, rfl, k283, k285, -⟩ := rIneq_open q281
    refine zaf (zbv (r := rIneq) (v := l_v) (n := n271) (m := (o275 + n271 * rIneq.sz)) zbm ti34 rfl q278 rfl q272 q273 rfl ?_)
    have f286 := (f280.part (us := [v282]) 0 rfl)
    refine zaf (zar (q := (o275 + n271 * rIneq.sz) + 0) zba rfl ti32 rfl rfl rfl ?_)
    refine zaf (zck (v := v282) zax rfl rfl vw_view f286 ?_)
    obtain ⟨r287, q288, h⟩ := bind_some h
    refine zaf (zaw en43 rfl rfl (rbigs_w N x269.Coefs v282 _ Any (k283.mono vw_any) r287 q288) ?_)
    rintro _ w290 hE293 ⟨rfl, -⟩
    have hL291 := hL216.ext hE293
    have K292 := ke hL216 hE293
    refine zaf (OpY.not (x := r287) rfl ?_)
    refine zaf (zai (v := (zaa (!r287))) rfl ?_)
    by_cases hc294 : (!r287) = true
    ·
     replace h := ite_t hc294 h
     refine zbt rfl rfl hc294 ?_
     refine zbt rfl rfl hc294 ?_
     refine zbt rfl rfl hc294 ?_
     refine zbt rfl rfl hc294 ?_
     refine zbt rfl rfl hc294 ?_
     refine zbt rfl rfl hc294 ?_
     refine zbt rfl rfl hc294 ?_
     refine zbt rfl rfl hc294 ?_
     refine zaf (zcm (t := (!r287)) (v := (zaa true)) rfl hc294 rfl ?_)
     refine zap ?_
     obtain rfl := zag h
     refine zas ?_
     exact ⟨true, _, rfl, (upds_sym ⟨rfl, rfl, rfl, trivial⟩), hL291, K292, trivial⟩
    ·
     replace h := ite_f hc294 h
     refine zbu rfl rfl (eq_false_of_ne_true hc294) (zai (v := l_v) rfl ?_)
     refine zbu rfl rfl (eq_false_of_ne_true hc294) (zai (v := (zac .i64 i210)) rfl ?_)
     obtain ⟨x295, q296, h⟩ := bind_some h
     obtain ⟨n297, q298, q299⟩ := idx_some q296
     have f312 := (f218.mono (K292 S))
     obtain ⟨b300, o301, c302, vs303, q304, q305, f306, q307⟩ := zcz f312 q299
     obtain ⟨v308, v310, rfl, k309, k311, -⟩ := rIneq_open q307
     refine zbu rfl rfl (eq_false_of_ne_true hc294) (zbv (r := rIneq) (v := l_v) (n := n297) (m := (o301 + n297 * rIneq.sz)) zbm ti34 rfl q304 rfl q298 q299 rfl ?_)
     have f313 := (f306.part (us := [(zaa x295.Bound.Negative), v310]) 1 rfl)
     refine zbu rfl rfl (eq_false_of_ne_true hc294) (zar (q := (o301 + n297 * rIneq.sz) + 1) zba rfl ti26 rfl rfl rfl ?_)
     have f314 := (f313.part (us := [v310]) 1 rfl)
     refine zbu rfl rfl (eq_false_of_ne_true hc294) (zar (q := (o301 + n297 * rIneq.sz) + 1 + 1) zal rfl ti24 rfl rfl rfl ?_)
     refine zbu rfl rfl (eq_false_of_ne_true hc294) (zck (v := v310) zao rfl rfl vw_view f314 ?_)
     refine zbu rfl rfl (eq_false_of_ne_true hc294) (zbf (v := v310) zao rfl k311 ?_)
     refine zbu rfl rfl (eq_false_of_ne_true hc294) (zdm (x := (x295.Bound.Digits.length : Int)) (y := 4) (((x295.Bound.Digits.length : Int) : Int) > 4) rfl rfl zbk ?_)
     refine zaf (zbz (t := (!r287)) (v := (zaa (decide (((x295.Bound.Digits.length : Int) : Int) > 4)))) rfl (eq_false_of_ne_true hc294) rfl ?_)
     refine zap ?_
     obtain rfl := zag h
     refine zas ?_
     exact ⟨(decide (((x295.Bound.Digits.length : Int) : Int) > 4)), _, rfl, (upds_sym ⟨rfl, rfl, rfl, trivial⟩), hL291, K292, trivial⟩
   ·
    rintro _ w315 ⟨x266, u, rfl, rfl, hL316, K317, -⟩
    replace h := g268
    try dsimp only at h
    refine zcu x266 rfl (fun hc318 => ?_) (fun hc318 => ?_)
    ·
     replace h := ite_t hc318 h
     refine zaj (zah rfl (zaf (zak (v := (zaa false)) rfl ?_)))
     refine zap (zbl ?_)
     obtain rfl := zag h
     obtain rfl := hd214 _ rfl
     replace h := g212
     try dsimp only at h
     obtain rfl := zag h
     refine ⟨[(zaa false)], ⟨rfl, trivial⟩, ⟨_, rfl, hL316.done, ?_⟩⟩
     exact ⟨rfl, trivial⟩
    ·
     replace h := ite_f hc318 h
     refine zbg (zbs (zah rfl (zaf (zai (v := (zac .i64 i210)) rfl ?_))))
     refine zaf (zcd (x := i210) (y := 1) (z := (iw (i210 + 1))) rfl rfl rfl ?_)
     refine zaf (zak (v := (zac .i64 (iw (i210 + 1)))) rfl ?_)
     refine zap ?_
     obtain rfl := zag h
     refine zas ⟨(iw (i210 + 1)), rfl, ?_⟩
     exact ⟨_, (upds_sym ⟨rfl, rfl, trivial⟩), hL316, (zaq K217 K317), trivial⟩
  ·
   replace h := ite_f hc219 h
   refine zcs rfl ?_
   obtain rfl := zag h
   obtain rfl := hd214 _ rfl
   replace h := g212
   try dsimp only at h
   skip
   refine zas ?_
   exact ⟨_, rfl, (upds_sym ⟨rfl, trivial⟩), hL216, K217, trivial⟩
 ·
  rintro _ w319 ⟨u, rfl, rfl, hL320, K321, -⟩
  replace h := g212
  try dsimp only at h
  refine zaj (zah rfl (zaf (zai (v := l_v) rfl ?_)))
  have f322 := (l_h.mono (K321 S))
  refine zaf (zbf (v := l_v) zbm rfl f322 ?_)
  refine zaf (OpY.leq (x := (l.length : Int)) (y := 12) (((l.length : Int) : Int) ≤ 12) rfl rfl zbk ?_)
  refine zaf (zak (v := (zaa (decide (((l.length : Int) : Int) ≤ 12)))) rfl ?_)
  refine zap (zbl ?_)
  obtain rfl := zag h
  refine ⟨[(zaa (decide (((l.length : Int) : Int) ≤ 12)))], ⟨rfl, trivial⟩, ⟨_, rfl, hL320.done, ?_⟩⟩
  exact ⟨rfl, trivial⟩
theorem rSmallStep_w (N : Nat) (s : Step) (s_v : Value) (s_v1 : Value) (w : World) (S : Nat → Prop) (s_h : Rs rUse (vH w S [] w) s_v s.Uses) (s_h1 : Rs (rInt .u32) (vH w S [] w) s_v1 s.Divisor.Digits) (r : Bool) (h : rSmallStep N s = some r) :
  Calls Try.prog 13 #[(zan #[s_v, (zaa s.Divisor.Negative), s_v1])] w (Ret w (fun v w' => (zaa r) = v ∧ True)) := by
 unfold rSmallStep at h
 have hL : vL w w [] [] := Go.X.Loc.begin0 w
 refine calls_of (l := [(zan #[s_v, (zaa s.Divisor.Negative), s_v1])]) (rl := [.tmp 2]) (n := 31) Try.func13 rfl rfl rfl (zae rfl) ?_
 refine zaj (zah rfl (zaf (zdc (cs := [s_v, (zaa s.Divisor.Negative), s_v1]) rfl rfl hL ?_)))
 intro b1 w2 hL3 hS5
 have K4 := ks w hS5
 refine zaf (zak (v := (zaa false)) rfl ?_)
 refine zap (zaj (zaj (zah rfl (zaf (zak (v := (zac .i64 0)) rfl ?_)))))
 refine zap ?_
 obtain ⟨s58, hl60, g59⟩ := bind_some h
 refine zbr (fun e w' => ∃  (u : Env), (Sum.inl ()) = s58 ∧ e = upds [(1, (zam (some ⟨b1, 0, none⟩)))] u ∧ vL w w' [some b1] [zab [s_v, (zaa s.Divisor.Negative), s_v1]] ∧ Keep w.heap.size [some b1] w2 [some b1] w' ∧ True) ?_ ?_
 ·
  refine zbj ?_
  refine zcg hl60 (fun (ss : Int) (e : Env) (w' : World) => match ss with | i56 => ∃ (u : Env), e = upds [(1, (zam (some ⟨b1, 0, none⟩))), (3, (zac .i64 i56))] u ∧ vL w w' [some b1] [zab [s_v, (zaa s.Divisor.Negative), s_v1]] ∧ Keep w.heap.size [some b1] w2 [some b1] w' ∧ True) ⟨_, (upds_sym ⟨rfl, rfl, trivial⟩), hL3, zbo, trivial⟩ ?_
  rintro i56 oo _ w62 ⟨u, rfl, hL63, K64, -⟩ h hd61
  rw [rSmallStep_b1] at h
  refine zaj (zaj (zah rfl (zaf (zai (v := (zac .i64 i56)) rfl ?_))))
  refine zaf (zar (q := 0) zce rfl ti23 rfl rfl rfl ?_)
  refine zaf (zbb (v := s_v) zbx rfl rfl (hL63.at 0 rfl rfl) rfl ?_)
  have f65 := ((s_h.mono (K4 S)).mono (K64 S))
  refine zaf (zbf (v := s_v) zbx rfl f65 ?_)
  refine zaf (zcr (x := i56) (y := (s.Uses.length : Int)) ((i56 : Int) < (s.Uses.length : Int)) rfl rfl zbk ?_)
  refine zap ?_
  refine zbe ((i56 : Int) < (s.Uses.length : Int)) rfl (fun hc66 => ?_) (fun hc66 => ?_)
  ·
   replace h := ite_t hc66 h
   refine zbg (zaj (zbj (zaj (zah rfl (zaf (zar (q := 0) zce rfl ti23 rfl rfl rfl ?_))))))
   refine zaf (zbb (v := s_v) zbx rfl rfl (hL63.at 0 rfl rfl) rfl ?_)
   refine zaf (zai (v := (zac .i64 i56)) rfl ?_)
   obtain ⟨x67, q68, h⟩ := bind_some h
   obtain ⟨n69, q70, q71⟩ := idx_some q68
   obtain ⟨b72, o73, c74, vs75, q76, q77, f78, q79⟩ := zcz f65 q71
   obtain ⟨v80, rfl, k81, -⟩ := rUse_open q79
   refine zaf (zbv (r := rUse) (v := s_v) (n := n69) (m := (o73 + n69 * rUse.sz)) zbx ti50 rfl q76 rfl q70 q71 rfl ?_)
   have f82 := (f78.part (us := [(zaa x67.N.Negative), v80]) 1 rfl)
   refine zaf (zar (q := (o73 + n69 * rUse.sz) + 1) zch rfl ti26 rfl rfl rfl ?_)
   have f83 := (f82.part (us := [v80]) 1 rfl)
   refine zaf (zar (q := (o73 + n69 * rUse.sz) + 1 + 1) zal rfl ti24 rfl rfl rfl ?_)
   refine zaf (zck (v := v80) zao rfl rfl vw_view f83 ?_)
   refine zaf (zbf (v := v80) zao rfl k81 ?_)
   refine zaf (zdm (x := (x67.N.Digits.length : Int)) (y := 4) (((x67.N.Digits.length : Int) : Int) > 4) rfl rfl zbk ?_)
   refine zap ?_
   refine zbe (((x67.N.Digits.length : Int) : Int) > 4) rfl (fun hc84 => ?_) (fun hc84 => ?_)
   ·
    replace h := ite_t hc84 h
    refine zaj (zah rfl (zaf (zak (v := (zaa false)) rfl ?_)))
    refine zap (zbl ?_)
    obtain rfl := zag h
    obtain rfl := hd61 _ rfl
    replace h := g59
    try dsimp only at h
    obtain rfl := zag h
    refine ⟨[(zaa false)], ⟨rfl, trivial⟩, ⟨_, rfl, hL63.done, ?_⟩⟩
    exact ⟨rfl, trivial⟩
   ·
    replace h := ite_f hc84 h
    refine zbg (zbs (zah rfl (zaf (zai (v := (zac .i64 i56)) rfl ?_))))
    refine zaf (zcd (x := i56) (y := 1) (z := (iw (i56 + 1))) rfl rfl rfl ?_)
    refine zaf (zak (v := (zac .i64 (iw (i56 + 1)))) rfl ?_)
    refine zap ?_
    obtain rfl := zag h
    refine zas ⟨(iw (i56 + 1)), rfl, ?_⟩
    exact ⟨_, (upds_sym ⟨rfl, rfl, trivial⟩), hL63, K64, trivial⟩
  ·
   replace h := ite_f hc66 h
   refine zcs rfl ?_
   obtain rfl := zag h
   obtain rfl := hd61 _ rfl
   replace h := g59
   try dsimp only at h
   skip
   refine zas ?_
   exact ⟨_, rfl, (upds_sym ⟨rfl, trivial⟩), hL63, K64, trivial⟩
 ·
  rintro _ w85 ⟨u, rfl, rfl, hL86, K87, -⟩
  replace h := g59
  try dsimp only at h
  refine zaj (zah rfl (zaf (zar (q := 0) zce rfl ti23 rfl rfl rfl ?_)))
  refine zaf (zbb (v := s_v) zbx rfl rfl (hL86.at 0 rfl rfl) rfl ?_)
  have f88 := ((s_h.mono (K4 S)).mono (K87 S))
  refine zaf (zbf (v := s_v) zbx rfl f88 ?_)
  refine zaf (OpY.leq (x := (s.Uses.length : Int)) (y := 12) (((s.Uses.length : Int) : Int) ≤ 12) rfl rfl zbk ?_)
  refine zaf (zai (v := (zaa (decide (((s.Uses.length : Int) : Int) ≤ 12)))) rfl ?_)
  by_cases hc89 : ((s.Uses.length : Int) : Int) ≤ 12
  ·
   replace h := ite_t hc89 h
   refine zbu rfl rfl (decide_eq_true hc89) (zar (q := 1) zce rfl ti26 rfl rfl rfl ?_)
   refine zbu rfl rfl (decide_eq_true hc89) (zar (q := 2) zal rfl ti24 rfl rfl rfl ?_)
   refine zbu rfl rfl (decide_eq_true hc89) (zbb (v := s_v1) zao rfl rfl (hL86.at 0 rfl rfl) rfl ?_)
   have f90 := ((s_h1.mono (K4 S)).mono (K87 S))
   refine zbu rfl rfl (decide_eq_true hc89) (zbf (v := s_v1) zao rfl f90 ?_)
   refine zbu rfl rfl (decide_eq_true hc89) (OpY.leq (x := (s.Divisor.Digits.length : Int)) (y := 4) (((s.Divisor.Digits.length : Int) : Int) ≤ 4) rfl rfl zbk ?_)
   refine zaf (zcm (t := (decide (((s.Uses.length : Int) : Int) ≤ 12))) (v := (zaa (decide (((s.Divisor.Digits.length : Int) : Int) ≤ 4)))) rfl (decide_eq_true hc89) rfl ?_)
   refine zaf (zak (v := (zaa (decide (((s.Divisor.Digits.length : Int) : Int) ≤ 4)))) rfl ?_)
   refine zap (zbl ?_)
   obtain rfl := zag h
   refine ⟨[(zaa (decide (((s.Divisor.Digits.length : Int) : Int) ≤ 4)))], ⟨rfl, trivial⟩, ⟨_, rfl, hL86.done, ?_⟩⟩
   exact ⟨rfl, trivial⟩
  ·
   replace h := ite_f hc89 h
   refine zbt rfl rfl (decide_eq_false hc89) ?_
   refine zbt rfl rfl (decide_eq_false hc89) ?_
   refine zbt rfl rfl (decide_eq_false hc89) ?_
   refine zbt rfl rfl (decide_eq_false hc89) ?_
   refine zbt rfl rfl (decide_eq_false hc89) ?_
   refine zaf (zbz (t := (decide (((s.Uses.length : Int) : Int) ≤ 12))) (v := (zaa false)) rfl (decide_eq_false hc89) rfl ?_)
   refine zaf (zak (v := (zaa false)) rfl ?_)
   refine zap (zbl ?_)
   obtain rfl := zag h
   refine ⟨[(zaa false)], ⟨rfl, trivial⟩, ⟨_, rfl, hL86.done, ?_⟩⟩
   exact ⟨rfl, trivial⟩
end Go.Proofs.Ytakkacdhlocckaa.WD

/- Walks, written by a program of mine (wip/tool); the kernel checks them. -/
import Derived.Test.YtakkacdhlocckaaProg
import Derived.Test.YtakkacdhlocckaaSqSound
import Derived.Test.YtakkacdhlocckaaPA
set_option maxRecDepth 100000
set_option maxHeartbeats 4000000
set_option linter.unusedVariables false
namespace Go.Proofs.Ytakkacdhlocckaa.WA
open Go Go.RowKit Go.X Go.D 
theorem mixed : Try.prog.follows .mixedOrders = true := by kernel_rfl
theorem ti89 : TI Try.prog 89 1 4 (zab .u32 0) := TI.mk (by kernel_rfl)
theorem en90 : Enters Try.prog 90 := ⟨Try.f90, Try.func90, by kernel_rfl, by kernel_rfl⟩
theorem ti26 : TI Try.prog 26 2 32 (zap #[(zaa false), (zad none 0 0)]) := TI.mk (by kernel_rfl)
theorem en83 : Enters Try.prog 83 := ⟨Try.f83, Try.func83, by kernel_rfl, by kernel_rfl⟩
theorem pl26 : placesT Try.prog 26 = some [(0, 1), (1, 1)] := by kernel_rfl
theorem en85 : Enters Try.prog 85 := ⟨Try.f85, Try.func85, by kernel_rfl, by kernel_rfl⟩
theorem en84 : Enters Try.prog 84 := ⟨Try.f84, Try.func84, by kernel_rfl, by kernel_rfl⟩
theorem cloneU32_w (N : Nat) (s : (List Int)) (s_v : Value) (w : World) (S : Nat → Prop) (s_h : Rs (rInt .u32) (vH w S [] w) s_v s) (r : (List Int)) (h : cloneU32 N s = some r) :
  Calls Try.prog 90 #[s_v] w (Ret w (fun v w' => ∃ (ob0 : Option Nat) (cap0 : Nat) (cs0 : List Value) (sp0 : List Value), (osv ob0 0 r.length cap0) = v ∧ NewOwn w w' [ob0] [zac ([] ++ (cs0 ++ sp0))] ∧ Els (rInt .u32) (vH w None [ob0] w') cs0 r ∧ (cs0 ++ sp0).length = cap0 * (rInt .u32).sz ∧ True)) := by
 unfold cloneU32 at h
 have hL : vL w w [] [] := Go.X.Loc.begin0 w
 refine calls_of (l := [s_v]) (rl := [.tmp 2]) (n := 8) Try.func90 rfl rfl rfl (zae rfl) ?_
 refine zaj (zah rfl (zaf (zak (v := (zad none 0 0)) rfl ?_)))
 refine zan (zaj (zaj (zah rfl (zaf (zai (v := s_v) rfl ?_)))))
 refine zaf (OpY.eqlNil (v := s_v) zal rfl s_h.isSlice rfl ?_)
 refine zan ?_
 refine zcr (isNil s_v) rfl (fun hc1 => ?_) (fun hc1 => ?_)
 ·
  have hnil := (Sl.of_isNil s_h hc1).1
  replace h : some [] = some r := by rw [hnil] at h; simpa [apnd] using h
  refine zaj (zah rfl (zaf (zak (v := (zad none 0 0)) rfl ?_)))
  refine zan ?_
  have hp2 := hL.addNil
  have hL3 : vL w w [none] [zac ([] ++ ([] ++ []))] := hp2.1
  have hE6 : Els (rInt .u32) (vH w None [none] w) [] [] := zcp
  refine zbj ?_
  obtain rfl := zag h
  refine ⟨[(osv none 0 (List.length ([] : (List Int))) 0)], ⟨rfl, trivial⟩, ⟨_, rfl, hL3.done, ?_⟩⟩
  exact ⟨none, 0, [], [], rfl, (hL3.newOwn [0] rfl rfl rfl), (hE6.mono (Hv.pick [0] rfl)), (show ([] ++ [] : List Value).length = 0 * (rInt .u32).sz by simp), trivial⟩
 ·
  refine zbf (zaj (zah rfl (zaf (OpY.litRow0 zal ti89 hL ?_))))
  intro b7 w10 hL10 hS10
  have hE10 : Els (rInt .u32) (vH w None [] w) [] [] := zcp
  have K10 := ks w hS10
  refine zaf (zai (v := s_v) rfl ?_)
  obtain ⟨x10, q10, h⟩ := zdo h
  obtain ⟨q11, q12, q13⟩ := zeb q10
  have f10 := (s_h.mono (K10 S))
  obtain ⟨ds10, q14, q15⟩ := Rs.src f10
  have f11 := (hE10.mono (K10 None))
  refine zaf (zdk (r := (rInt .u32)) (H := (vH w None [some b7] w10)) (cs := []) (sp := []) (xs := ([] : (List Int))) (ys := s) (Y := x10) (n := (List.length ([] : (List Int)))) (cap := 0) (i := 0) zal ti89 rfl rfl rfl rfl hL10 rfl rfl f11 rfl (show ([] ++ [] : List Value).length = 0 * (rInt .u32).sz by simp) q14 (Els.anyH (fun _ _ _ _ h => h) q15) q11 q12 q13 ?_)
  intro ob10 cap10 sp10 cs10 w11 hE11 hc10 (hL11 : vL w w11 [ob10] [zac ([] ++ (cs10 ++ sp10))]) hS11
  have K11 := ks w hS11
  refine zaf (zak (v := (osv ob10 0 x10.length cap10)) rfl ?_)
  refine zan (zbj ?_)
  obtain rfl := zag h
  refine ⟨[(osv ob10 0 x10.length cap10)], ⟨rfl, trivial⟩, ⟨_, rfl, hL11.done, ?_⟩⟩
  have f12 := (hE11.mono (K11 None))
  exact ⟨ob10, cap10, cs10, sp10, rfl, (hL11.newOwn [0] rfl rfl rfl), (f12.mono (Hv.pick [0] rfl)), hc10, trivial⟩
theorem digit_w (N : Nat) (d : (List Int)) (i : Int) (d_v : Value) (w : World) (S : Nat → Prop) (d_h : Rs (rInt .u32) (vH w S [] w) d_v d) (r : Int) (h : digit N d i = some r) :
  Calls Try.prog 84 #[d_v, (zab .i64 i)] w (Ret w (fun v w' => (zab .u64 r) = v ∧ True)) := by
 unfold digit at h
 have hL : vL w w [] [] := Go.X.Loc.begin0 w
 refine calls_of (l := [d_v, (zab .i64 i)]) (rl := [.tmp 4]) (n := 14) Try.func84 rfl rfl rfl (zae rfl) ?_
 refine zaj (zah rfl (zaf (zak (v := (zab .u64 0)) rfl ?_)))
 refine zan (zaj (zaj (zah rfl (zaf (zai (v := (zab .i64 i)) rfl ?_)))))
 refine zaf (zai (v := d_v) rfl ?_)
 refine zaf (zbd (v := d_v) zal rfl d_h ?_)
 refine zaf (zcj (x := i) (y := (d.length : Int)) ((i : Int) < (d.length : Int)) rfl rfl zbk ?_)
 refine zan ?_
 refine zbe ((i : Int) < (d.length : Int)) rfl (fun hc1 => ?_) (fun hc1 => ?_)
 ·
  replace h := ite_t hc1 h
  refine zaj (zah rfl (zaf (zai (v := d_v) rfl ?_)))
  refine zaf (zai (v := (zab .i64 i)) rfl ?_)
  obtain ⟨x2, q3, h⟩ := zdo h
  obtain ⟨n4, q5, q6⟩ := zdu q3
  obtain ⟨b7, o8, c9, vs10, q10, q11, f10, q12⟩ := zcw d_h q6
  obtain rfl := q12
  refine zaf (zbw (r := (rInt .u32)) (v := d_v) (n := n4) (m := (o8 + n4 * (rInt .u32).sz)) zal ti89 rfl q10 rfl q5 q6 rfl ?_)
  refine zaf (zck (v := (zab .u32 x2)) zat rfl rfl zdy f10 ?_)
  refine zaf (zbp (x := x2) (z := (uw x2)) zat zbc rfl rfl ?_)
  refine zaf (zak (v := (zab .u64 (uw x2))) rfl ?_)
  refine zan (zbj ?_)
  obtain rfl := zag h
  refine ⟨[(zab .u64 (uw x2))], ⟨rfl, trivial⟩, ⟨_, rfl, hL.done, ?_⟩⟩
  exact ⟨rfl, trivial⟩
 ·
  replace h := ite_f hc1 h
  refine zbf (zaj (zah rfl (zaf (zak (v := (zab .u64 0)) rfl ?_))))
  refine zan (zbj ?_)
  obtain rfl := zag h
  refine ⟨[(zab .u64 0)], ⟨rfl, trivial⟩, ⟨_, rfl, hL.done, ?_⟩⟩
  exact ⟨rfl, trivial⟩
theorem bsign_w (N : Nat) (n : Int)  (w : World) (S : Nat → Prop)  (r : Int) (h : bsign N n = some r) :
  Calls Try.prog 85 #[(zab .i64 n)] w (Ret w (fun v w' => (zab .i64 r) = v ∧ True)) := by
 unfold bsign at h
 have hL : vL w w [] [] := Go.X.Loc.begin0 w
 refine calls_of (l := [(zab .i64 n)]) (rl := [.tmp 2]) (n := 6) Try.func85 rfl rfl rfl (zae rfl) ?_
 refine zaj (zah rfl (zaf (zak (v := (zab .i64 0)) rfl ?_)))
 refine zan (zaj (zah rfl (zaf (zai (v := (zab .i64 n)) rfl ?_))))
 refine zaf (OpY.max (x := n) (y := (-1)) rfl rfl ?_)
 refine zaf (OpY.min (x := (imax n (-1))) (y := 1) rfl rfl ?_)
 refine zaf (zak (v := (zab .i64 (imin (imax n (-1)) 1))) rfl ?_)
 refine zan (zbj ?_)
 obtain rfl := zag h
 refine ⟨[(zab .i64 (imin (imax n (-1)) 1))], ⟨rfl, trivial⟩, ⟨_, rfl, hL.done, ?_⟩⟩
 exact ⟨rfl, trivial⟩
theorem btrim_w (N : Nat) (d : (List Int)) (d_v : Value) (w : World) (S : Nat → Prop) (d_h : Rs (rInt .u32) (vH w S [] w) d_v d) (r : (List Int)) (h : btrim N d = some r) :
  Calls Try.prog 83 #[d_v] w (Ret w (fun v w' => ∃ (ob0 : Option Nat) (cap0 : Nat) (cs0 : List Value) (sp0 : List Value), (osv ob0 0 r.length cap0) = v ∧ NewOwn w w' [ob0] [zac ([] ++ (cs0 ++ sp0))] ∧ Els (rInt .u32) (vH w None [ob0] w') cs0 r ∧ (cs0 ++ sp0).length = cap0 * (rInt .u32).sz ∧ True)) := by
 unfold btrim at h
 have hL : vL w w [] [] := Go.X.Loc.begin0 w
 refine calls_of (l := [d_v]) (rl := [.tmp 2]) (n := 22) Try.func83 rfl rfl rfl (zae rfl) ?_
 refine zaj (zah rfl (zaf (zak (v := (zad none 0 0)) rfl ?_)))
 refine zan (zaj (zah rfl (zaf (zai (v := d_v) rfl ?_))))
 refine zaf (zbd (v := d_v) zal rfl d_h ?_)
 refine zaf (zak (v := (zab .i64 (d.length : Int))) rfl ?_)
 refine zan (zaj ?_)
 obtain ⟨s10, hl10, g10⟩ := zdo h
 refine zbr (fun e w' => ∃ (n10 : Int) (u : Env), n10 = s10 ∧ e = upds [(0, d_v), (3, (zab .i64 n10))] u ∧ vL w w' [] [] ∧ Keep w.heap.size [] w [] w' ∧ True) ?_ ?_
 ·
  refine zbh ?_
  refine zce hl10 (fun (ss : Int) (e : Env) (w' : World) => match ss with | n11 => ∃ (u : Env), e = upds [(0, d_v), (3, (zab .i64 n11))] u ∧ vL w w' [] [] ∧ Keep w.heap.size [] w [] w' ∧ True) ⟨_, (zdt ⟨rfl, rfl, trivial⟩), hL, zbo, trivial⟩ ?_
  rintro n11 oo _ w10 ⟨u, rfl, hL10, K10, -⟩ h hd10
  rw [btrim_b1] at h
  refine zaj (zaj ?_)
  obtain ⟨s11, h, g11⟩ := zdo h
  refine zbr (fun e w' => ∃ (x10 : Bool) (u : Env), x10 = s11 ∧ e = upds [(0, d_v), (3, (zab .i64 n11)), (15, (zaa x10))] u ∧ vL w w' [] [] ∧ Keep w.heap.size [] w10 [] w' ∧ True) ?_ ?_
  ·
   refine zah rfl (zaf (zai (v := (zab .i64 n11)) rfl ?_))
   refine zaf (zdm (x := n11) (y := 0) ((n11 : Int) > 0) rfl rfl zbk ?_)
   refine zaf (zai (v := (zaa (decide ((n11 : Int) > 0)))) rfl ?_)
   by_cases hc10 : (n11 : Int) > 0
   ·
    replace h := ite_t hc10 h
    refine zbu rfl rfl (zdr hc10) (zai (v := d_v) rfl ?_)
    refine zbu rfl rfl (zdr hc10) (zai (v := (zab .i64 n11)) rfl ?_)
    refine zbu rfl rfl (zdr hc10) (zdb (x := n11) (y := 1) (z := (iw (n11 - 1))) rfl rfl rfl ?_)
    obtain ⟨x11, q10, h⟩ := zdo h
    obtain ⟨n12, q11, q12⟩ := zdu q10
    have f10 := (d_h.mono (K10 S))
    obtain ⟨b10, o10, c10, vs10, q13, q14, f11, q15⟩ := zcw f10 q12
    obtain rfl := q15
    refine zbu rfl rfl (zdr hc10) (zbw (r := (rInt .u32)) (v := d_v) (n := n12) (m := (o10 + n12 * (rInt .u32).sz)) zal ti89 rfl q13 rfl q11 q12 rfl ?_)
    refine zbu rfl rfl (zdr hc10) (zck (v := (zab .u32 x11)) zat rfl rfl zdy f11 ?_)
    refine zbu rfl rfl (zdr hc10) (OpY.eql (x := x11) (y := 0) ((x11 : Int) = 0) rfl rfl zbk ?_)
    refine zaf (zci (t := (decide ((n11 : Int) > 0))) (v := (zaa (decide ((x11 : Int) = 0)))) rfl (zdr hc10) rfl ?_)
    refine zan ?_
    obtain rfl := zag h
    refine zar ?_
    exact ⟨(decide ((x11 : Int) = 0)), _, rfl, (zdt ⟨rfl, rfl, rfl, trivial⟩), hL10, zbo, trivial⟩
   ·
    replace h := ite_f hc10 h
    refine zbq rfl rfl (zdq hc10) ?_
    refine zbq rfl rfl (zdq hc10) ?_
    refine zbq rfl rfl (zdq hc10) ?_
    refine zbq rfl rfl (zdq hc10) ?_
    refine zbq rfl rfl (zdq hc10) ?_
    refine zbq rfl rfl (zdq hc10) ?_
    refine zaf (zbx (t := (decide ((n11 : Int) > 0))) (v := (zaa false)) rfl (zdq hc10) rfl ?_)
    refine zan ?_
    obtain rfl := zag h
    refine zar ?_
    exact ⟨false, _, rfl, (zdt ⟨rfl, rfl, rfl, trivial⟩), hL10, zbo, trivial⟩
  ·
   rintro _ w11 ⟨x10, u, rfl, rfl, hL11, K11, -⟩
   replace h := g11
   try dsimp only at h
   refine zcr x10 rfl (fun hc11 => ?_) (fun hc11 => ?_)
   ·
    replace h := ite_t hc11 h
    refine zbf (zbh (zah rfl (zaf (zai (v := (zab .i64 n11)) rfl ?_))))
    refine zaf (zdb (x := n11) (y := 1) (z := (iw (n11 - 1))) rfl rfl rfl ?_)
    refine zaf (zak (v := (zab .i64 (iw (n11 - 1)))) rfl ?_)
    refine zan (zbt ?_)
    obtain rfl := zag h
    refine zar ⟨(iw (n11 - 1)), rfl, ?_⟩
    exact ⟨_, (zdt ⟨rfl, rfl, trivial⟩), hL11, (zaq K10 K11), trivial⟩
   ·
    replace h := ite_f hc11 h
    refine zcm rfl ?_
    obtain rfl := zag h
    obtain rfl := hd10 _ rfl
    replace h := g10
    try dsimp only at h
    skip
    refine zar ?_
    exact ⟨n11, _, rfl, (zdt ⟨rfl, rfl, trivial⟩), hL11, (zaq K10 K11), trivial⟩
 ·
  rintro _ w12 ⟨n10, u, rfl, rfl, hL12, K12, -⟩
  replace h := g10
  try dsimp only at h
  refine zaj (zah rfl (zaf (zai (v := d_v) rfl ?_)))
  refine zaf (zai (v := (zab .i64 n10)) rfl ?_)
  obtain ⟨x12, q16, h⟩ := zdo h
  obtain ⟨m10, n13, q17, q18, q19, q20, q21⟩ := cut_some q16
  have f12 := (d_h.mono (K12 S))
  refine zaf (OpY.cutRoX (l := m10) (h' := n13) zal ti89 rfl f12 (.inl ⟨rfl, by omega⟩) (.inr ⟨_, _, rfl, by rw [← q18]; rfl⟩) q19 q20 q21 ?_)
  intro v10 k10
  obtain ⟨r10, q22, h⟩ := zdo h
  refine zaf (zaw en90 rfl rfl (cloneU32_w N x12 v10 _ Any (k10.mono vw_any) r10 q22) ?_)
  rintro _ w13 hE10 ⟨ob10, cap10, cs10, sp10, rfl, hN10, hE11, hc12, -⟩
  replace hE11 := hE11.mono (zba (S := None) hL12 [ob10])
  have hp10 := hL12.adoptL hE10 hN10
  have hL13 := hp10.1
  refine zaf (zak (v := (osv ob10 0 r10.length cap10)) rfl ?_)
  refine zan (zbj ?_)
  obtain rfl := zag h
  refine ⟨[(osv ob10 0 r10.length cap10)], ⟨rfl, trivial⟩, ⟨_, rfl, hL13.done, ?_⟩⟩
  exact ⟨ob10, cap10, cs10, sp10, rfl, (hL13.newOwn [0] rfl rfl rfl), (hE11.mono (Hv.pick [0] rfl)), hc12, trivial⟩
theorem bnormal_w (N : Nat) (negative : Bool) (d : (List Int)) (d_v : Value) (w : World) (S : Nat → Prop) (d_h : Rs (rInt .u32) (vH w S [] w) d_v d) (r : Big) (h : bnormal N negative d = some r) :
  Calls Try.prog 73 #[(zaa negative), d_v] w (Ret w (fun v w' => ∃ (v0_0 : Value), (zap #[(zaa r.Negative), v0_0]) = v ∧ Rs (rInt .u32) (vH w None [] w') v0_0 r.Digits ∧ True)) := by
 unfold bnormal at h
 have hL : vL w w [] [] := Go.X.Loc.begin0 w
 refine calls_of (l := [(zaa negative), d_v]) (rl := [.cell 4 26]) (n := 14) Try.func73 rfl rfl rfl (zae rfl) ?_
 refine zaj (zah rfl (zaf (zca (cs := [(zaa false), (zad none 0 0)]) ti26 rfl hL ?_)))
 intro b1 w2 hL3 hS5
 have K4 := ks w hS5
 refine zan (zaj (zah rfl (zaf (zai (v := d_v) rfl ?_))))
 obtain ⟨r6, q7, h⟩ := zdo h
 have f10 := (d_h.mono (K4 S))
 refine zaf (zaw en83 rfl rfl (btrim_w N d d_v _ Any (f10.mono vw_any) r6 q7) ?_)
 rintro _ w10 hE10 ⟨ob8, cap9, cs10, sp10, rfl, hN10, hE11, hc10, -⟩
 replace hE11 := hE11.mono (zba (S := None) hL3 [ob8])
 have hp10 := hL3.adoptL hE10 hN10
 have hL10 := hp10.1
 refine zaf (zak (v := (osv ob8 0 r6.length cap9)) rfl ?_)
 refine zan (zaj (zaj (zah rfl (zaf (zai (v := (osv ob8 0 r6.length cap9)) rfl ?_)))))
 refine zaf (OpY.lenRow (pre := []) (r := (rInt .u32)) (xs := r6) zal rfl (hL10.at 0 rfl rfl) hE11 rfl rfl ?_)
 refine zaf (OpY.eql (x := (r6.length : Int)) (y := 0) (((r6.length : Int) : Int) = 0) rfl rfl zbk ?_)
 refine zan ?_
 refine zbe (((r6.length : Int) : Int) = 0) rfl (fun hc11 => ?_) (fun hc11 => ?_)
 ·
  replace h := ite_t hc11 h
  refine zaj (zah rfl (zaf (zcy (zc := [(zaa false), (zad none 0 0)]) (cs := [(zaa false), (zad none 0 0)]) (is := []) (vs := []) (css := []) pl26 ti26 rfl rfl rfl trivial rfl ?_)))
  refine zcc (zbn (vs := [(zaa false), (zad none 0 0)]) ti26 rfl rfl rfl rfl (zds rfl (zds rfl zdw)) hL10 1 rfl rfl (zae rfl) ?_)
  intro w11 (hL11 : vL w w11 [ob8, some b1] [zac ([] ++ (cs10 ++ sp10)), zac [(zaa false), (zad none 0 0)]]) hS10
  refine zan (zbj ?_)
  obtain rfl := zag h
  refine ⟨[(zap #[(zaa false), (zad none 0 0)])], ⟨⟨⟨b1, 0, none⟩, rfl, zdz zam rfl ti26 (hL11.at 1 rfl rfl) rfl⟩, trivial⟩, ⟨_, rfl, hL11.done, ?_⟩⟩
  exact ⟨(zad none 0 0), rfl, zdn, trivial⟩
 ·
  replace h := ite_f hc11 h
  refine zbf (zaj (zah rfl (zaf (zai (v := (zaa negative)) rfl ?_))))
  refine zaf (zai (v := (osv ob8 0 r6.length cap9)) rfl ?_)
  refine zaf (zcy (zc := [(zaa false), (zad none 0 0)]) (cs := [(zaa negative), (osv ob8 0 r6.length cap9)]) (is := [0, 1]) (vs := [(zaa negative), (osv ob8 0 r6.length cap9)]) (css := [[(zaa negative)], [(osv ob8 0 r6.length cap9)]]) pl26 ti26 rfl rfl rfl ⟨rfl, ⟨(zec (zea _ _ _ _)), trivial⟩⟩ rfl ?_)
  refine zcc (zbn (vs := [(zaa negative), (osv ob8 0 r6.length cap9)]) ti26 rfl rfl rfl rfl (zds rfl (zds (zea _ _ _ _) zdw)) hL10 1 rfl rfl (zae rfl) ?_)
  intro w12 (hL12 : vL w w12 [ob8, some b1] [zac ([] ++ (cs10 ++ sp10)), zac [(zaa negative), (osv ob8 0 r6.length cap9)]]) hS11
  have K10 := ks w hS11
  refine zan ?_
  have f11 := (hE11.mono (K10 None))
  have f12 := hL12.freezeRow 0 rfl rfl f11 rfl rfl rfl hc10
  have hp11 := hL12.pick [1] rfl rfl rfl
  have hL13 : vL w w12 [some b1] [zac [(zaa negative), (osv ob8 0 r6.length cap9)]] := hp11.1
  refine zbj ?_
  obtain rfl := zag h
  refine ⟨[(zap #[(zaa negative), (osv ob8 0 r6.length cap9)])], ⟨⟨⟨b1, 0, none⟩, rfl, zdz zam rfl ti26 (hL13.at 0 rfl rfl) rfl⟩, trivial⟩, ⟨_, rfl, hL13.done, ?_⟩⟩
  exact ⟨(osv ob8 0 r6.length cap9), rfl, (f12.mono zdi), trivial⟩
theorem bcompare_w (N : Nat) (a : (List Int)) (b : (List Int)) (a_v : Value) (b_v : Value) (w : World) (S : Nat → Prop) (a_h : Rs (rInt .u32) (vH w S [] w) a_v a) (b_h : Rs (rInt .u32) (vH w S [] w) b_v b) (r : Int) (h : bcompare N a b = some r) :
  Calls Try.prog 75 #[a_v, b_v] w (Ret w (fun v w' => (zab .i64 r) = v ∧ True)) := by
 unfold bcompare at h
 have hL : vL w w [] [] := Go.X.Loc.begin0 w
 refine calls_of (l := [a_v, b_v]) (rl := [.tmp 4]) (n := 42) Try.func75 rfl rfl rfl (zae rfl) ?_
 refine zaj (zah rfl (zaf (zak (v := (zab .i64 0)) rfl ?_)))
 refine zan (zaj (zaj (zah rfl (zaf (zai (v := a_v) rfl ?_)))))
 refine zaf (zbd (v := a_v) zal rfl a_h ?_)
 refine zaf (zai (v := b_v) rfl ?_)
 refine zaf (zbd (v := b_v) zal rfl b_h ?_)
 refine zaf (OpY.neq (x := (a.length : Int)) (y := (b.length : Int)) (((a.length : Int) : Int) ≠ (b.length : Int)) rfl rfl zbk ?_)
 refine zan ?_
 refine zbe (((a.length : Int) : Int) ≠ (b.length : Int)) rfl (fun hc1 => ?_) (fun hc1 => ?_)
 ·
  replace h := ite_t hc1 h
  refine zaj (zah rfl (zaf (zai (v := a_v) rfl ?_)))
  refine zaf (zbd (v := a_v) zal rfl a_h ?_)
  refine zaf (zai (v := b_v) rfl ?_)
  refine zaf (zbd (v := b_v) zal rfl b_h ?_)
  refine zaf (zdb (x := (a.length : Int)) (y := (b.length : Int)) (z := (iw ((a.length : Int) - (b.length : Int)))) rfl rfl rfl ?_)
  obtain ⟨r2, q3, h⟩ := zdo h
  refine zaf (zaw en85 rfl rfl (bsign_w N (iw ((a.length : Int) - (b.length : Int))) _ Any r2 q3) ?_)
  rintro _ w5 hE8 ⟨rfl, -⟩
  have hL6 := hL.ext hE8
  refine zaf (zak (v := (zab .i64 r2)) rfl ?_)
  refine zan (zbj ?_)
  obtain rfl := zag h
  refine ⟨[(zab .i64 r2)], ⟨rfl, trivial⟩, ⟨_, rfl, hL6.done, ?_⟩⟩
  exact ⟨rfl, trivial⟩
 ·
  replace h := ite_f hc1 h
  refine zbf (zaj (zaj (zah rfl (zaf (zai (v := a_v) rfl ?_)))))
  refine zaf (zbd (v := a_v) zal rfl a_h ?_)
  refine zaf (zdb (x := (a.length : Int)) (y := 1) (z := (iw ((a.length : Int) - 1))) rfl rfl rfl ?_)
  refine zaf (zak (v := (zab .i64 (iw ((a.length : Int) - 1)))) rfl ?_)
  refine zan ?_
  obtain ⟨s10, hl10, g10⟩ := zdo h
  refine zbr (fun e w' => ∃  (u : Env), (Sum.inl ()) = s10 ∧ e = upds [] u ∧ vL w w' [] [] ∧ Keep w.heap.size [] w [] w' ∧ True) ?_ ?_
  ·
   refine zbh ?_
   refine zce hl10 (fun (ss : Int) (e : Env) (w' : World) => match ss with | i10 => ∃ (u : Env), e = upds [(0, a_v), (1, b_v), (5, (zab .i64 i10))] u ∧ vL w w' [] [] ∧ Keep w.heap.size [] w [] w' ∧ True) ⟨_, (zdt ⟨rfl, rfl, rfl, trivial⟩), hL, zbo, trivial⟩ ?_
   rintro i10 oo _ w10 ⟨u, rfl, hL10, K10, -⟩ h hd10
   rw [bcompare_b1] at h
   refine zaj (zaj (zah rfl (zaf (zai (v := (zab .i64 i10)) rfl ?_))))
   refine zaf (OpY.geq (x := i10) (y := 0) ((i10 : Int) ≥ 0) rfl rfl zbk ?_)
   refine zan ?_
   refine zbe ((i10 : Int) ≥ 0) rfl (fun hc10 => ?_) (fun hc10 => ?_)
   ·
    replace h := ite_t hc10 h
    refine zbf (zaj (zbh (zaj (zaj ?_))))
    obtain ⟨x10, q10, h⟩ := zdo h
    obtain ⟨n10, q11, q12⟩ := zdu q10
    have f10 := (a_h.mono (K10 S))
    obtain ⟨b10, o10, c10, vs10, q13, q14, f11, q15⟩ := zcw f10 q12
    obtain rfl := q15
    obtain ⟨x11, q16, h⟩ := zdo h
    obtain ⟨n11, q17, q18⟩ := zdu q16
    have f12 := (b_h.mono (K10 S))
    obtain ⟨b11, o11, c11, vs11, q19, q20, f13, q21⟩ := zcw f12 q18
    obtain rfl := q21
    refine zcf 8 [] [] (fun W1 => [.det a_v, .det (zab .i64 i10), .det (zao (some ⟨b10, (o10 + n10 * (rInt .u32).sz), none⟩)), .det (zab .u32 x10), .det b_v, .det (zab .i64 i10), .det (zao (some ⟨b11, (o11 + n11 * (rInt .u32).sz), none⟩)), .det (zab .u32 x11)]) mixed rfl rfl rfl (fun _ => rfl) (fun _ => rfl) ?_ ?_
    ·
     intro W1 _
     exact trivial
    ·
     intro w11 hE10
     have hL11 := hL10.ext hE10
     have K11 := ke hL10 hE10
     refine zau (fun _ _ => zav (zai rfl (er rfl))) ?_
     refine zau (fun _ _ => zav (zai rfl (er rfl))) ?_
     refine zau (fun _ _ => zav (zbw (r := (rInt .u32)) (v := a_v) (n := n10) (m := (o10 + n10 * (rInt .u32).sz)) zal ti89 rfl q13 rfl q11 q12 rfl (er rfl))) ?_
     refine zau (fun _ hE14 => zav (zck zat rfl rfl zdy (zcz ((ke hL11 hE14) S) (zcz (K11 S) f11)) (er rfl))) ?_
     refine zau (fun _ _ => zav (zai rfl (er rfl))) ?_
     refine zau (fun _ _ => zav (zai rfl (er rfl))) ?_
     refine zau (fun _ _ => zav (zbw (r := (rInt .u32)) (v := b_v) (n := n11) (m := (o11 + n11 * (rInt .u32).sz)) zal ti89 rfl q19 rfl q17 q18 rfl (er rfl))) ?_
     refine zau (fun _ hE18 => zav (zck zat rfl rfl zdy (zcz ((ke hL11 hE18) S) (zcz (K11 S) f13)) (er rfl))) ?_
     refine zco ?_
     rintro w20 Z18 hE19 hZ18 ⟨-⟩ ap10
     have hB10 : ∀ b, some b ∈ ([] : List (Option Nat)) → w11.heap.size ≤ b ∧ ¬ Z18 b := by
      intro b hb; cases hb
     have hL12 := hL11.ext hE19
     have K14 := ke hL11 hE19
     refine zaf (zcj (x := x10) (y := x11) ((x10 : Int) < x11) rfl rfl zbk ?_)
     refine zan ?_
     refine zbe ((x10 : Int) < x11) rfl (fun hc11 => ?_) (fun hc11 => ?_)
     ·
      replace h := ite_t hc11 h
      refine zaj (zah rfl (zaf (zak (v := (zab .i64 (-1))) rfl ?_)))
      refine zan (zbj ?_)
      obtain rfl := zag h
      obtain rfl := hd10 _ rfl
      replace h := g10
      try dsimp only at h
      obtain rfl := zag h
      refine ⟨[(zab .i64 (-1))], ⟨rfl, trivial⟩, ⟨_, rfl, hL12.done, ?_⟩⟩
      exact ⟨rfl, trivial⟩
     ·
      replace h := ite_f hc11 h
      refine zbf (zaj ?_)
      obtain ⟨x12, q22, h⟩ := zdo h
      obtain ⟨n12, q23, q24⟩ := zdu q22
      have f14 := ((f10.mono (K11 S)).mono (K14 S))
      obtain ⟨b12, o12, c12, vs12, q25, q26, f15, q27⟩ := zcw f14 q24
      obtain rfl := q27
      obtain ⟨x13, q28, h⟩ := zdo h
      obtain ⟨n13, q29, q30⟩ := zdu q28
      have f16 := ((f12.mono (K11 S)).mono (K14 S))
      obtain ⟨b13, o13, c13, vs13, q31, q32, f17, q33⟩ := zcw f16 q30
      obtain rfl := q33
      refine zcf 8 [] [] (fun W1 => [.det a_v, .det (zab .i64 i10), .det (zao (some ⟨b12, (o12 + n12 * (rInt .u32).sz), none⟩)), .det (zab .u32 x12), .det b_v, .det (zab .i64 i10), .det (zao (some ⟨b13, (o13 + n13 * (rInt .u32).sz), none⟩)), .det (zab .u32 x13)]) mixed rfl rfl rfl (fun _ => rfl) (fun _ => rfl) ?_ ?_
      ·
       intro W1 _
       exact trivial
      ·
       intro w21 hE20
       have hL13 := hL12.ext hE20
       have K15 := ke hL12 hE20
       refine zau (fun _ _ => zav (zai rfl (er rfl))) ?_
       refine zau (fun _ _ => zav (zai rfl (er rfl))) ?_
       refine zau (fun _ _ => zav (zbw (r := (rInt .u32)) (v := a_v) (n := n12) (m := (o12 + n12 * (rInt .u32).sz)) zal ti89 rfl q25 rfl q23 q24 rfl (er rfl))) ?_
       refine zau (fun _ hE24 => zav (zck zat rfl rfl zdy (zcz ((ke hL13 hE24) S) (zcz (K15 S) f15)) (er rfl))) ?_
       refine zau (fun _ _ => zav (zai rfl (er rfl))) ?_
       refine zau (fun _ _ => zav (zai rfl (er rfl))) ?_
       refine zau (fun _ _ => zav (zbw (r := (rInt .u32)) (v := b_v) (n := n13) (m := (o13 + n13 * (rInt .u32).sz)) zal ti89 rfl q31 rfl q29 q30 rfl (er rfl))) ?_
       refine zau (fun _ hE28 => zav (zck zat rfl rfl zdy (zcz ((ke hL13 hE28) S) (zcz (K15 S) f17)) (er rfl))) ?_
       refine zco ?_
       rintro w30 Z27 hE29 hZ27 ⟨-⟩ ap11
       have hB11 : ∀ b, some b ∈ ([] : List (Option Nat)) → w21.heap.size ≤ b ∧ ¬ Z27 b := by
        intro b hb; cases hb
       have hL14 := hL13.ext hE29
       have K18 := ke hL13 hE29
       refine zaf (zdm (x := x12) (y := x13) ((x12 : Int) > x13) rfl rfl zbk ?_)
       refine zan ?_
       refine zbe ((x12 : Int) > x13) rfl (fun hc12 => ?_) (fun hc12 => ?_)
       ·
        replace h := ite_t hc12 h
        refine zaj (zah rfl (zaf (zak (v := (zab .i64 1)) rfl ?_)))
        refine zan (zbj ?_)
        obtain rfl := zag h
        obtain rfl := hd10 _ rfl
        replace h := g10
        try dsimp only at h
        obtain rfl := zag h
        refine ⟨[(zab .i64 1)], ⟨rfl, trivial⟩, ⟨_, rfl, hL14.done, ?_⟩⟩
        exact ⟨rfl, trivial⟩
       ·
        replace h := ite_f hc12 h
        refine zbf (zbt (zah rfl (zaf (zai (v := (zab .i64 i10)) rfl ?_))))
        refine zaf (zdb (x := i10) (y := 1) (z := (iw (i10 - 1))) rfl rfl rfl ?_)
        refine zaf (zak (v := (zab .i64 (iw (i10 - 1)))) rfl ?_)
        refine zan ?_
        obtain rfl := zag h
        refine zar ⟨(iw (i10 - 1)), rfl, ?_⟩
        exact ⟨_, (zdt ⟨rfl, rfl, rfl, trivial⟩), hL14, (zaq (zaq (zaq (zaq K10 K11) K14) K15) K18), trivial⟩
   ·
    replace h := ite_f hc10 h
    refine zcm rfl ?_
    obtain rfl := zag h
    obtain rfl := hd10 _ rfl
    replace h := g10
    try dsimp only at h
    skip
    refine zar ?_
    exact ⟨_, rfl, (zdt trivial), hL10, K10, trivial⟩
  ·
   rintro _ w31 ⟨u, rfl, rfl, hL15, K19, -⟩
   replace h := g10
   try dsimp only at h
   refine zaj (zah rfl (zaf (zak (v := (zab .i64 0)) rfl ?_)))
   refine zan (zbj ?_)
   obtain rfl := zag h
   refine ⟨[(zab .i64 0)], ⟨rfl, trivial⟩, ⟨_, rfl, hL15.done, ?_⟩⟩
   exact ⟨rfl, trivial⟩
theorem bplus_w (N : Nat) (a : (List Int)) (b : (List Int)) (a_v : Value) (b_v : Value) (w : World) (S : Nat → Prop) (a_h : Rs (rInt .u32) (vH w S [] w) a_v a) (b_h : Rs (rInt .u32) (vH w S [] w) b_v b) (r : (List Int)) (h : bplus N a b = some r) :
  Calls Try.prog 74 #[a_v, b_v] w (Ret w (fun v w' => ∃ (ob0 : Option Nat) (cap0 : Nat) (cs0 : List Value) (sp0 : List Value), (osv ob0 0 r.length cap0) = v ∧ NewOwn w w' [ob0] [zac ([] ++ (cs0 ++ sp0))] ∧ Els (rInt .u32) (vH w None [ob0] w') cs0 r ∧ (cs0 ++ sp0).length = cap0 * (rInt .u32).sz ∧ True)) := by
 unfold bplus at h
 have hL : vL w w [] [] := Go.X.Loc.begin0 w
 refine calls_of (l := [a_v, b_v]) (rl := [.tmp 4]) (n := 38) Try.func74 rfl rfl rfl (zae rfl) ?_
 refine zaj (zah rfl (zaf (zak (v := (zad none 0 0)) rfl ?_)))
 refine zan (zaj (zah rfl (zaf (zai (v := a_v) rfl ?_))))
 refine zaf (zbd (v := a_v) zal rfl a_h ?_)
 refine zaf (zai (v := b_v) rfl ?_)
 refine zaf (zbd (v := b_v) zal rfl b_h ?_)
 refine zaf (OpY.max (x := (a.length : Int)) (y := (b.length : Int)) rfl rfl ?_)
 refine zaf (zby (x := (imax (a.length : Int) (b.length : Int))) (y := 1) (z := (iw ((imax (a.length : Int) (b.length : Int)) + 1))) rfl rfl rfl ?_)
 obtain ⟨x2, q3, h⟩ := zdo h
 obtain ⟨m1, q4, q5, q6, q7⟩ := mk1_some q3
 refine zaf (OpY.mkRowX (r := (rInt .u32)) (H := (vH w None [] w)) (zc := [(zab .u32 0)]) (x := 0) zal ti89 rfl rfl rfl rfl q4 q5 q6 q7 hL ?_)
 intro b8 w10 cs9 hE10 hc10 hL10 hS10
 have K10 := ks w hS10
 refine zaf (zak (v := (osv (some b8) 0 x2.length m1)) rfl ?_)
 refine zan (zaj (zah rfl (zaf (zak (v := (zab .u64 0)) rfl ?_))))
 refine zan (zaj (zaj (zah rfl (zaf (zai (v := (osv (some b8) 0 x2.length m1)) rfl ?_)))))
 have f10 := (hE10.mono (K10 None))
 refine zaf (OpY.lenRow (pre := []) (r := (rInt .u32)) (xs := x2) zal rfl (hL10.at 0 rfl rfl) f10 rfl rfl ?_)
 refine zaf (zai (v := (zab .i64 0)) rfl ?_)
 refine zan ?_
 obtain ⟨s10, hl10, g10⟩ := zdo h
 refine zbr (fun e w' => ∃ (out10 : (List Int)) (cs10 : List Value) (u : Env), out10 = s10 ∧ e = upds [(5, (osv (some b8) 0 x2.length m1))] u ∧ vL w w' [some b8] [zac ([] ++ (cs10 ++ []))] ∧ Keep w.heap.size [some b8] w10 [some b8] w' ∧ Els (rInt .u32) (vH w None [some b8] w') cs10 out10 ∧ x2.length = List.length out10 ∧ (cs10 ++ []).length = m1 * (rInt .u32).sz ∧ True) ?_ ?_
 ·
  refine zbh ?_
  refine zce hl10 (fun (ss : ((List Int) × Int × Int)) (e : Env) (w' : World) => match ss with | (out11, carry10, x10) => ∃ (cs11 : List Value) (u : Env), e = upds [(0, a_v), (1, b_v), (5, (osv (some b8) 0 x2.length m1)), (6, (zab .u64 carry10)), (16, (zab .i64 (x2.length : Int))), (17, (zab .i64 x10))] u ∧ vL w w' [some b8] [zac ([] ++ (cs11 ++ []))] ∧ Keep w.heap.size [some b8] w10 [some b8] w' ∧ Els (rInt .u32) (vH w None [some b8] w') cs11 out11 ∧ x2.length = List.length out11 ∧ (cs11 ++ []).length = m1 * (rInt .u32).sz ∧ True) ⟨cs9, _, (zdt ⟨rfl, rfl, rfl, rfl, rfl, rfl, trivial⟩), hL10, zbo, f10, rfl, hc10, trivial⟩ ?_
  rintro ⟨out11, carry10, x10⟩ oo _ w11 ⟨cs11, u, rfl, hL11, K11, hE11, hl11, hc11, -⟩ h hd10
  rw [bplus_b1] at h
  refine zaj (zah rfl (zaf (zcj (x := x10) (y := (x2.length : Int)) ((x10 : Int) < (x2.length : Int)) rfl rfl zbk ?_)))
  refine zan (zaj ?_)
  refine zbe ((x10 : Int) < (x2.length : Int)) rfl (fun hc12 => ?_) (fun hc12 => ?_)
  ·
   replace h := ite_t hc12 h
   refine zbf (zaj (zbh (zaj (zah rfl (zaf (zai (v := (zab .i64 x10)) rfl ?_))))))
   refine zaf (zak (v := (zab .i64 x10)) rfl ?_)
   refine zan (zaj (zah rfl (zaf (zai (v := (zab .u64 carry10)) rfl ?_))))
   refine zaf (zai (v := a_v) rfl ?_)
   refine zaf (zai (v := (zab .i64 x10)) rfl ?_)
   obtain ⟨r10, q10, h⟩ := zdo h
   have f11 := ((a_h.mono (K10 S)).mono (K11 S))
   refine zaf (zaw en84 rfl rfl (digit_w N a x10 a_v _ Any (f11.mono vw_any) r10 q10) ?_)
   rintro _ w12 hE12 ⟨rfl, -⟩
   have hL12 := hL11.ext hE12
   have K12 := ke hL11 hE12
   refine zaf (zai (v := b_v) rfl ?_)
   refine zaf (zai (v := (zab .i64 x10)) rfl ?_)
   obtain ⟨r11, q11, h⟩ := zdo h
   have f12 := (((b_h.mono (K10 S)).mono (K11 S)).mono (K12 S))
   refine zaf (zaw en84 rfl rfl (digit_w N b x10 b_v _ Any (f12.mono vw_any) r11 q11) ?_)
   rintro _ w13 hE13 ⟨rfl, -⟩
   have hL13 := hL12.ext hE13
   have K13 := ke hL12 hE13
   refine zaf (zby (x := r10) (y := r11) (z := (uw (r10 + r11))) rfl rfl rfl ?_)
   refine zaf (zby (x := carry10) (y := (uw (r10 + r11))) (z := (uw (carry10 + (uw (r10 + r11))))) rfl rfl rfl ?_)
   refine zaf (zak (v := (zab .u64 (uw (carry10 + (uw (r10 + r11)))))) rfl ?_)
   refine zan (zaj (zah rfl (zaf (zai (v := (osv (some b8) 0 x2.length m1)) rfl ?_))))
   refine zaf (zai (v := (zab .i64 x10)) rfl ?_)
   refine zaf (zai (v := (zab .u64 (uw (carry10 + (uw (r10 + r11)))))) rfl ?_)
   refine zaf (zbp (x := (uw (carry10 + (uw (r10 + r11))))) (z := (uw32 (uw (carry10 + (uw (r10 + r11)))))) zbc zat rfl rfl ?_)
   obtain ⟨x11, q12, h⟩ := zdo h
   obtain ⟨n10, q13, q14⟩ := zdu q12
   have q15 := (List.getElem?_eq_some_iff.1 q14).1
   refine zaf (zcl (r := (rInt .u32)) (b := b8) (o := 0) (n := n10) (m := x2.length) (xs := out11) (q := (0 + n10 * (rInt .u32).sz)) zal ti89 rfl hl11 rfl q13 q15 rfl ?_)
   obtain ⟨x12, q16, h⟩ := zdo h
   obtain ⟨n11, q17, q18, q19⟩ := zee q16
   obtain rfl := Int.ofNat_inj.1 (q13.symm.trans q17)
   have f13 := ((hE11.mono (K12 None)).mono (K13 None))
   refine zcc (zdj (pre := []) (r := (rInt .u32)) (vs := [(zab .u32 (uw32 (uw (carry10 + (uw (r10 + r11))))))]) (a := (uw32 (uw (carry10 + (uw (r10 + r11)))))) ti89 rfl rfl rfl rfl hL13 0 rfl rfl f13 q15 rfl q19 ?_)
   have hl12 : x2.length = List.length x12 := by rw [q19, List.length_set]; exact hl11
   intro w14 cs12 (hL14 : vL w w14 [some b8] [zac ([] ++ (cs12 ++ []))]) hS11 hE14 q20
   have hc13 : (cs12 ++ []).length = m1 * (rInt .u32).sz := by have := hc11; rw [List.length_append] at this ⊢; rw [q20]; exact this
   have K14 := ks w hS11
   refine zan (zah rfl (zaf (zai (v := (zab .u64 (uw (carry10 + (uw (r10 + r11)))))) rfl ?_)))
   refine zaf (OpY.ishr (x := (uw (carry10 + (uw (r10 + r11))))) (y := 32) rfl rfl (by decide) ?_)
   refine zaf (zak (v := (zab .u64 (bshr .u64 (uw (carry10 + (uw (r10 + r11)))) 32))) rfl ?_)
   refine zan (zbt (zah rfl (zaf (zby (x := x10) (y := 1) (z := (iw (x10 + 1))) rfl rfl rfl ?_))))
   refine zaf (zai (v := (zab .i64 (iw (x10 + 1)))) rfl ?_)
   refine zan ?_
   have f14 := (hE14.mono (K14 None))
   obtain rfl := zag h
   refine zar ⟨(x12, (bshr .u64 (uw (carry10 + (uw (r10 + r11)))) 32), (iw (x10 + 1))), rfl, ?_⟩
   exact ⟨cs12, _, (zdt ⟨rfl, rfl, rfl, rfl, rfl, rfl, trivial⟩), hL14, (zaq (zaq (zaq K11 K12) K13) K14), f14, hl12, hc13, trivial⟩
  ·
   replace h := ite_f hc12 h
   refine zcm rfl ?_
   obtain rfl := zag h
   obtain rfl := hd10 _ rfl
   replace h := g10
   try dsimp only at h
   skip
   refine zar ?_
   exact ⟨out11, cs11, _, rfl, (zdt ⟨rfl, trivial⟩), hL11, K11, hE11, hl11, hc11, trivial⟩
 ·
  rintro _ w15 ⟨out10, cs10, u, rfl, rfl, hL15, K15, hE15, hl13, hc14, -⟩
  replace h := g10
  try dsimp only at h
  refine zaj (zah rfl (zaf (zai (v := (osv (some b8) 0 x2.length m1)) rfl ?_)))
  refine zaf (zak (v := (osv (some b8) 0 x2.length m1)) rfl ?_)
  refine zan (zbj ?_)
  obtain rfl := zag h
  refine ⟨[(osv (some b8) 0 x2.length m1)], ⟨rfl, trivial⟩, ⟨_, rfl, hL15.done, ?_⟩⟩
  exact ⟨some b8, m1, cs10, [], (by rw [← hl13]; rfl), (hL15.newOwn [0] rfl rfl rfl), (hE15.mono (Hv.pick [0] rfl)), hc14, trivial⟩
theorem bminus_w (N : Nat) (a : (List Int)) (b : (List Int)) (a_v : Value) (b_v : Value) (w : World) (S : Nat → Prop) (a_h : Rs (rInt .u32) (vH w S [] w) a_v a) (b_h : Rs (rInt .u32) (vH w S [] w) b_v b) (r : (List Int)) (h : bminus N a b = some r) :
  Calls Try.prog 76 #[a_v, b_v] w (Ret w (fun v w' => ∃ (ob0 : Option Nat) (cap0 : Nat) (cs0 : List Value) (sp0 : List Value), (osv ob0 0 r.length cap0) = v ∧ NewOwn w w' [ob0] [zac ([] ++ (cs0 ++ sp0))] ∧ Els (rInt .u32) (vH w None [ob0] w') cs0 r ∧ (cs0 ++ sp0).length = cap0 * (rInt .u32).sz ∧ True)) := by
 unfold bminus at h
 have hL : vL w w [] [] := Go.X.Loc.begin0 w
 refine calls_of (l := [a_v, b_v]) (rl := [.tmp 4]) (n := 37) Try.func76 rfl rfl rfl (zae rfl) ?_
 refine zaj (zah rfl (zaf (zak (v := (zad none 0 0)) rfl ?_)))
 refine zan (zaj (zah rfl (zaf (zai (v := a_v) rfl ?_))))
 refine zaf (zbd (v := a_v) zal rfl a_h ?_)
 obtain ⟨x2, q3, h⟩ := zdo h
 obtain ⟨m1, q4, q5, q6, q7⟩ := mk1_some q3
 refine zaf (OpY.mkRowX (r := (rInt .u32)) (H := (vH w None [] w)) (zc := [(zab .u32 0)]) (x := 0) zal ti89 rfl rfl rfl rfl q4 q5 q6 q7 hL ?_)
 intro b8 w10 cs9 hE10 hc10 hL10 hS10
 have K10 := ks w hS10
 refine zaf (zak (v := (osv (some b8) 0 x2.length m1)) rfl ?_)
 refine zan (zaj (zah rfl (zaf (zak (v := (zab .u64 0)) rfl ?_))))
 refine zan (zaj (zaj (zah rfl (zaf (zai (v := a_v) rfl ?_)))))
 have f10 := (a_h.mono (K10 S))
 refine zaf (zbd (v := a_v) zal rfl f10 ?_)
 refine zaf (zai (v := (zab .i64 0)) rfl ?_)
 refine zan ?_
 obtain ⟨s10, hl10, g10⟩ := zdo h
 refine zbr (fun e w' => ∃ (out10 : (List Int)) (cs10 : List Value) (u : Env), out10 = s10 ∧ e = upds [(5, (osv (some b8) 0 x2.length m1))] u ∧ vL w w' [some b8] [zac ([] ++ (cs10 ++ []))] ∧ Keep w.heap.size [some b8] w10 [some b8] w' ∧ Els (rInt .u32) (vH w None [some b8] w') cs10 out10 ∧ x2.length = List.length out10 ∧ (cs10 ++ []).length = m1 * (rInt .u32).sz ∧ True) ?_ ?_
 ·
  refine zbh ?_
  have f11 := (hE10.mono (K10 None))
  refine zce hl10 (fun (ss : ((List Int) × Int × Int)) (e : Env) (w' : World) => match ss with | (out11, borrow10, x10) => ∃ (cs11 : List Value) (u : Env), e = upds [(0, a_v), (1, b_v), (5, (osv (some b8) 0 x2.length m1)), (6, (zab .u64 borrow10)), (13, (zab .i64 (a.length : Int))), (14, (zab .i64 x10))] u ∧ vL w w' [some b8] [zac ([] ++ (cs11 ++ []))] ∧ Keep w.heap.size [some b8] w10 [some b8] w' ∧ Els (rInt .u32) (vH w None [some b8] w') cs11 out11 ∧ x2.length = List.length out11 ∧ (cs11 ++ []).length = m1 * (rInt .u32).sz ∧ True) ⟨cs9, _, (zdt ⟨rfl, rfl, rfl, rfl, rfl, rfl, trivial⟩), hL10, zbo, f11, rfl, hc10, trivial⟩ ?_
  rintro ⟨out11, borrow10, x10⟩ oo _ w11 ⟨cs11, u, rfl, hL11, K11, hE11, hl11, hc11, -⟩ h hd10
  rw [bminus_b1] at h
  refine zaj (zah rfl (zaf (zcj (x := x10) (y := (a.length : Int)) ((x10 : Int) < (a.length : Int)) rfl rfl zbk ?_)))
  refine zan (zaj ?_)
  refine zbe ((x10 : Int) < (a.length : Int)) rfl (fun hc12 => ?_) (fun hc12 => ?_)
  ·
   replace h := ite_t hc12 h
   refine zbf (zaj (zbh (zaj (zah rfl (zaf (zai (v := (zab .i64 x10)) rfl ?_))))))
   refine zaf (zak (v := (zab .i64 x10)) rfl ?_)
   refine zan (zaj ?_)
   obtain ⟨x11, q10, h⟩ := zdo h
   obtain ⟨n10, q11, q12⟩ := zdu q10
   have f12 := (f10.mono (K11 S))
   obtain ⟨b10, o10, c10, vs10, q13, q14, f13, q15⟩ := zcw f12 q12
   obtain rfl := q15
   obtain ⟨r10, q16, h⟩ := zdo h
   refine zcf 10 [] [] (fun W1 => [.det a_v, .det (zab .i64 x10), .det (zao (some ⟨b10, (o10 + n10 * (rInt .u32).sz), none⟩)), .det (zab .u32 x11), .det (zab .u64 (uw x11)), .det b_v, .det (zab .i64 x10), .det (zab .u64 r10), .det (zab .u64 (uw ((uw x11) - r10))), .det (zab .u64 borrow10)]) mixed rfl rfl rfl (fun _ => rfl) (fun _ => rfl) ?_ ?_
   ·
    intro W1 _
    exact trivial
   ·
    intro w12 hE12
    have hL12 := hL11.ext hE12
    have K12 := ke hL11 hE12
    refine zau (fun _ _ => zav (zai rfl (er rfl))) ?_
    refine zau (fun _ _ => zav (zai rfl (er rfl))) ?_
    refine zau (fun _ _ => zav (zbw (r := (rInt .u32)) (v := a_v) (n := n10) (m := (o10 + n10 * (rInt .u32).sz)) zal ti89 rfl q13 rfl q11 q12 rfl (er rfl))) ?_
    refine zau (fun _ hE16 => zav (zck zat rfl rfl zdy (zcz ((ke hL12 hE16) S) (zcz (K12 S) f13)) (er rfl))) ?_
    refine zau (fun _ _ => zav (zbp zat zbc rfl rfl (er rfl))) ?_
    refine zau (fun _ _ => zav (zai rfl (er rfl))) ?_
    refine zau (fun _ _ => zav (zai rfl (er rfl))) ?_
    refine DrH.det ?_ ?_
    ·
     rintro w20 Z17 hE20 hZ17 ⟨-⟩
     have K14 := ke hL12 hE20
     refine zav (zaw en84 rfl rfl (digit_w N b x10 b_v _ Any (((((b_h.mono (K10 S)).mono (K11 S)).mono (K12 S)).mono (K14 S)).mono vw_any) r10 q16) ?_)
     rintro _ w21 hE21 ⟨rfl, -⟩
     exact ⟨hE21, rfl⟩
    refine zau (fun _ _ => zav (zdb rfl rfl rfl (er rfl))) ?_
    refine zau (fun _ _ => zav (zai rfl (er rfl))) ?_
    refine zco ?_
    rintro w24 Z20 hE24 hZ20 ⟨-⟩ ap10
    have hB10 : ∀ b, some b ∈ ([] : List (Option Nat)) → w12.heap.size ≤ b ∧ ¬ Z20 b := by
     intro b hb; cases hb
    have hL13 := hL12.ext hE24
    have K15 := ke hL12 hE24
    refine zaf (zdb (x := (uw ((uw x11) - r10))) (y := borrow10) (z := (uw ((uw ((uw x11) - r10)) - borrow10))) rfl rfl rfl ?_)
    refine zaf (zak (v := (zab .u64 (uw ((uw ((uw x11) - r10)) - borrow10)))) rfl ?_)
    refine zan (zaj (zah rfl (zaf (zai (v := (osv (some b8) 0 x2.length m1)) rfl ?_))))
    refine zaf (zai (v := (zab .i64 x10)) rfl ?_)
    refine zaf (zai (v := (zab .u64 (uw ((uw ((uw x11) - r10)) - borrow10)))) rfl ?_)
    refine zaf (zbp (x := (uw ((uw ((uw x11) - r10)) - borrow10))) (z := (uw32 (uw ((uw ((uw x11) - r10)) - borrow10)))) zbc zat rfl rfl ?_)
    obtain ⟨x12, q17, h⟩ := zdo h
    obtain ⟨n11, q18, q19⟩ := zdu q17
    have q20 := (List.getElem?_eq_some_iff.1 q19).1
    refine zaf (zcl (r := (rInt .u32)) (b := b8) (o := 0) (n := n11) (m := x2.length) (xs := out11) (q := (0 + n11 * (rInt .u32).sz)) zal ti89 rfl hl11 rfl q18 q20 rfl ?_)
    obtain ⟨x13, q21, h⟩ := zdo h
    obtain ⟨n12, q22, q23, q24⟩ := zee q21
    obtain rfl := Int.ofNat_inj.1 (q18.symm.trans q22)
    have f14 := ((hE11.mono (K12 None)).mono (K15 None))
    refine zcc (zdj (pre := []) (r := (rInt .u32)) (vs := [(zab .u32 (uw32 (uw ((uw ((uw x11) - r10)) - borrow10))))]) (a := (uw32 (uw ((uw ((uw x11) - r10)) - borrow10)))) ti89 rfl rfl rfl rfl hL13 0 rfl rfl f14 q20 rfl q24 ?_)
    have hl12 : x2.length = List.length x13 := by rw [q24, List.length_set]; exact hl11
    intro w25 cs12 (hL14 : vL w w25 [some b8] [zac ([] ++ (cs12 ++ []))]) hS11 hE25 q25
    have hc13 : (cs12 ++ []).length = m1 * (rInt .u32).sz := by have := hc11; rw [List.length_append] at this ⊢; rw [q25]; exact this
    have K16 := ks w hS11
    refine zan (zah rfl (zaf (zai (v := (zab .u64 (uw ((uw ((uw x11) - r10)) - borrow10)))) rfl ?_)))
    refine zaf (OpY.ishr (x := (uw ((uw ((uw x11) - r10)) - borrow10))) (y := 63) rfl rfl (by decide) ?_)
    refine zaf (zak (v := (zab .u64 (bshr .u64 (uw ((uw ((uw x11) - r10)) - borrow10)) 63))) rfl ?_)
    refine zan (zbt (zah rfl (zaf (zby (x := x10) (y := 1) (z := (iw (x10 + 1))) rfl rfl rfl ?_))))
    refine zaf (zai (v := (zab .i64 (iw (x10 + 1)))) rfl ?_)
    refine zan ?_
    have f15 := (hE25.mono (K16 None))
    obtain rfl := zag h
    refine zar ⟨(x13, (bshr .u64 (uw ((uw ((uw x11) - r10)) - borrow10)) 63), (iw (x10 + 1))), rfl, ?_⟩
    exact ⟨cs12, _, (zdt ⟨rfl, rfl, rfl, rfl, rfl, rfl, trivial⟩), hL14, (zaq (zaq (zaq K11 K12) K15) K16), f15, hl12, hc13, trivial⟩
  ·
   replace h := ite_f hc12 h
   refine zcm rfl ?_
   obtain rfl := zag h
   obtain rfl := hd10 _ rfl
   replace h := g10
   try dsimp only at h
   skip
   refine zar ?_
   exact ⟨out11, cs11, _, rfl, (zdt ⟨rfl, trivial⟩), hL11, K11, hE11, hl11, hc11, trivial⟩
 ·
  rintro _ w26 ⟨out10, cs10, u, rfl, rfl, hL15, K17, hE26, hl13, hc14, -⟩
  replace h := g10
  try dsimp only at h
  refine zaj (zah rfl (zaf (zai (v := (osv (some b8) 0 x2.length m1)) rfl ?_)))
  refine zaf (zak (v := (osv (some b8) 0 x2.length m1)) rfl ?_)
  refine zan (zbj ?_)
  obtain rfl := zag h
  refine ⟨[(osv (some b8) 0 x2.length m1)], ⟨rfl, trivial⟩, ⟨_, rfl, hL15.done, ?_⟩⟩
  exact ⟨some b8, m1, cs10, [], (by rw [← hl13]; rfl), (hL15.newOwn [0] rfl rfl rfl), (hE26.mono (Hv.pick [0] rfl)), hc14, trivial⟩
theorem btimes_w (N : Nat) (a : (List Int)) (b : (List Int)) (a_v : Value) (b_v : Value) (w : World) (S : Nat → Prop) (a_h : Rs (rInt .u32) (vH w S [] w) a_v a) (b_h : Rs (rInt .u32) (vH w S [] w) b_v b) (r : (List Int)) (h : btimes N a b = some r) :
  Calls Try.prog 77 #[a_v, b_v] w (Ret w (fun v w' => ∃ (ob0 : Option Nat) (cap0 : Nat) (cs0 : List Value) (sp0 : List Value), (osv ob0 0 r.length cap0) = v ∧ NewOwn w w' [ob0] [zac ([] ++ (cs0 ++ sp0))] ∧ Els (rInt .u32) (vH w None [ob0] w') cs0 r ∧ (cs0 ++ sp0).length = cap0 * (rInt .u32).sz ∧ True)) := by
 unfold btimes at h
 have hL : vL w w [] [] := Go.X.Loc.begin0 w
 refine calls_of (l := [a_v, b_v]) (rl := [.tmp 4]) (n := 66) Try.func77 rfl rfl rfl (zae rfl) ?_
 refine zaj (zah rfl (zaf (zak (v := (zad none 0 0)) rfl ?_)))
 refine zan (zaj (zah rfl (zaf (zai (v := a_v) rfl ?_))))
 refine zaf (zbd (v := a_v) zal rfl a_h ?_)
 refine zaf (zai (v := b_v) rfl ?_)
 refine zaf (zbd (v := b_v) zal rfl b_h ?_)
 refine zaf (zby (x := (a.length : Int)) (y := (b.length : Int)) (z := (iw ((a.length : Int) + (b.length : Int)))) rfl rfl rfl ?_)
 obtain ⟨x2, q3, h⟩ := zdo h
 obtain ⟨m1, q4, q5, q6, q7⟩ := mk1_some q3
 refine zaf (OpY.mkRowX (r := (rInt .u32)) (H := (vH w None [] w)) (zc := [(zab .u32 0)]) (x := 0) zal ti89 rfl rfl rfl rfl q4 q5 q6 q7 hL ?_)
 intro b8 w10 cs9 hE10 hc10 hL10 hS10
 have K10 := ks w hS10
 refine zaf (zak (v := (osv (some b8) 0 x2.length m1)) rfl ?_)
 refine zan (zaj (zaj (zah rfl (zaf (zai (v := a_v) rfl ?_)))))
 have f10 := (a_h.mono (K10 S))
 refine zaf (zbd (v := a_v) zal rfl f10 ?_)
 refine zaf (zai (v := (zab .i64 0)) rfl ?_)
 refine zan ?_
 obtain ⟨s10, hl10, g10⟩ := zdo h
 refine zbr (fun e w' => ∃ (out10 : (List Int)) (cs10 : List Value) (u : Env), out10 = s10 ∧ e = upds [(5, (osv (some b8) 0 x2.length m1))] u ∧ vL w w' [some b8] [zac ([] ++ (cs10 ++ []))] ∧ Keep w.heap.size [some b8] w10 [some b8] w' ∧ Els (rInt .u32) (vH w None [some b8] w') cs10 out10 ∧ x2.length = List.length out10 ∧ (cs10 ++ []).length = m1 * (rInt .u32).sz ∧ True) ?_ ?_
 ·
  refine zbh ?_
  have f11 := (hE10.mono (K10 None))
  refine zce hl10 (fun (ss : ((List Int) × Int)) (e : Env) (w' : World) => match ss with | (out11, x10) => ∃ (cs11 : List Value) (u : Env), e = upds [(1, b_v), (5, (osv (some b8) 0 x2.length m1)), (17, a_v), (18, (zab .i64 (a.length : Int))), (19, (zab .i64 x10))] u ∧ vL w w' [some b8] [zac ([] ++ (cs11 ++ []))] ∧ Keep w.heap.size [some b8] w10 [some b8] w' ∧ Els (rInt .u32) (vH w None [some b8] w') cs11 out11 ∧ x2.length = List.length out11 ∧ (cs11 ++ []).length = m1 * (rInt .u32).sz ∧ True) ⟨cs9, _, (zdt ⟨rfl, rfl, rfl, rfl, rfl, trivial⟩), hL10, zbo, f11, rfl, hc10, trivial⟩ ?_
  rintro ⟨out11, x10⟩ oo _ w11 ⟨cs11, u, rfl, hL11, K11, hE11, hl11, hc11, -⟩ h hd10
  rw [btimes_b1] at h
  refine zaj (zah rfl (zaf (zcj (x := x10) (y := (a.length : Int)) ((x10 : Int) < (a.length : Int)) rfl rfl zbk ?_)))
  refine zan (zaj ?_)
  refine zbe ((x10 : Int) < (a.length : Int)) rfl (fun hc12 => ?_) (fun hc12 => ?_)
  ·
   replace h := ite_t hc12 h
   refine zbf (zaj (zbh (zaj (zah rfl (zaf (zai (v := (zab .i64 x10)) rfl ?_))))))
   obtain ⟨x11, q10, h⟩ := zdo h
   obtain ⟨n10, q11, q12⟩ := zdu q10
   have f12 := (f10.mono (K11 S))
   obtain ⟨b10, o10, c10, vs10, q13, q14, f13, q15⟩ := zcw f12 q12
   obtain rfl := q15
   refine zaf (zbw (r := (rInt .u32)) (v := a_v) (n := n10) (m := (o10 + n10 * (rInt .u32).sz)) zal ti89 rfl q13 rfl q11 q12 rfl ?_)
   refine zaf (zck (v := (zab .u32 x11)) zat rfl rfl zdy f13 ?_)
   refine zaf (zak (v := (zab .i64 x10)) rfl ?_)
   refine zaf (zak (v := (zab .u32 x11)) rfl ?_)
   refine zan (zaj (zah rfl (zaf (zak (v := (zab .u64 0)) rfl ?_))))
   refine zan (zaj (zaj (zah rfl (zaf (zai (v := b_v) rfl ?_)))))
   have f14 := ((b_h.mono (K10 S)).mono (K11 S))
   refine zaf (zbd (v := b_v) zal rfl f14 ?_)
   refine zaf (zai (v := (zab .i64 0)) rfl ?_)
   refine zan ?_
   obtain ⟨s11, hl12, g11⟩ := zdo h
   refine zbr (fun e w' => ∃ (out12 : (List Int)) (carry10 : Int) (cs12 : List Value) (u : Env), (out12, carry10) = s11 ∧ e = upds [(1, b_v), (5, (osv (some b8) 0 x2.length m1)), (6, (zab .i64 x10)), (8, (zab .u64 carry10)), (17, a_v), (18, (zab .i64 (a.length : Int))), (19, (zab .i64 x10))] u ∧ vL w w' [some b8] [zac ([] ++ (cs12 ++ []))] ∧ Keep w.heap.size [some b8] w11 [some b8] w' ∧ Els (rInt .u32) (vH w None [some b8] w') cs12 out12 ∧ x2.length = List.length out12 ∧ (cs12 ++ []).length = m1 * (rInt .u32).sz ∧ True) ?_ ?_
   ·
    refine zbh ?_
    refine zce hl12 (fun (ss : ((List Int) × Int × Int)) (e : Env) (w' : World) => match ss with | (out13, carry11, x12) => ∃ (cs13 : List Value) (u : Env), e = upds [(1, b_v), (5, (osv (some b8) 0 x2.length m1)), (6, (zab .i64 x10)), (7, (zab .u32 x11)), (8, (zab .u64 carry11)), (17, a_v), (18, (zab .i64 (a.length : Int))), (19, (zab .i64 x10)), (24, b_v), (25, (zab .i64 (b.length : Int))), (26, (zab .i64 x12))] u ∧ vL w w' [some b8] [zac ([] ++ (cs13 ++ []))] ∧ Keep w.heap.size [some b8] w11 [some b8] w' ∧ Els (rInt .u32) (vH w None [some b8] w') cs13 out13 ∧ x2.length = List.length out13 ∧ (cs13 ++ []).length = m1 * (rInt .u32).sz ∧ True) ⟨cs11, _, (zdt ⟨rfl, rfl, rfl, rfl, rfl, rfl, rfl, rfl, rfl, rfl, rfl, trivial⟩), hL11, zbo, hE11, hl11, hc11, trivial⟩ ?_
    rintro ⟨out13, carry11, x12⟩ oo _ w12 ⟨cs13, u, rfl, hL12, K12, hE12, hl13, hc13, -⟩ h hd11
    rw [btimes_b2] at h
    refine zaj (zah rfl (zaf (zcj (x := x12) (y := (b.length : Int)) ((x12 : Int) < (b.length : Int)) rfl rfl zbk ?_)))
    refine zan (zaj ?_)
    refine zbe ((x12 : Int) < (b.length : Int)) rfl (fun hc14 => ?_) (fun hc14 => ?_)
    ·
     replace h := ite_t hc14 h
     refine zbf (zaj (zbh (zaj (zah rfl (zaf (zai (v := (zab .i64 x12)) rfl ?_))))))
     obtain ⟨x13, q16, h⟩ := zdo h
     obtain ⟨n11, q17, q18⟩ := zdu q16
     have f15 := (f14.mono (K12 S))
     obtain ⟨b11, o11, c11, vs11, q19, q20, f16, q21⟩ := zcw f15 q18
     obtain rfl := q21
     refine zaf (zbw (r := (rInt .u32)) (v := b_v) (n := n11) (m := (o11 + n11 * (rInt .u32).sz)) zal ti89 rfl q19 rfl q17 q18 rfl ?_)
     refine zaf (zck (v := (zab .u32 x13)) zat rfl rfl zdy f16 ?_)
     refine zaf (zak (v := (zab .i64 x12)) rfl ?_)
     refine zaf (zak (v := (zab .u32 x13)) rfl ?_)
     refine zan (zaj (zah rfl (zaf (zai (v := (zab .u64 carry11)) rfl ?_))))
     refine zaf (zai (v := (zab .u32 x11)) rfl ?_)
     refine zaf (zbp (x := x11) (z := (uw x11)) zat zbc rfl rfl ?_)
     refine zaf (zai (v := (zab .u32 x13)) rfl ?_)
     refine zaf (zbp (x := x13) (z := (uw x13)) zat zbc rfl rfl ?_)
     refine zaf (OpY.mul (x := (uw x11)) (y := (uw x13)) (z := (uw ((uw x11) * (uw x13)))) rfl rfl rfl ?_)
     refine zaf (zai (v := (osv (some b8) 0 x2.length m1)) rfl ?_)
     refine zaf (zai (v := (zab .i64 x10)) rfl ?_)
     refine zaf (zai (v := (zab .i64 x12)) rfl ?_)
     refine zaf (zby (x := x10) (y := x12) (z := (iw (x10 + x12))) rfl rfl rfl ?_)
     obtain ⟨x14, q22, h⟩ := zdo h
     obtain ⟨n12, q23, q24⟩ := zdu q22
     have q25 := (List.getElem?_eq_some_iff.1 q24).1
     refine zaf (zcl (r := (rInt .u32)) (b := b8) (o := 0) (n := n12) (m := x2.length) (xs := out13) (q := (0 + n12 * (rInt .u32).sz)) zal ti89 rfl hl13 rfl q23 q25 rfl ?_)
     obtain ⟨vs12, q26, q27, q28⟩ := zed (pre := []) (sp := []) hE12 q24
     obtain rfl := q27
     refine zaf (zdd (v := (zab .u32 x14)) zat rfl rfl (hL12.at 0 rfl rfl) q28 ?_)
     refine zaf (zbp (x := x14) (z := (uw x14)) zat zbc rfl rfl ?_)
     refine zaf (zby (x := (uw ((uw x11) * (uw x13)))) (y := (uw x14)) (z := (uw ((uw ((uw x11) * (uw x13))) + (uw x14)))) rfl rfl rfl ?_)
     refine zaf (zby (x := carry11) (y := (uw ((uw ((uw x11) * (uw x13))) + (uw x14)))) (z := (uw (carry11 + (uw ((uw ((uw x11) * (uw x13))) + (uw x14)))))) rfl rfl rfl ?_)
     refine zaf (zak (v := (zab .u64 (uw (carry11 + (uw ((uw ((uw x11) * (uw x13))) + (uw x14))))))) rfl ?_)
     refine zan (zaj (zah rfl (zaf (zai (v := (osv (some b8) 0 x2.length m1)) rfl ?_))))
     refine zaf (zai (v := (zab .i64 x10)) rfl ?_)
     refine zaf (zai (v := (zab .i64 x12)) rfl ?_)
     refine zaf (zby (x := x10) (y := x12) (z := (iw (x10 + x12))) rfl rfl rfl ?_)
     refine zaf (zai (v := (zab .u64 (uw (carry11 + (uw ((uw ((uw x11) * (uw x13))) + (uw x14))))))) rfl ?_)
     refine zaf (zbp (x := (uw (carry11 + (uw ((uw ((uw x11) * (uw x13))) + (uw x14)))))) (z := (uw32 (uw (carry11 + (uw ((uw ((uw x11) * (uw x13))) + (uw x14))))))) zbc zat rfl rfl ?_)
     obtain ⟨x15, q29, h⟩ := zdo h
     obtain ⟨n13, q30, q31⟩ := zdu q29
     have q32 := (List.getElem?_eq_some_iff.1 q31).1
     refine zaf (zcl (r := (rInt .u32)) (b := b8) (o := 0) (n := n13) (m := x2.length) (xs := out13) (q := (0 + n13 * (rInt .u32).sz)) zal ti89 rfl hl13 rfl q30 q32 rfl ?_)
     obtain ⟨x16, q33, h⟩ := zdo h
     obtain ⟨n14, q34, q35, q36⟩ := zee q33
     obtain rfl := Int.ofNat_inj.1 (q30.symm.trans q34)
     refine zcc (zdj (pre := []) (r := (rInt .u32)) (vs := [(zab .u32 (uw32 (uw (carry11 + (uw ((uw ((uw x11) * (uw x13))) + (uw x14)))))))]) (a := (uw32 (uw (carry11 + (uw ((uw ((uw x11) * (uw x13))) + (uw x14))))))) ti89 rfl rfl rfl rfl hL12 0 rfl rfl hE12 q32 rfl q36 ?_)
     have hl14 : x2.length = List.length x16 := by rw [q36, List.length_set]; exact hl13
     intro w13 cs14 (hL13 : vL w w13 [some b8] [zac ([] ++ (cs14 ++ []))]) hS11 hE13 q37
     have hc15 : (cs14 ++ []).length = m1 * (rInt .u32).sz := by have := hc13; rw [List.length_append] at this ⊢; rw [q37]; exact this
     have K13 := ks w hS11
     refine zan (zah rfl (zaf (zai (v := (zab .u64 (uw (carry11 + (uw ((uw ((uw x11) * (uw x13))) + (uw x14))))))) rfl ?_)))
     refine zaf (OpY.ishr (x := (uw (carry11 + (uw ((uw ((uw x11) * (uw x13))) + (uw x14)))))) (y := 32) rfl rfl (by decide) ?_)
     refine zaf (zak (v := (zab .u64 (bshr .u64 (uw (carry11 + (uw ((uw ((uw x11) * (uw x13))) + (uw x14))))) 32))) rfl ?_)
     refine zan (zbt (zah rfl (zaf (zby (x := x12) (y := 1) (z := (iw (x12 + 1))) rfl rfl rfl ?_))))
     refine zaf (zai (v := (zab .i64 (iw (x12 + 1)))) rfl ?_)
     refine zan ?_
     have f17 := (hE13.mono (K13 None))
     obtain rfl := zag h
     refine zar ⟨(x16, (bshr .u64 (uw (carry11 + (uw ((uw ((uw x11) * (uw x13))) + (uw x14))))) 32), (iw (x12 + 1))), rfl, ?_⟩
     exact ⟨cs14, _, (zdt ⟨rfl, rfl, rfl, rfl, rfl, rfl, rfl, rfl, rfl, rfl, rfl, trivial⟩), hL13, (zaq K12 K13), f17, hl14, hc15, trivial⟩
    ·
     replace h := ite_f hc14 h
     refine zcm rfl ?_
     obtain rfl := zag h
     obtain rfl := hd11 _ rfl
     replace h := g11
     try dsimp only at h
     skip
     refine zar ?_
     exact ⟨out13, carry11, cs13, _, rfl, (zdt ⟨rfl, rfl, rfl, rfl, rfl, rfl, rfl, trivial⟩), hL12, K12, hE12, hl13, hc13, trivial⟩
   ·
    rintro _ w14 ⟨out12, carry10, cs12, u, rfl, rfl, hL14, K14, hE14, hl15, hc16, -⟩
    replace h := g11
    try dsimp only at h
    refine zah rfl (zaf (zai (v := (osv (some b8) 0 x2.length m1)) rfl ?_))
    refine zaf (zai (v := (zab .i64 x10)) rfl ?_)
    refine zaf (zai (v := b_v) rfl ?_)
    have f18 := (f14.mono (K14 S))
    refine zaf (zbd (v := b_v) zal rfl f18 ?_)
    refine zaf (zby (x := x10) (y := (b.length : Int)) (z := (iw (x10 + (b.length : Int)))) rfl rfl rfl ?_)
    refine zaf (zai (v := (zab .u64 carry10)) rfl ?_)
    refine zaf (zbp (x := carry10) (z := (uw32 carry10)) zbc zat rfl rfl ?_)
    obtain ⟨x17, q38, h⟩ := zdo h
    obtain ⟨n15, q39, q40⟩ := zdu q38
    have q41 := (List.getElem?_eq_some_iff.1 q40).1
    refine zaf (zcl (r := (rInt .u32)) (b := b8) (o := 0) (n := n15) (m := x2.length) (xs := out12) (q := (0 + n15 * (rInt .u32).sz)) zal ti89 rfl hl15 rfl q39 q41 rfl ?_)
    obtain ⟨x18, q42, h⟩ := zdo h
    obtain ⟨n16, q43, q44, q45⟩ := zee q42
    obtain rfl := Int.ofNat_inj.1 (q39.symm.trans q43)
    refine zcc (zdj (pre := []) (r := (rInt .u32)) (vs := [(zab .u32 (uw32 carry10))]) (a := (uw32 carry10)) ti89 rfl rfl rfl rfl hL14 0 rfl rfl hE14 q41 rfl q45 ?_)
    have hl16 : x2.length = List.length x18 := by rw [q45, List.length_set]; exact hl15
    intro w15 cs15 (hL15 : vL w w15 [some b8] [zac ([] ++ (cs15 ++ []))]) hS12 hE15 q46
    have hc17 : (cs15 ++ []).length = m1 * (rInt .u32).sz := by have := hc16; rw [List.length_append] at this ⊢; rw [q46]; exact this
    have K15 := ks w hS12
    refine zan (zbt (zah rfl (zaf (zby (x := x10) (y := 1) (z := (iw (x10 + 1))) rfl rfl rfl ?_))))
    refine zaf (zai (v := (zab .i64 (iw (x10 + 1)))) rfl ?_)
    refine zan ?_
    have f19 := (hE15.mono (K15 None))
    obtain rfl := zag h
    refine zar ⟨(x18, (iw (x10 + 1))), rfl, ?_⟩
    exact ⟨cs15, _, (zdt ⟨rfl, rfl, rfl, rfl, rfl, trivial⟩), hL15, (zaq (zaq K11 K14) K15), f19, hl16, hc17, trivial⟩
  ·
   replace h := ite_f hc12 h
   refine zcm rfl ?_
   obtain rfl := zag h
   obtain rfl := hd10 _ rfl
   replace h := g10
   try dsimp only at h
   skip
   refine zar ?_
   exact ⟨out11, cs11, _, rfl, (zdt ⟨rfl, trivial⟩), hL11, K11, hE11, hl11, hc11, trivial⟩
 ·
  rintro _ w16 ⟨out10, cs10, u, rfl, rfl, hL16, K16, hE16, hl17, hc18, -⟩
  replace h := g10
  try dsimp only at h
  refine zaj (zah rfl (zaf (zai (v := (osv (some b8) 0 x2.length m1)) rfl ?_)))
  refine zaf (zak (v := (osv (some b8) 0 x2.length m1)) rfl ?_)
  refine zan (zbj ?_)
  obtain rfl := zag h
  refine ⟨[(osv (some b8) 0 x2.length m1)], ⟨rfl, trivial⟩, ⟨_, rfl, hL16.done, ?_⟩⟩
  exact ⟨some b8, m1, cs10, [], (by rw [← hl17]; rfl), (hL16.newOwn [0] rfl rfl rfl), (hE16.mono (Hv.pick [0] rfl)), hc18, trivial⟩
theorem bshort_w (N : Nat) (a : (List Int)) (pb : Int) (a_v : Value) (w : World) (S : Nat → Prop) (a_h : Rs (rInt .u32) (vH w S [] w) a_v a) (r : ((List Int) × Int)) (h : bshort N a pb = some r) :
  Calls Try.prog 86 #[a_v, (zab .u32 pb)] w (Ret w (fun v w' => ∃ (ob0 : Option Nat) (cap0 : Nat) (cs0 : List Value) (sp0 : List Value), .tuple #[(osv ob0 0 r.1.length cap0), (zab .u32 r.2)] = v ∧ NewOwn w w' [ob0] [zac ([] ++ (cs0 ++ sp0))] ∧ Els (rInt .u32) (vH w None [ob0] w') cs0 r.1 ∧ (cs0 ++ sp0).length = cap0 * (rInt .u32).sz ∧ True)) := by
 unfold bshort at h
 have hL : vL w w [] [] := Go.X.Loc.begin0 w
 refine calls_of (l := [a_v, (zab .u32 pb)]) (rl := [.tmp 4, .tmp 5]) (n := 43) Try.func86 rfl rfl rfl (zae rfl) ?_
 refine zaj (zah rfl (zaf (zak (v := (zad none 0 0)) rfl ?_)))
 refine zaf (zak (v := (zab .u32 0)) rfl ?_)
 refine zan (zaj (zah rfl (zaf (zai (v := a_v) rfl ?_))))
 refine zaf (zbd (v := a_v) zal rfl a_h ?_)
 obtain ⟨x2, q3, h⟩ := zdo h
 obtain ⟨m1, q4, q5, q6, q7⟩ := mk1_some q3
 refine zaf (OpY.mkRowX (r := (rInt .u32)) (H := (vH w None [] w)) (zc := [(zab .u32 0)]) (x := 0) zal ti89 rfl rfl rfl rfl q4 q5 q6 q7 hL ?_)
 intro b8 w10 cs9 hE10 hc10 hL10 hS10
 have K10 := ks w hS10
 refine zaf (zak (v := (osv (some b8) 0 x2.length m1)) rfl ?_)
 refine zan (zaj (zah rfl (zaf (zak (v := (zab .u64 0)) rfl ?_))))
 refine zan (zaj (zaj (zah rfl (zaf (zai (v := a_v) rfl ?_)))))
 have f10 := (a_h.mono (K10 S))
 refine zaf (zbd (v := a_v) zal rfl f10 ?_)
 refine zaf (zdb (x := (a.length : Int)) (y := 1) (z := (iw ((a.length : Int) - 1))) rfl rfl rfl ?_)
 refine zaf (zak (v := (zab .i64 (iw ((a.length : Int) - 1)))) rfl ?_)
 refine zan ?_
 obtain ⟨s10, hl10, g10⟩ := zdo h
 refine zbr (fun e w' => ∃ (out10 : (List Int)) (rest10 : Int) (cs10 : List Value) (u : Env), (out10, rest10) = s10 ∧ e = upds [(6, (osv (some b8) 0 x2.length m1)), (7, (zab .u64 rest10))] u ∧ vL w w' [some b8] [zac ([] ++ (cs10 ++ []))] ∧ Keep w.heap.size [some b8] w10 [some b8] w' ∧ Els (rInt .u32) (vH w None [some b8] w') cs10 out10 ∧ x2.length = List.length out10 ∧ (cs10 ++ []).length = m1 * (rInt .u32).sz ∧ True) ?_ ?_
 ·
  refine zbh ?_
  have f11 := (hE10.mono (K10 None))
  refine zce hl10 (fun (ss : ((List Int) × Int × Int)) (e : Env) (w' : World) => match ss with | (out11, rest11, i10) => ∃ (cs11 : List Value) (u : Env), e = upds [(0, a_v), (1, (zab .u32 pb)), (6, (osv (some b8) 0 x2.length m1)), (7, (zab .u64 rest11)), (8, (zab .i64 i10))] u ∧ vL w w' [some b8] [zac ([] ++ (cs11 ++ []))] ∧ Keep w.heap.size [some b8] w10 [some b8] w' ∧ Els (rInt .u32) (vH w None [some b8] w') cs11 out11 ∧ x2.length = List.length out11 ∧ (cs11 ++ []).length = m1 * (rInt .u32).sz ∧ True) ⟨cs9, _, (zdt ⟨rfl, rfl, rfl, rfl, rfl, trivial⟩), hL10, zbo, f11, rfl, hc10, trivial⟩ ?_
  rintro ⟨out11, rest11, i10⟩ oo _ w11 ⟨cs11, u, rfl, hL11, K11, hE11, hl11, hc11, -⟩ h hd10
  rw [bshort_b1] at h
  refine zaj (zaj (zah rfl (zaf (zai (v := (zab .i64 i10)) rfl ?_))))
  refine zaf (OpY.geq (x := i10) (y := 0) ((i10 : Int) ≥ 0) rfl rfl zbk ?_)
  refine zan ?_
  refine zbe ((i10 : Int) ≥ 0) rfl (fun hc12 => ?_) (fun hc12 => ?_)
  ·
   replace h := ite_t hc12 h
   refine zbf (zaj (zbh (zaj (zah rfl (zaf (zai (v := (zab .u64 rest11)) rfl ?_))))))
   refine zaf (OpY.ishl (x := rest11) (y := 32) rfl rfl (by decide) ?_)
   refine zaf (zai (v := a_v) rfl ?_)
   refine zaf (zai (v := (zab .i64 i10)) rfl ?_)
   obtain ⟨x10, q10, h⟩ := zdo h
   obtain ⟨n10, q11, q12⟩ := zdu q10
   have f12 := (f10.mono (K11 S))
   obtain ⟨b10, o10, c10, vs10, q13, q14, f13, q15⟩ := zcw f12 q12
   obtain rfl := q15
   refine zaf (zbw (r := (rInt .u32)) (v := a_v) (n := n10) (m := (o10 + n10 * (rInt .u32).sz)) zal ti89 rfl q13 rfl q11 q12 rfl ?_)
   refine zaf (zck (v := (zab .u32 x10)) zat rfl rfl zdy f13 ?_)
   refine zaf (zbp (x := x10) (z := (uw x10)) zat zbc rfl rfl ?_)
   refine zaf (OpY.ior (x := (bshl .u64 rest11 32)) (y := (uw x10)) rfl rfl ?_)
   refine zaf (zak (v := (zab .u64 (bor .u64 (bshl .u64 rest11 32) (uw x10)))) rfl ?_)
   refine zan (zaj (zah rfl (zaf (zai (v := (osv (some b8) 0 x2.length m1)) rfl ?_))))
   refine zaf (zai (v := (zab .i64 i10)) rfl ?_)
   refine zaf (zai (v := (zab .u64 (bor .u64 (bshl .u64 rest11 32) (uw x10)))) rfl ?_)
   refine zaf (zai (v := (zab .u32 pb)) rfl ?_)
   refine zaf (zbp (x := pb) (z := (uw pb)) zat zbc rfl rfl ?_)
   obtain ⟨x11, q16, h⟩ := zdo h
   obtain ⟨q17, q18⟩ := sdiv_some q16
   refine zaf (OpY.quoI (x := (bor .u64 (bshl .u64 rest11 32) (uw x10))) (y := (uw pb)) (z := x11) rfl rfl q17 q18 ?_)
   refine zaf (zbp (x := x11) (z := (uw32 x11)) zbc zat rfl rfl ?_)
   obtain ⟨x12, q19, h⟩ := zdo h
   obtain ⟨n11, q20, q21⟩ := zdu q19
   have q22 := (List.getElem?_eq_some_iff.1 q21).1
   refine zaf (zcl (r := (rInt .u32)) (b := b8) (o := 0) (n := n11) (m := x2.length) (xs := out11) (q := (0 + n11 * (rInt .u32).sz)) zal ti89 rfl hl11 rfl q20 q22 rfl ?_)
   obtain ⟨x13, q23, h⟩ := zdo h
   obtain ⟨n12, q24, q25, q26⟩ := zee q23
   obtain rfl := Int.ofNat_inj.1 (q20.symm.trans q24)
   refine zcc (zdj (pre := []) (r := (rInt .u32)) (vs := [(zab .u32 (uw32 x11))]) (a := (uw32 x11)) ti89 rfl rfl rfl rfl hL11 0 rfl rfl hE11 q22 rfl q26 ?_)
   have hl12 : x2.length = List.length x13 := by rw [q26, List.length_set]; exact hl11
   intro w12 cs12 (hL12 : vL w w12 [some b8] [zac ([] ++ (cs12 ++ []))]) hS11 hE12 q27
   have hc13 : (cs12 ++ []).length = m1 * (rInt .u32).sz := by have := hc11; rw [List.length_append] at this ⊢; rw [q27]; exact this
   have K12 := ks w hS11
   refine zan (zah rfl (zaf (zai (v := (zab .u64 (bor .u64 (bshl .u64 rest11 32) (uw x10)))) rfl ?_)))
   refine zaf (zai (v := (zab .u32 pb)) rfl ?_)
   refine zaf (zbp (x := pb) (z := (uw pb)) zat zbc rfl rfl ?_)
   obtain ⟨x14, q28, h⟩ := zdo h
   obtain ⟨q29, q30⟩ := srem_some q28
   subst q30
   refine zaf (OpY.remI (x := (bor .u64 (bshl .u64 rest11 32) (uw x10))) (y := (uw pb)) rfl rfl q29 ?_)
   refine zaf (zak (v := (zab .u64 (Int.tmod (bor .u64 (bshl .u64 rest11 32) (uw x10)) (uw pb)))) rfl ?_)
   refine zan (zbt (zah rfl (zaf (zai (v := (zab .i64 i10)) rfl ?_))))
   refine zaf (zdb (x := i10) (y := 1) (z := (iw (i10 - 1))) rfl rfl rfl ?_)
   refine zaf (zak (v := (zab .i64 (iw (i10 - 1)))) rfl ?_)
   refine zan ?_
   have f14 := (hE12.mono (K12 None))
   obtain rfl := zag h
   refine zar ⟨(x13, (Int.tmod (bor .u64 (bshl .u64 rest11 32) (uw x10)) (uw pb)), (iw (i10 - 1))), rfl, ?_⟩
   exact ⟨cs12, _, (zdt ⟨rfl, rfl, rfl, rfl, rfl, trivial⟩), hL12, (zaq K11 K12), f14, hl12, hc13, trivial⟩
  ·
   replace h := ite_f hc12 h
   refine zcm rfl ?_
   obtain rfl := zag h
   obtain rfl := hd10 _ rfl
   replace h := g10
   try dsimp only at h
   skip
   refine zar ?_
   exact ⟨out11, rest11, cs11, _, rfl, (zdt ⟨rfl, rfl, trivial⟩), hL11, K11, hE11, hl11, hc11, trivial⟩
 ·
  rintro _ w13 ⟨out10, rest10, cs10, u, rfl, rfl, hL13, K13, hE13, hl13, hc14, -⟩
  replace h := g10
  try dsimp only at h
  refine zaj (zah rfl (zaf (zai (v := (osv (some b8) 0 x2.length m1)) rfl ?_)))
  refine zaf (zai (v := (zab .u64 rest10)) rfl ?_)
  refine zaf (zbp (x := rest10) (z := (uw32 rest10)) zbc zat rfl rfl ?_)
  refine zaf (zak (v := (osv (some b8) 0 x2.length m1)) rfl ?_)
  refine zaf (zak (v := (zab .u32 (uw32 rest10))) rfl ?_)
  refine zan (zbj ?_)
  obtain rfl := zag h
  refine ⟨[(osv (some b8) 0 x2.length m1), (zab .u32 (uw32 rest10))], ⟨rfl, rfl, trivial⟩, ⟨_, rfl, hL13.done, ?_⟩⟩
  exact ⟨some b8, m1, cs10, [], (by rw [← hl13]; rfl), (hL13.newOwn [0] rfl rfl rfl), (hE13.mono (Hv.pick [0] rfl)), hc14, trivial⟩
theorem bshift_w (N : Nat) (a : (List Int)) (n : Int) (a_v : Value) (w : World) (S : Nat → Prop) (a_h : Rs (rInt .u32) (vH w S [] w) a_v a) (r : (List Int)) (h : bshift N a n = some r) :
  Calls Try.prog 88 #[a_v, (zab .u64 n)] w (Ret w (fun v w' => ∃ (ob0 : Option Nat) (cap0 : Nat) (cs0 : List Value) (sp0 : List Value), (osv ob0 0 r.length cap0) = v ∧ NewOwn w w' [ob0] [zac ([] ++ (cs0 ++ sp0))] ∧ Els (rInt .u32) (vH w None [ob0] w') cs0 r ∧ (cs0 ++ sp0).length = cap0 * (rInt .u32).sz ∧ True)) := by
 unfold bshift at h
 have hL : vL w w [] [] := Go.X.Loc.begin0 w
 refine calls_of (l := [a_v, (zab .u64 n)]) (rl := [.tmp 4]) (n := 41) Try.func88 rfl rfl rfl (zae rfl) ?_
 refine zaj (zah rfl (zaf (zak (v := (zad none 0 0)) rfl ?_)))
 refine zan (zaj (zah rfl (zaf (zai (v := a_v) rfl ?_))))
 refine zaf (zbd (v := a_v) zal rfl a_h ?_)
 refine zaf (zby (x := (a.length : Int)) (y := 1) (z := (iw ((a.length : Int) + 1))) rfl rfl rfl ?_)
 obtain ⟨x2, q3, h⟩ := zdo h
 obtain ⟨m1, q4, q5, q6, q7⟩ := mk1_some q3
 refine zaf (OpY.mkRowX (r := (rInt .u32)) (H := (vH w None [] w)) (zc := [(zab .u32 0)]) (x := 0) zal ti89 rfl rfl rfl rfl q4 q5 q6 q7 hL ?_)
 intro b8 w10 cs9 hE10 hc10 hL10 hS10
 have K10 := ks w hS10
 refine zaf (zak (v := (osv (some b8) 0 x2.length m1)) rfl ?_)
 refine zan (zaj (zaj (zah rfl (zaf (zai (v := a_v) rfl ?_)))))
 have f10 := (a_h.mono (K10 S))
 refine zaf (zbd (v := a_v) zal rfl f10 ?_)
 refine zaf (zai (v := (zab .i64 0)) rfl ?_)
 refine zan ?_
 obtain ⟨s10, hl10, g10⟩ := zdo h
 refine zbr (fun e w' => ∃ (out10 : (List Int)) (cs10 : List Value) (u : Env), out10 = s10 ∧ e = upds [(5, (osv (some b8) 0 x2.length m1))] u ∧ vL w w' [some b8] [zac ([] ++ (cs10 ++ []))] ∧ Keep w.heap.size [some b8] w10 [some b8] w' ∧ Els (rInt .u32) (vH w None [some b8] w') cs10 out10 ∧ x2.length = List.length out10 ∧ (cs10 ++ []).length = m1 * (rInt .u32).sz ∧ True) ?_ ?_
 ·
  refine zbh ?_
  have f11 := (hE10.mono (K10 None))
  refine zce hl10 (fun (ss : ((List Int) × Int)) (e : Env) (w' : World) => match ss with | (out11, x10) => ∃ (cs11 : List Value) (u : Env), e = upds [(1, (zab .u64 n)), (5, (osv (some b8) 0 x2.length m1)), (13, a_v), (14, (zab .i64 (a.length : Int))), (15, (zab .i64 x10))] u ∧ vL w w' [some b8] [zac ([] ++ (cs11 ++ []))] ∧ Keep w.heap.size [some b8] w10 [some b8] w' ∧ Els (rInt .u32) (vH w None [some b8] w') cs11 out11 ∧ x2.length = List.length out11 ∧ (cs11 ++ []).length = m1 * (rInt .u32).sz ∧ True) ⟨cs9, _, (zdt ⟨rfl, rfl, rfl, rfl, rfl, trivial⟩), hL10, zbo, f11, rfl, hc10, trivial⟩ ?_
  rintro ⟨out11, x10⟩ oo _ w11 ⟨cs11, u, rfl, hL11, K11, hE11, hl11, hc11, -⟩ h hd10
  rw [bshift_b1] at h
  refine zaj (zah rfl (zaf (zcj (x := x10) (y := (a.length : Int)) ((x10 : Int) < (a.length : Int)) rfl rfl zbk ?_)))
  refine zan (zaj ?_)
  refine zbe ((x10 : Int) < (a.length : Int)) rfl (fun hc12 => ?_) (fun hc12 => ?_)
  ·
   replace h := ite_t hc12 h
   refine zbf (zaj (zbh (zaj (zah rfl (zaf (zai (v := (zab .i64 x10)) rfl ?_))))))
   obtain ⟨x11, q10, h⟩ := zdo h
   obtain ⟨n10, q11, q12⟩ := zdu q10
   have f12 := (f10.mono (K11 S))
   obtain ⟨b10, o10, c10, vs10, q13, q14, f13, q15⟩ := zcw f12 q12
   obtain rfl := q15
   refine zaf (zbw (r := (rInt .u32)) (v := a_v) (n := n10) (m := (o10 + n10 * (rInt .u32).sz)) zal ti89 rfl q13 rfl q11 q12 rfl ?_)
   refine zaf (zck (v := (zab .u32 x11)) zat rfl rfl zdy f13 ?_)
   refine zaf (zak (v := (zab .i64 x10)) rfl ?_)
   refine zaf (zak (v := (zab .u32 x11)) rfl ?_)
   refine zan (zaj (zah rfl (zaf (zai (v := (zab .u32 x11)) rfl ?_))))
   refine zaf (zbp (x := x11) (z := (uw x11)) zat zbc rfl rfl ?_)
   refine zaf (zai (v := (zab .u64 n)) rfl ?_)
   obtain ⟨u10, q16, h⟩ := zdo h
   have q17 := chk_some q16
   refine zaf (OpY.ishl (x := (uw x11)) (y := n) rfl rfl q17 ?_)
   refine zaf (zak (v := (zab .u64 (bshl .u64 (uw x11) n))) rfl ?_)
   refine zan (zaj (zah rfl (zaf (zai (v := (osv (some b8) 0 x2.length m1)) rfl ?_))))
   refine zaf (zai (v := (zab .i64 x10)) rfl ?_)
   obtain ⟨x12, q18, h⟩ := zdo h
   obtain ⟨n11, q19, q20⟩ := zdu q18
   have q21 := (List.getElem?_eq_some_iff.1 q20).1
   refine zaf (zcl (r := (rInt .u32)) (b := b8) (o := 0) (n := n11) (m := x2.length) (xs := out11) (q := (0 + n11 * (rInt .u32).sz)) zal ti89 rfl hl11 rfl q19 q21 rfl ?_)
   obtain ⟨vs11, q22, q23, q24⟩ := zed (pre := []) (sp := []) hE11 q20
   obtain rfl := q23
   refine zaf (zdd (v := (zab .u32 x12)) zat rfl rfl (hL11.at 0 rfl rfl) q24 ?_)
   refine zaf (zai (v := (zab .u64 (bshl .u64 (uw x11) n))) rfl ?_)
   refine zaf (zbp (x := (bshl .u64 (uw x11) n)) (z := (uw32 (bshl .u64 (uw x11) n))) zbc zat rfl rfl ?_)
   refine zaf (OpY.ior (x := x12) (y := (uw32 (bshl .u64 (uw x11) n))) rfl rfl ?_)
   obtain ⟨x13, q25, h⟩ := zdo h
   obtain ⟨n12, q26, q27⟩ := zdu q25
   have q28 := (List.getElem?_eq_some_iff.1 q27).1
   refine zaf (zcl (r := (rInt .u32)) (b := b8) (o := 0) (n := n12) (m := x2.length) (xs := out11) (q := (0 + n12 * (rInt .u32).sz)) zal ti89 rfl hl11 rfl q26 q28 rfl ?_)
   obtain ⟨x14, q29, h⟩ := zdo h
   obtain ⟨n13, q30, q31, q32⟩ := zee q29
   obtain rfl := Int.ofNat_inj.1 (q26.symm.trans q30)
   refine zcc (zdj (pre := []) (r := (rInt .u32)) (vs := [(zab .u32 (bor .u32 x12 (uw32 (bshl .u64 (uw x11) n))))]) (a := (bor .u32 x12 (uw32 (bshl .u64 (uw x11) n)))) ti89 rfl rfl rfl rfl hL11 0 rfl rfl hE11 q28 rfl q32 ?_)
   have hl12 : x2.length = List.length x14 := by rw [q32, List.length_set]; exact hl11
   intro w12 cs12 (hL12 : vL w w12 [some b8] [zac ([] ++ (cs12 ++ []))]) hS11 hE12 q33
   have hc13 : (cs12 ++ []).length = m1 * (rInt .u32).sz := by have := hc11; rw [List.length_append] at this ⊢; rw [q33]; exact this
   have K12 := ks w hS11
   refine zan (zah rfl (zaf (zai (v := (osv (some b8) 0 x2.length m1)) rfl ?_)))
   refine zaf (zai (v := (zab .i64 x10)) rfl ?_)
   refine zaf (zby (x := x10) (y := 1) (z := (iw (x10 + 1))) rfl rfl rfl ?_)
   refine zaf (zai (v := (zab .u64 (bshl .u64 (uw x11) n))) rfl ?_)
   refine zaf (OpY.ishr (x := (bshl .u64 (uw x11) n)) (y := 32) rfl rfl (by decide) ?_)
   refine zaf (zbp (x := (bshr .u64 (bshl .u64 (uw x11) n) 32)) (z := (uw32 (bshr .u64 (bshl .u64 (uw x11) n) 32))) zbc zat rfl rfl ?_)
   obtain ⟨x15, q34, h⟩ := zdo h
   obtain ⟨n14, q35, q36⟩ := zdu q34
   have q37 := (List.getElem?_eq_some_iff.1 q36).1
   refine zaf (zcl (r := (rInt .u32)) (b := b8) (o := 0) (n := n14) (m := x2.length) (xs := x14) (q := (0 + n14 * (rInt .u32).sz)) zal ti89 rfl hl12 rfl q35 q37 rfl ?_)
   obtain ⟨x16, q38, h⟩ := zdo h
   obtain ⟨n15, q39, q40, q41⟩ := zee q38
   obtain rfl := Int.ofNat_inj.1 (q35.symm.trans q39)
   have f14 := (hE12.mono (K12 None))
   refine zcc (zdj (pre := []) (r := (rInt .u32)) (vs := [(zab .u32 (uw32 (bshr .u64 (bshl .u64 (uw x11) n) 32)))]) (a := (uw32 (bshr .u64 (bshl .u64 (uw x11) n) 32))) ti89 rfl rfl rfl rfl hL12 0 rfl rfl f14 q37 rfl q41 ?_)
   have hl13 : x2.length = List.length x16 := by rw [q41, List.length_set]; exact hl12
   intro w13 cs13 (hL13 : vL w w13 [some b8] [zac ([] ++ (cs13 ++ []))]) hS12 hE13 q42
   have hc14 : (cs13 ++ []).length = m1 * (rInt .u32).sz := by have := hc13; rw [List.length_append] at this ⊢; rw [q42]; exact this
   have K13 := ks w hS12
   refine zan (zbt (zah rfl (zaf (zby (x := x10) (y := 1) (z := (iw (x10 + 1))) rfl rfl rfl ?_))))
   refine zaf (zai (v := (zab .i64 (iw (x10 + 1)))) rfl ?_)
   refine zan ?_
   have f15 := (hE13.mono (K13 None))
   obtain rfl := zag h
   refine zar ⟨(x16, (iw (x10 + 1))), rfl, ?_⟩
   exact ⟨cs13, _, (zdt ⟨rfl, rfl, rfl, rfl, rfl, trivial⟩), hL13, (zaq (zaq K11 K12) K13), f15, hl13, hc14, trivial⟩
  ·
   replace h := ite_f hc12 h
   refine zcm rfl ?_
   obtain rfl := zag h
   obtain rfl := hd10 _ rfl
   replace h := g10
   try dsimp only at h
   skip
   refine zar ?_
   exact ⟨out11, cs11, _, rfl, (zdt ⟨rfl, trivial⟩), hL11, K11, hE11, hl11, hc11, trivial⟩
 ·
  rintro _ w14 ⟨out10, cs10, u, rfl, rfl, hL14, K14, hE14, hl14, hc15, -⟩
  replace h := g10
  try dsimp only at h
  refine zaj (zah rfl (zaf (zai (v := (osv (some b8) 0 x2.length m1)) rfl ?_)))
  refine zaf (zak (v := (osv (some b8) 0 x2.length m1)) rfl ?_)
  refine zan (zbj ?_)
  obtain rfl := zag h
  refine ⟨[(osv (some b8) 0 x2.length m1)], ⟨rfl, trivial⟩, ⟨_, rfl, hL14.done, ?_⟩⟩
  exact ⟨some b8, m1, cs10, [], (by rw [← hl14]; rfl), (hL14.newOwn [0] rfl rfl rfl), (hE14.mono (Hv.pick [0] rfl)), hc15, trivial⟩
end Go.Proofs.Ytakkacdhlocckaa.WA

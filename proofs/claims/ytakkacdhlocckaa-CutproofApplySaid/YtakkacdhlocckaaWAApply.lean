/- Walks, written by a program of mine (wip/tool); the kernel checks them. -/
import Derived.Test.YtakkacdhlocckaaProg
import Derived.Test.YtakkacdhlocckaaSqApply
import Derived.Test.YtakkacdhlocckaaPA
set_option maxRecDepth 100000
set_option maxHeartbeats 4000000
set_option linter.unusedVariables false
namespace Go.Proofs.Ytakkacdhlocckaa.WA
open Go Go.RowKit Go.X Go.D 
theorem mixed : Try.prog.follows .mixedOrders = true := by kernel_rfl
theorem ti89 : TI Try.prog 89 1 4 (zac .u32 0) := TI.mk (by kernel_rfl)
theorem en90 : Enters Try.prog 90 := ⟨Try.f90, Try.func90, by kernel_rfl, by kernel_rfl⟩
theorem ti26 : TI Try.prog 26 2 32 (zan #[(zaa false), (zad none 0 0)]) := TI.mk (by kernel_rfl)
theorem en83 : Enters Try.prog 83 := ⟨Try.f83, Try.func83, by kernel_rfl, by kernel_rfl⟩
theorem pl26 : placesT Try.prog 26 = some [(0, 1), (1, 1)] := by kernel_rfl
theorem en85 : Enters Try.prog 85 := ⟨Try.f85, Try.func85, by kernel_rfl, by kernel_rfl⟩
theorem en84 : Enters Try.prog 84 := ⟨Try.f84, Try.func84, by kernel_rfl, by kernel_rfl⟩
theorem cloneU32_w (N : Nat) (s : (List Int)) (s_v : Value) (w : World) (S : Nat → Prop) (s_h : Rs (rInt .u32) (vH w S [] w) s_v s) (r : (List Int)) (h : cloneU32 N s = some r) :
  Calls Try.prog 90 #[s_v] w (Ret w (fun v w' => ∃ (ob0 : Option Nat) (cap0 : Nat) (cs0 : List Value) (sp0 : List Value), (osv ob0 0 r.length cap0) = v ∧ NewOwn w w' [ob0] [zab ([] ++ (cs0 ++ sp0))] ∧ Els (rInt .u32) (vH w None [ob0] w') cs0 r ∧ (cs0 ++ sp0).length = cap0 * (rInt .u32).sz ∧ True)) := by
 unfold cloneU32 at h
 have hL : vL w w [] [] := Go.X.Loc.begin0 w
 refine calls_of (l := [s_v]) (rl := [.tmp 2]) (n := 8) Try.func90 rfl rfl rfl (zae rfl) ?_
 refine zaj (zah rfl (zaf (zak (v := (zad none 0 0)) rfl ?_)))
 refine zap (zaj (zaj (zah rfl (zaf (zai (v := s_v) rfl ?_)))))
 refine zaf (OpY.eqlNil (v := s_v) zao rfl s_h.isSlice rfl ?_)
 refine zap ?_
 refine zcu (isNil s_v) rfl (fun hc1 => ?_) (fun hc1 => ?_)
 ·
  have hnil := (Sl.of_isNil s_h hc1).1
  replace h : some [] = some r := by rw [hnil] at h; simpa [apnd] using h
  refine zaj (zah rfl (zaf (zak (v := (zad none 0 0)) rfl ?_)))
  refine zap ?_
  have hp2 := hL.addNil
  have hL3 : vL w w [none] [zab ([] ++ ([] ++ []))] := hp2.1
  have hE6 : Els (rInt .u32) (vH w None [none] w) [] [] := zct
  refine zbl ?_
  obtain rfl := zag h
  refine ⟨[(osv none 0 (List.length ([] : (List Int))) 0)], ⟨rfl, trivial⟩, ⟨_, rfl, hL3.done, ?_⟩⟩
  exact ⟨none, 0, [], [], rfl, (hL3.newOwn [0] rfl rfl rfl), (hE6.mono (Hv.pick [0] rfl)), (show ([] ++ [] : List Value).length = 0 * (rInt .u32).sz by simp), trivial⟩
 ·
  refine zbg (zaj (zah rfl (zaf (OpY.litRow0 zao ti89 hL ?_))))
  intro b7 w11 hL12 hS14
  have hE15 : Els (rInt .u32) (vH w None [] w) [] [] := zct
  have K13 := ks w hS14
  refine zaf (zai (v := s_v) rfl ?_)
  obtain ⟨x16, q17, h⟩ := bind_some h
  obtain ⟨q18, q19, q20⟩ := apnd_some q17
  have f24 := (s_h.mono (K13 S))
  obtain ⟨ds21, q22, q23⟩ := Rs.src f24
  have f32 := (hE15.mono (K13 None))
  refine zaf (zdl (r := (rInt .u32)) (H := (vH w None [some b7] w11)) (cs := []) (sp := []) (xs := ([] : (List Int))) (ys := s) (Y := x16) (n := (List.length ([] : (List Int)))) (cap := 0) (i := 0) zao ti89 rfl rfl rfl rfl hL12 rfl rfl f32 rfl (show ([] ++ [] : List Value).length = 0 * (rInt .u32).sz by simp) q22 (Els.anyH (fun _ _ _ _ h => h) q23) q18 q19 q20 ?_)
  intro ob25 cap26 sp28 cs27 w33 hE29 hc30 (hL34 : vL w w33 [ob25] [zab ([] ++ (cs27 ++ sp28))]) hS36
  have K35 := ks w hS36
  refine zaf (zak (v := (osv ob25 0 x16.length cap26)) rfl ?_)
  refine zap (zbl ?_)
  obtain rfl := zag h
  refine ⟨[(osv ob25 0 x16.length cap26)], ⟨rfl, trivial⟩, ⟨_, rfl, hL34.done, ?_⟩⟩
  have f37 := (hE29.mono (K35 None))
  exact ⟨ob25, cap26, cs27, sp28, rfl, (hL34.newOwn [0] rfl rfl rfl), (f37.mono (Hv.pick [0] rfl)), hc30, trivial⟩
theorem digit_w (N : Nat) (d : (List Int)) (i : Int) (d_v : Value) (w : World) (S : Nat → Prop) (d_h : Rs (rInt .u32) (vH w S [] w) d_v d) (r : Int) (h : digit N d i = some r) :
  Calls Try.prog 84 #[d_v, (zac .i64 i)] w (Ret w (fun v w' => (zac .u64 r) = v ∧ True)) := by
 unfold digit at h
 have hL : vL w w [] [] := Go.X.Loc.begin0 w
 refine calls_of (l := [d_v, (zac .i64 i)]) (rl := [.tmp 4]) (n := 14) Try.func84 rfl rfl rfl (zae rfl) ?_
 refine zaj (zah rfl (zaf (zak (v := (zac .u64 0)) rfl ?_)))
 refine zap (zaj (zaj (zah rfl (zaf (zai (v := (zac .i64 i)) rfl ?_)))))
 refine zaf (zai (v := d_v) rfl ?_)
 refine zaf (zbf (v := d_v) zao rfl d_h ?_)
 refine zaf (zcr (x := i) (y := (d.length : Int)) ((i : Int) < (d.length : Int)) rfl rfl zbk ?_)
 refine zap ?_
 refine zbe ((i : Int) < (d.length : Int)) rfl (fun hc1 => ?_) (fun hc1 => ?_)
 ·
  replace h := ite_t hc1 h
  refine zaj (zah rfl (zaf (zai (v := d_v) rfl ?_)))
  refine zaf (zai (v := (zac .i64 i)) rfl ?_)
  obtain ⟨x2, q3, h⟩ := bind_some h
  obtain ⟨n4, q5, q6⟩ := idx_some q3
  obtain ⟨b7, o8, c9, vs10, q11, q12, f13, q14⟩ := zcz d_h q6
  obtain rfl := q14
  refine zaf (zbv (r := (rInt .u32)) (v := d_v) (n := n4) (m := (o8 + n4 * (rInt .u32).sz)) zao ti89 rfl q11 rfl q5 q6 rfl ?_)
  refine zaf (zck (v := (zac .u32 x2)) zav rfl rfl vw_view f13 ?_)
  refine zaf (zbp (x := x2) (z := (uw x2)) zav zbi rfl rfl ?_)
  refine zaf (zak (v := (zac .u64 (uw x2))) rfl ?_)
  refine zap (zbl ?_)
  obtain rfl := zag h
  refine ⟨[(zac .u64 (uw x2))], ⟨rfl, trivial⟩, ⟨_, rfl, hL.done, ?_⟩⟩
  exact ⟨rfl, trivial⟩
 ·
  replace h := ite_f hc1 h
  refine zbg (zaj (zah rfl (zaf (zak (v := (zac .u64 0)) rfl ?_))))
  refine zap (zbl ?_)
  obtain rfl := zag h
  refine ⟨[(zac .u64 0)], ⟨rfl, trivial⟩, ⟨_, rfl, hL.done, ?_⟩⟩
  exact ⟨rfl, trivial⟩
theorem bsign_w (N : Nat) (n : Int)  (w : World) (S : Nat → Prop)  (r : Int) (h : bsign N n = some r) :
  Calls Try.prog 85 #[(zac .i64 n)] w (Ret w (fun v w' => (zac .i64 r) = v ∧ True)) := by
 unfold bsign at h
 have hL : vL w w [] [] := Go.X.Loc.begin0 w
 refine calls_of (l := [(zac .i64 n)]) (rl := [.tmp 2]) (n := 6) Try.func85 rfl rfl rfl (zae rfl) ?_
 refine zaj (zah rfl (zaf (zak (v := (zac .i64 0)) rfl ?_)))
 refine zap (zaj (zah rfl (zaf (zai (v := (zac .i64 n)) rfl ?_))))
 refine zaf (OpY.max (x := n) (y := (-1)) rfl rfl ?_)
 refine zaf (OpY.min (x := (imax n (-1))) (y := 1) rfl rfl ?_)
 refine zaf (zak (v := (zac .i64 (imin (imax n (-1)) 1))) rfl ?_)
 refine zap (zbl ?_)
 obtain rfl := zag h
 refine ⟨[(zac .i64 (imin (imax n (-1)) 1))], ⟨rfl, trivial⟩, ⟨_, rfl, hL.done, ?_⟩⟩
 exact ⟨rfl, trivial⟩
theorem btrim_w (N : Nat) (d : (List Int)) (d_v : Value) (w : World) (S : Nat → Prop) (d_h : Rs (rInt .u32) (vH w S [] w) d_v d) (r : (List Int)) (h : btrim N d = some r) :
  Calls Try.prog 83 #[d_v] w (Ret w (fun v w' => ∃ (ob0 : Option Nat) (cap0 : Nat) (cs0 : List Value) (sp0 : List Value), (osv ob0 0 r.length cap0) = v ∧ NewOwn w w' [ob0] [zab ([] ++ (cs0 ++ sp0))] ∧ Els (rInt .u32) (vH w None [ob0] w') cs0 r ∧ (cs0 ++ sp0).length = cap0 * (rInt .u32).sz ∧ True)) := by
 unfold btrim at h
 have hL : vL w w [] [] := Go.X.Loc.begin0 w
 refine calls_of (l := [d_v]) (rl := [.tmp 2]) (n := 22) Try.func83 rfl rfl rfl (zae rfl) ?_
 refine zaj (zah rfl (zaf (zak (v := (zad none 0 0)) rfl ?_)))
 refine zap (zaj (zah rfl (zaf (zai (v := d_v) rfl ?_))))
 refine zaf (zbf (v := d_v) zao rfl d_h ?_)
 refine zaf (zak (v := (zac .i64 (d.length : Int))) rfl ?_)
 refine zap (zaj ?_)
 obtain ⟨s84, hl86, g85⟩ := bind_some h
 refine zbr (fun e w' => ∃ (n83 : Int) (u : Env), n83 = s84 ∧ e = upds [(0, d_v), (3, (zac .i64 n83))] u ∧ vL w w' [] [] ∧ Keep w.heap.size [] w [] w' ∧ True) ?_ ?_
 ·
  refine zbj ?_
  refine zcg hl86 (fun (ss : Int) (e : Env) (w' : World) => match ss with | n82 => ∃ (u : Env), e = upds [(0, d_v), (3, (zac .i64 n82))] u ∧ vL w w' [] [] ∧ Keep w.heap.size [] w [] w' ∧ True) ⟨_, (upds_sym ⟨rfl, rfl, trivial⟩), hL, zbo, trivial⟩ ?_
  rintro n82 oo _ w88 ⟨u, rfl, hL89, K90, -⟩ h hd87
  rw [btrim_b1] at h
  refine zaj (zaj ?_)
  obtain ⟨s107, h, g108⟩ := bind_some h
  refine zbr (fun e w' => ∃ (x106 : Bool) (u : Env), x106 = s107 ∧ e = upds [(0, d_v), (3, (zac .i64 n82)), (15, (zaa x106))] u ∧ vL w w' [] [] ∧ Keep w.heap.size [] w88 [] w' ∧ True) ?_ ?_
  ·
   refine zah rfl (zaf (zai (v := (zac .i64 n82)) rfl ?_))
   refine zaf (zdm (x := n82) (y := 0) ((n82 : Int) > 0) rfl rfl zbk ?_)
   refine zaf (zai (v := (zaa (decide ((n82 : Int) > 0)))) rfl ?_)
   by_cases hc109 : (n82 : Int) > 0
   ·
    replace h := ite_t hc109 h
    refine zbu rfl rfl (decide_eq_true hc109) (zai (v := d_v) rfl ?_)
    refine zbu rfl rfl (decide_eq_true hc109) (zai (v := (zac .i64 n82)) rfl ?_)
    refine zbu rfl rfl (decide_eq_true hc109) (zdd (x := n82) (y := 1) (z := (iw (n82 - 1))) rfl rfl rfl ?_)
    obtain ⟨x110, q111, h⟩ := bind_some h
    obtain ⟨n112, q113, q114⟩ := idx_some q111
    have f123 := (d_h.mono (K90 S))
    obtain ⟨b115, o116, c117, vs118, q119, q120, f121, q122⟩ := zcz f123 q114
    obtain rfl := q122
    refine zbu rfl rfl (decide_eq_true hc109) (zbv (r := (rInt .u32)) (v := d_v) (n := n112) (m := (o116 + n112 * (rInt .u32).sz)) zao ti89 rfl q119 rfl q113 q114 rfl ?_)
    refine zbu rfl rfl (decide_eq_true hc109) (zck (v := (zac .u32 x110)) zav rfl rfl vw_view f121 ?_)
    refine zbu rfl rfl (decide_eq_true hc109) (OpY.eql (x := x110) (y := 0) ((x110 : Int) = 0) rfl rfl zbk ?_)
    refine zaf (zcm (t := (decide ((n82 : Int) > 0))) (v := (zaa (decide ((x110 : Int) = 0)))) rfl (decide_eq_true hc109) rfl ?_)
    refine zap ?_
    obtain rfl := zag h
    refine zas ?_
    exact ⟨(decide ((x110 : Int) = 0)), _, rfl, (upds_sym ⟨rfl, rfl, rfl, trivial⟩), hL89, zbo, trivial⟩
   ·
    replace h := ite_f hc109 h
    refine zbt rfl rfl (decide_eq_false hc109) ?_
    refine zbt rfl rfl (decide_eq_false hc109) ?_
    refine zbt rfl rfl (decide_eq_false hc109) ?_
    refine zbt rfl rfl (decide_eq_false hc109) ?_
    refine zbt rfl rfl (decide_eq_false hc109) ?_
    refine zbt rfl rfl (decide_eq_false hc109) ?_
    refine zaf (zbz (t := (decide ((n82 : Int) > 0))) (v := (zaa false)) rfl (decide_eq_false hc109) rfl ?_)
    refine zap ?_
    obtain rfl := zag h
    refine zas ?_
    exact ⟨false, _, rfl, (upds_sym ⟨rfl, rfl, rfl, trivial⟩), hL89, zbo, trivial⟩
  ·
   rintro _ w124 ⟨x106, u, rfl, rfl, hL125, K126, -⟩
   replace h := g108
   try dsimp only at h
   refine zcu x106 rfl (fun hc127 => ?_) (fun hc127 => ?_)
   ·
    replace h := ite_t hc127 h
    refine zbg (zbj (zah rfl (zaf (zai (v := (zac .i64 n82)) rfl ?_))))
    refine zaf (zdd (x := n82) (y := 1) (z := (iw (n82 - 1))) rfl rfl rfl ?_)
    refine zaf (zak (v := (zac .i64 (iw (n82 - 1)))) rfl ?_)
    refine zap (zbs ?_)
    obtain rfl := zag h
    refine zas ⟨(iw (n82 - 1)), rfl, ?_⟩
    exact ⟨_, (upds_sym ⟨rfl, rfl, trivial⟩), hL125, (zaq K90 K126), trivial⟩
   ·
    replace h := ite_f hc127 h
    refine zcs rfl ?_
    obtain rfl := zag h
    obtain rfl := hd87 _ rfl
    replace h := g85
    try dsimp only at h
    skip
    refine zas ?_
    exact ⟨n82, _, rfl, (upds_sym ⟨rfl, rfl, trivial⟩), hL125, (zaq K90 K126), trivial⟩
 ·
  rintro _ w128 ⟨n83, u, rfl, rfl, hL129, K130, -⟩
  replace h := g85
  try dsimp only at h
  refine zaj (zah rfl (zaf (zai (v := d_v) rfl ?_)))
  refine zaf (zai (v := (zac .i64 n83)) rfl ?_)
  obtain ⟨x131, q132, h⟩ := bind_some h
  obtain ⟨m133, n134, q135, q136, q137, q138, q139⟩ := cut_some q132
  have f142 := (d_h.mono (K130 S))
  refine zaf (OpY.cutRoX (l := m133) (h' := n134) zao ti89 rfl f142 (.inl ⟨rfl, by omega⟩) (.inr ⟨_, _, rfl, by rw [← q136]; rfl⟩) q137 q138 q139 ?_)
  intro v140 k141
  obtain ⟨r146, q147, h⟩ := bind_some h
  refine zaf (zaw en90 rfl rfl (cloneU32_w N x131 v140 _ Any (k141.mono vw_any) r146 q147) ?_)
  rintro _ w156 hE159 ⟨ob148, cap149, cs150, sp151, rfl, hN155, hE152, hc153, -⟩
  replace hE152 := hE152.mono (zbc (S := None) hL129 [ob148])
  have hp160 := hL129.adoptL hE159 hN155
  have hL157 := hp160.1
  refine zaf (zak (v := (osv ob148 0 r146.length cap149)) rfl ?_)
  refine zap (zbl ?_)
  obtain rfl := zag h
  refine ⟨[(osv ob148 0 r146.length cap149)], ⟨rfl, trivial⟩, ⟨_, rfl, hL157.done, ?_⟩⟩
  exact ⟨ob148, cap149, cs150, sp151, rfl, (hL157.newOwn [0] rfl rfl rfl), (hE152.mono (Hv.pick [0] rfl)), hc153, trivial⟩
theorem bnormal_w (N : Nat) (negative : Bool) (d : (List Int)) (d_v : Value) (w : World) (S : Nat → Prop) (d_h : Rs (rInt .u32) (vH w S [] w) d_v d) (r : Big) (h : bnormal N negative d = some r) :
  Calls Try.prog 73 #[(zaa negative), d_v] w (Ret w (fun v w' => ∃ (v0_0 : Value), (zan #[(zaa r.Negative), v0_0]) = v ∧ Rs (rInt .u32) (vH w None [] w') v0_0 r.Digits ∧ True)) := by
 unfold bnormal at h
 have hL : vL w w [] [] := Go.X.Loc.begin0 w
 refine calls_of (l := [(zaa negative), d_v]) (rl := [.cell 4 26]) (n := 14) Try.func73 rfl rfl rfl (zae rfl) ?_
 refine zaj (zah rfl (zaf (zbw (cs := [(zaa false), (zad none 0 0)]) ti26 rfl hL ?_)))
 intro b1 w2 hL3 hS5
 have K4 := ks w hS5
 refine zap (zaj (zah rfl (zaf (zai (v := d_v) rfl ?_))))
 obtain ⟨r6, q7, h⟩ := bind_some h
 have f16 := (d_h.mono (K4 S))
 refine zaf (zaw en83 rfl rfl (btrim_w N d d_v _ Any (f16.mono vw_any) r6 q7) ?_)
 rintro _ w17 hE20 ⟨ob8, cap9, cs10, sp11, rfl, hN15, hE12, hc13, -⟩
 replace hE12 := hE12.mono (zbc (S := None) hL3 [ob8])
 have hp21 := hL3.adoptL hE20 hN15
 have hL18 := hp21.1
 refine zaf (zak (v := (osv ob8 0 r6.length cap9)) rfl ?_)
 refine zap (zaj (zaj (zah rfl (zaf (zai (v := (osv ob8 0 r6.length cap9)) rfl ?_)))))
 refine zaf (OpY.lenRow (pre := []) (r := (rInt .u32)) (xs := r6) zao rfl (hL18.at 0 rfl rfl) hE12 rfl rfl ?_)
 refine zaf (OpY.eql (x := (r6.length : Int)) (y := 0) (((r6.length : Int) : Int) = 0) rfl rfl zbk ?_)
 refine zap ?_
 refine zbe (((r6.length : Int) : Int) = 0) rfl (fun hc22 => ?_) (fun hc22 => ?_)
 ·
  replace h := ite_t hc22 h
  refine zaj (zah rfl (zaf (zcx (zc := [(zaa false), (zad none 0 0)]) (cs := [(zaa false), (zad none 0 0)]) (is := []) (vs := []) (css := []) pl26 ti26 rfl rfl rfl trivial rfl ?_)))
  refine zcb (zbh (vs := [(zaa false), (zad none 0 0)]) ti26 rfl rfl rfl rfl (ones_cons rfl (ones_cons rfl ones_nil)) hL18 1 rfl rfl (zae rfl) ?_)
  intro w23 (hL24 : vL w w23 [ob8, some b1] [zab ([] ++ (cs10 ++ sp11)), zab [(zaa false), (zad none 0 0)]]) hS26
  refine zap (zbl ?_)
  obtain rfl := zag h
  refine ⟨[(zan #[(zaa false), (zad none 0 0)])], ⟨⟨⟨b1, 0, none⟩, rfl, res_boxA zal rfl ti26 (hL24.at 1 rfl rfl) rfl⟩, trivial⟩, ⟨_, rfl, hL24.done, ?_⟩⟩
  exact ⟨(zad none 0 0), rfl, zdj, trivial⟩
 ·
  replace h := ite_f hc22 h
  refine zbg (zaj (zah rfl (zaf (zai (v := (zaa negative)) rfl ?_))))
  refine zaf (zai (v := (osv ob8 0 r6.length cap9)) rfl ?_)
  refine zaf (zcx (zc := [(zaa false), (zad none 0 0)]) (cs := [(zaa negative), (osv ob8 0 r6.length cap9)]) (is := [0, 1]) (vs := [(zaa negative), (osv ob8 0 r6.length cap9)]) (css := [[(zaa negative)], [(osv ob8 0 r6.length cap9)]]) pl26 ti26 rfl rfl rfl ⟨rfl, ⟨(one_cells (osv_one _ _ _ _)), trivial⟩⟩ rfl ?_)
  refine zcb (zbh (vs := [(zaa negative), (osv ob8 0 r6.length cap9)]) ti26 rfl rfl rfl rfl (ones_cons rfl (ones_cons (osv_one _ _ _ _) ones_nil)) hL18 1 rfl rfl (zae rfl) ?_)
  intro w27 (hL28 : vL w w27 [ob8, some b1] [zab ([] ++ (cs10 ++ sp11)), zab [(zaa negative), (osv ob8 0 r6.length cap9)]]) hS30
  have K29 := ks w hS30
  refine zap ?_
  have f32 := (hE12.mono (K29 None))
  have f31 := hL28.freezeRow 0 rfl rfl f32 rfl rfl rfl hc13
  have hp33 := hL28.pick [1] rfl rfl rfl
  have hL35 : vL w w27 [some b1] [zab [(zaa negative), (osv ob8 0 r6.length cap9)]] := hp33.1
  refine zbl ?_
  obtain rfl := zag h
  refine ⟨[(zan #[(zaa negative), (osv ob8 0 r6.length cap9)])], ⟨⟨⟨b1, 0, none⟩, rfl, res_boxA zal rfl ti26 (hL35.at 0 rfl rfl) rfl⟩, trivial⟩, ⟨_, rfl, hL35.done, ?_⟩⟩
  exact ⟨(osv ob8 0 r6.length cap9), rfl, (f31.mono zdf), trivial⟩
theorem bcompare_w (N : Nat) (a : (List Int)) (b : (List Int)) (a_v : Value) (b_v : Value) (w : World) (S : Nat → Prop) (a_h : Rs (rInt .u32) (vH w S [] w) a_v a) (b_h : Rs (rInt .u32) (vH w S [] w) b_v b) (r : Int) (h : bcompare N a b = some r) :
  Calls Try.prog 75 #[a_v, b_v] w (Ret w (fun v w' => (zac .i64 r) = v ∧ True)) := by
 unfold bcompare at h
 have hL : vL w w [] [] := Go.X.Loc.begin0 w
 refine calls_of (l := [a_v, b_v]) (rl := [.tmp 4]) (n := 42) Try.func75 rfl rfl rfl (zae rfl) ?_
 refine zaj (zah rfl (zaf (zak (v := (zac .i64 0)) rfl ?_)))
 refine zap (zaj (zaj (zah rfl (zaf (zai (v := a_v) rfl ?_)))))
 refine zaf (zbf (v := a_v) zao rfl a_h ?_)
 refine zaf (zai (v := b_v) rfl ?_)
 refine zaf (zbf (v := b_v) zao rfl b_h ?_)
 refine zaf (OpY.neq (x := (a.length : Int)) (y := (b.length : Int)) (((a.length : Int) : Int) ≠ (b.length : Int)) rfl rfl zbk ?_)
 refine zap ?_
 refine zbe (((a.length : Int) : Int) ≠ (b.length : Int)) rfl (fun hc1 => ?_) (fun hc1 => ?_)
 ·
  replace h := ite_t hc1 h
  refine zaj (zah rfl (zaf (zai (v := a_v) rfl ?_)))
  refine zaf (zbf (v := a_v) zao rfl a_h ?_)
  refine zaf (zai (v := b_v) rfl ?_)
  refine zaf (zbf (v := b_v) zao rfl b_h ?_)
  refine zaf (zdd (x := (a.length : Int)) (y := (b.length : Int)) (z := (iw ((a.length : Int) - (b.length : Int)))) rfl rfl rfl ?_)
  obtain ⟨r2, q3, h⟩ := bind_some h
  refine zaf (zaw en85 rfl rfl (bsign_w N (iw ((a.length : Int) - (b.length : Int))) _ Any r2 q3) ?_)
  rintro _ w5 hE8 ⟨rfl, -⟩
  have hL6 := hL.ext hE8
  refine zaf (zak (v := (zac .i64 r2)) rfl ?_)
  refine zap (zbl ?_)
  obtain rfl := zag h
  refine ⟨[(zac .i64 r2)], ⟨rfl, trivial⟩, ⟨_, rfl, hL6.done, ?_⟩⟩
  exact ⟨rfl, trivial⟩
 ·
  replace h := ite_f hc1 h
  refine zbg (zaj (zaj (zah rfl (zaf (zai (v := a_v) rfl ?_)))))
  refine zaf (zbf (v := a_v) zao rfl a_h ?_)
  refine zaf (zdd (x := (a.length : Int)) (y := 1) (z := (iw ((a.length : Int) - 1))) rfl rfl rfl ?_)
  refine zaf (zak (v := (zac .i64 (iw ((a.length : Int) - 1)))) rfl ?_)
  refine zap ?_
  obtain ⟨s375, hl377, g376⟩ := bind_some h
  refine zbr (fun e w' => ∃  (u : Env), (Sum.inl ()) = s375 ∧ e = upds [] u ∧ vL w w' [] [] ∧ Keep w.heap.size [] w [] w' ∧ True) ?_ ?_
  ·
   refine zbj ?_
   refine zcg hl377 (fun (ss : Int) (e : Env) (w' : World) => match ss with | i374 => ∃ (u : Env), e = upds [(0, a_v), (1, b_v), (5, (zac .i64 i374))] u ∧ vL w w' [] [] ∧ Keep w.heap.size [] w [] w' ∧ True) ⟨_, (upds_sym ⟨rfl, rfl, rfl, trivial⟩), hL, zbo, trivial⟩ ?_
   rintro i374 oo _ w379 ⟨u, rfl, hL380, K381, -⟩ h hd378
   rw [bcompare_b1] at h
   refine zaj (zaj (zah rfl (zaf (zai (v := (zac .i64 i374)) rfl ?_))))
   refine zaf (OpY.geq (x := i374) (y := 0) ((i374 : Int) ≥ 0) rfl rfl zbk ?_)
   refine zap ?_
   refine zbe ((i374 : Int) ≥ 0) rfl (fun hc382 => ?_) (fun hc382 => ?_)
   ·
    replace h := ite_t hc382 h
    refine zbg (zaj (zbj (zaj (zaj ?_))))
    obtain ⟨x383, q384, h⟩ := bind_some h
    obtain ⟨n385, q386, q387⟩ := idx_some q384
    have f396 := (a_h.mono (K381 S))
    obtain ⟨b388, o389, c390, vs391, q392, q393, f394, q395⟩ := zcz f396 q387
    obtain rfl := q395
    obtain ⟨x397, q398, h⟩ := bind_some h
    obtain ⟨n399, q400, q401⟩ := idx_some q398
    have f410 := (b_h.mono (K381 S))
    obtain ⟨b402, o403, c404, vs405, q406, q407, f408, q409⟩ := zcz f410 q401
    obtain rfl := q409
    refine zcc 8 [] [] (fun W1 => [.det a_v, .det (zac .i64 i374), .det (zam (some ⟨b388, (o389 + n385 * (rInt .u32).sz), none⟩)), .det (zac .u32 x383), .det b_v, .det (zac .i64 i374), .det (zam (some ⟨b402, (o403 + n399 * (rInt .u32).sz), none⟩)), .det (zac .u32 x397)]) mixed rfl rfl rfl (fun _ => rfl) (fun _ => rfl) ?_ ?_
    ·
     intro W1 _
     exact trivial
    ·
     intro w411 hE412
     have hL413 := hL380.ext hE412
     have K414 := ke hL380 hE412
     refine zau (fun _ _ => zat (zai rfl (er rfl))) ?_
     refine zau (fun _ _ => zat (zai rfl (er rfl))) ?_
     refine zau (fun _ _ => zat (zbv (r := (rInt .u32)) (v := a_v) (n := n385) (m := (o389 + n385 * (rInt .u32).sz)) zao ti89 rfl q392 rfl q386 q387 rfl (er rfl))) ?_
     refine zau (fun _ hE435 => zat (zck zav rfl rfl vw_view (zcw ((ke hL413 hE435) S) (zcw (K414 S) f394)) (er rfl))) ?_
     refine zau (fun _ _ => zat (zai rfl (er rfl))) ?_
     refine zau (fun _ _ => zat (zai rfl (er rfl))) ?_
     refine zau (fun _ _ => zat (zbv (r := (rInt .u32)) (v := b_v) (n := n399) (m := (o403 + n399 * (rInt .u32).sz)) zao ti89 rfl q406 rfl q400 q401 rfl (er rfl))) ?_
     refine zau (fun _ hE459 => zat (zck zav rfl rfl vw_view (zcw ((ke hL413 hE459) S) (zcw (K414 S) f408)) (er rfl))) ?_
     refine zcn ?_
     rintro w463 Z464 hE465 hZ466 ⟨-⟩ ap467
     have hB468 : ∀ b, some b ∈ ([] : List (Option Nat)) → w411.heap.size ≤ b ∧ ¬ Z464 b := by
      intro b hb; cases hb
     have hL469 := hL413.ext hE465
     have K470 := ke hL413 hE465
     refine zaf (zcr (x := x383) (y := x397) ((x383 : Int) < x397) rfl rfl zbk ?_)
     refine zap ?_
     refine zbe ((x383 : Int) < x397) rfl (fun hc471 => ?_) (fun hc471 => ?_)
     ·
      replace h := ite_t hc471 h
      refine zaj (zah rfl (zaf (zak (v := (zac .i64 (-1))) rfl ?_)))
      refine zap (zbl ?_)
      obtain rfl := zag h
      obtain rfl := hd378 _ rfl
      replace h := g376
      try dsimp only at h
      obtain rfl := zag h
      refine ⟨[(zac .i64 (-1))], ⟨rfl, trivial⟩, ⟨_, rfl, hL469.done, ?_⟩⟩
      exact ⟨rfl, trivial⟩
     ·
      replace h := ite_f hc471 h
      refine zbg (zaj ?_)
      obtain ⟨x472, q473, h⟩ := bind_some h
      obtain ⟨n474, q475, q476⟩ := idx_some q473
      have f485 := ((f396.mono (K414 S)).mono (K470 S))
      obtain ⟨b477, o478, c479, vs480, q481, q482, f483, q484⟩ := zcz f485 q476
      obtain rfl := q484
      obtain ⟨x486, q487, h⟩ := bind_some h
      obtain ⟨n488, q489, q490⟩ := idx_some q487
      have f499 := ((f410.mono (K414 S)).mono (K470 S))
      obtain ⟨b491, o492, c493, vs494, q495, q496, f497, q498⟩ := zcz f499 q490
      obtain rfl := q498
      refine zcc 8 [] [] (fun W1 => [.det a_v, .det (zac .i64 i374), .det (zam (some ⟨b477, (o478 + n474 * (rInt .u32).sz), none⟩)), .det (zac .u32 x472), .det b_v, .det (zac .i64 i374), .det (zam (some ⟨b491, (o492 + n488 * (rInt .u32).sz), none⟩)), .det (zac .u32 x486)]) mixed rfl rfl rfl (fun _ => rfl) (fun _ => rfl) ?_ ?_
      ·
       intro W1 _
       exact trivial
      ·
       intro w500 hE501
       have hL502 := hL469.ext hE501
       have K503 := ke hL469 hE501
       refine zau (fun _ _ => zat (zai rfl (er rfl))) ?_
       refine zau (fun _ _ => zat (zai rfl (er rfl))) ?_
       refine zau (fun _ _ => zat (zbv (r := (rInt .u32)) (v := a_v) (n := n474) (m := (o478 + n474 * (rInt .u32).sz)) zao ti89 rfl q481 rfl q475 q476 rfl (er rfl))) ?_
       refine zau (fun _ hE524 => zat (zck zav rfl rfl vw_view (zcw ((ke hL502 hE524) S) (zcw (K503 S) f483)) (er rfl))) ?_
       refine zau (fun _ _ => zat (zai rfl (er rfl))) ?_
       refine zau (fun _ _ => zat (zai rfl (er rfl))) ?_
       refine zau (fun _ _ => zat (zbv (r := (rInt .u32)) (v := b_v) (n := n488) (m := (o492 + n488 * (rInt .u32).sz)) zao ti89 rfl q495 rfl q489 q490 rfl (er rfl))) ?_
       refine zau (fun _ hE548 => zat (zck zav rfl rfl vw_view (zcw ((ke hL502 hE548) S) (zcw (K503 S) f497)) (er rfl))) ?_
       refine zcn ?_
       rintro w552 Z553 hE554 hZ555 ⟨-⟩ ap556
       have hB557 : ∀ b, some b ∈ ([] : List (Option Nat)) → w500.heap.size ≤ b ∧ ¬ Z553 b := by
        intro b hb; cases hb
       have hL558 := hL502.ext hE554
       have K559 := ke hL502 hE554
       refine zaf (zdm (x := x472) (y := x486) ((x472 : Int) > x486) rfl rfl zbk ?_)
       refine zap ?_
       refine zbe ((x472 : Int) > x486) rfl (fun hc560 => ?_) (fun hc560 => ?_)
       ·
        replace h := ite_t hc560 h
        refine zaj (zah rfl (zaf (zak (v := (zac .i64 1)) rfl ?_)))
        refine zap (zbl ?_)
        obtain rfl := zag h
        obtain rfl := hd378 _ rfl
        replace h := g376
        try dsimp only at h
        obtain rfl := zag h
        refine ⟨[(zac .i64 1)], ⟨rfl, trivial⟩, ⟨_, rfl, hL558.done, ?_⟩⟩
        exact ⟨rfl, trivial⟩
       ·
        replace h := ite_f hc560 h
        refine zbg (zbs (zah rfl (zaf (zai (v := (zac .i64 i374)) rfl ?_))))
        refine zaf (zdd (x := i374) (y := 1) (z := (iw (i374 - 1))) rfl rfl rfl ?_)
        refine zaf (zak (v := (zac .i64 (iw (i374 - 1)))) rfl ?_)
        refine zap ?_
        obtain rfl := zag h
        refine zas ⟨(iw (i374 - 1)), rfl, ?_⟩
        exact ⟨_, (upds_sym ⟨rfl, rfl, rfl, trivial⟩), hL558, (zaq (zaq (zaq (zaq K381 K414) K470) K503) K559), trivial⟩
   ·
    replace h := ite_f hc382 h
    refine zcs rfl ?_
    obtain rfl := zag h
    obtain rfl := hd378 _ rfl
    replace h := g376
    try dsimp only at h
    skip
    refine zas ?_
    exact ⟨_, rfl, (upds_sym trivial), hL380, K381, trivial⟩
  ·
   rintro _ w561 ⟨u, rfl, rfl, hL562, K563, -⟩
   replace h := g376
   try dsimp only at h
   refine zaj (zah rfl (zaf (zak (v := (zac .i64 0)) rfl ?_)))
   refine zap (zbl ?_)
   obtain rfl := zag h
   refine ⟨[(zac .i64 0)], ⟨rfl, trivial⟩, ⟨_, rfl, hL562.done, ?_⟩⟩
   exact ⟨rfl, trivial⟩
theorem bplus_w (N : Nat) (a : (List Int)) (b : (List Int)) (a_v : Value) (b_v : Value) (w : World) (S : Nat → Prop) (a_h : Rs (rInt .u32) (vH w S [] w) a_v a) (b_h : Rs (rInt .u32) (vH w S [] w) b_v b) (r : (List Int)) (h : bplus N a b = some r) :
  Calls Try.prog 74 #[a_v, b_v] w (Ret w (fun v w' => ∃ (ob0 : Option Nat) (cap0 : Nat) (cs0 : List Value) (sp0 : List Value), (osv ob0 0 r.length cap0) = v ∧ NewOwn w w' [ob0] [zab ([] ++ (cs0 ++ sp0))] ∧ Els (rInt .u32) (vH w None [ob0] w') cs0 r ∧ (cs0 ++ sp0).length = cap0 * (rInt .u32).sz ∧ True)) := by
 unfold bplus at h
 have hL : vL w w [] [] := Go.X.Loc.begin0 w
 refine calls_of (l := [a_v, b_v]) (rl := [.tmp 4]) (n := 38) Try.func74 rfl rfl rfl (zae rfl) ?_
 refine zaj (zah rfl (zaf (zak (v := (zad none 0 0)) rfl ?_)))
 refine zap (zaj (zah rfl (zaf (zai (v := a_v) rfl ?_))))
 refine zaf (zbf (v := a_v) zao rfl a_h ?_)
 refine zaf (zai (v := b_v) rfl ?_)
 refine zaf (zbf (v := b_v) zao rfl b_h ?_)
 refine zaf (OpY.max (x := (a.length : Int)) (y := (b.length : Int)) rfl rfl ?_)
 refine zaf (zcd (x := (imax (a.length : Int) (b.length : Int))) (y := 1) (z := (iw ((imax (a.length : Int) (b.length : Int)) + 1))) rfl rfl rfl ?_)
 obtain ⟨x2, q3, h⟩ := bind_some h
 obtain ⟨m1, q4, q5, q6, q7⟩ := mk1_some q3
 refine zaf (OpY.mkRowX (r := (rInt .u32)) (H := (vH w None [] w)) (zc := [(zac .u32 0)]) (x := 0) zao ti89 rfl rfl rfl rfl q4 q5 q6 q7 hL ?_)
 intro b8 w13 cs9 hE10 hc11 hL14 hS16
 have K15 := ks w hS16
 refine zaf (zak (v := (osv (some b8) 0 x2.length m1)) rfl ?_)
 refine zap (zaj (zah rfl (zaf (zak (v := (zac .u64 0)) rfl ?_))))
 refine zap (zaj (zaj (zah rfl (zaf (zai (v := (osv (some b8) 0 x2.length m1)) rfl ?_)))))
 have f17 := (hE10.mono (K15 None))
 refine zaf (OpY.lenRow (pre := []) (r := (rInt .u32)) (xs := x2) zao rfl (hL14.at 0 rfl rfl) f17 rfl rfl ?_)
 refine zaf (zai (v := (zac .i64 0)) rfl ?_)
 refine zap ?_
 obtain ⟨s125, hl127, g126⟩ := bind_some h
 refine zbr (fun e w' => ∃ (out121 : (List Int)) (cs120 : List Value) (u : Env), out121 = s125 ∧ e = upds [(5, (osv (some b8) 0 x2.length m1))] u ∧ vL w w' [some b8] [zab ([] ++ (cs120 ++ []))] ∧ Keep w.heap.size [some b8] w13 [some b8] w' ∧ Els (rInt .u32) (vH w None [some b8] w') cs120 out121 ∧ x2.length = List.length out121 ∧ (cs120 ++ []).length = m1 * (rInt .u32).sz ∧ True) ?_ ?_
 ·
  refine zbj ?_
  refine zcg hl127 (fun (ss : ((List Int) × Int × Int)) (e : Env) (w' : World) => match ss with | (out113, carry117, x118) => ∃ (cs112 : List Value) (u : Env), e = upds [(0, a_v), (1, b_v), (5, (osv (some b8) 0 x2.length m1)), (6, (zac .u64 carry117)), (16, (zac .i64 (x2.length : Int))), (17, (zac .i64 x118))] u ∧ vL w w' [some b8] [zab ([] ++ (cs112 ++ []))] ∧ Keep w.heap.size [some b8] w13 [some b8] w' ∧ Els (rInt .u32) (vH w None [some b8] w') cs112 out113 ∧ x2.length = List.length out113 ∧ (cs112 ++ []).length = m1 * (rInt .u32).sz ∧ True) ⟨cs9, _, (upds_sym ⟨rfl, rfl, rfl, rfl, rfl, rfl, trivial⟩), hL14, zbo, f17, rfl, hc11, trivial⟩ ?_
  rintro ⟨out113, carry117, x118⟩ oo _ w129 ⟨cs112, u, rfl, hL130, K131, hE114, hl116, hc115, -⟩ h hd128
  rw [bplus_b1] at h
  refine zaj (zah rfl (zaf (zcr (x := x118) (y := (x2.length : Int)) ((x118 : Int) < (x2.length : Int)) rfl rfl zbk ?_)))
  refine zap (zaj ?_)
  refine zbe ((x118 : Int) < (x2.length : Int)) rfl (fun hc132 => ?_) (fun hc132 => ?_)
  ·
   replace h := ite_t hc132 h
   refine zbg (zaj (zbj (zaj (zah rfl (zaf (zai (v := (zac .i64 x118)) rfl ?_))))))
   refine zaf (zak (v := (zac .i64 x118)) rfl ?_)
   refine zap (zaj (zah rfl (zaf (zai (v := (zac .u64 carry117)) rfl ?_))))
   refine zaf (zai (v := a_v) rfl ?_)
   refine zaf (zai (v := (zac .i64 x118)) rfl ?_)
   obtain ⟨r133, q134, h⟩ := bind_some h
   have f136 := ((a_h.mono (K15 S)).mono (K131 S))
   refine zaf (zaw en84 rfl rfl (digit_w N a x118 a_v _ Any (f136.mono vw_any) r133 q134) ?_)
   rintro _ w137 hE140 ⟨rfl, -⟩
   have hL138 := hL130.ext hE140
   have K139 := ke hL130 hE140
   refine zaf (zai (v := b_v) rfl ?_)
   refine zaf (zai (v := (zac .i64 x118)) rfl ?_)
   obtain ⟨r141, q142, h⟩ := bind_some h
   have f144 := (((b_h.mono (K15 S)).mono (K131 S)).mono (K139 S))
   refine zaf (zaw en84 rfl rfl (digit_w N b x118 b_v _ Any (f144.mono vw_any) r141 q142) ?_)
   rintro _ w145 hE148 ⟨rfl, -⟩
   have hL146 := hL138.ext hE148
   have K147 := ke hL138 hE148
   refine zaf (zcd (x := r133) (y := r141) (z := (uw (r133 + r141))) rfl rfl rfl ?_)
   refine zaf (zcd (x := carry117) (y := (uw (r133 + r141))) (z := (uw (carry117 + (uw (r133 + r141))))) rfl rfl rfl ?_)
   refine zaf (zak (v := (zac .u64 (uw (carry117 + (uw (r133 + r141)))))) rfl ?_)
   refine zap (zaj (zah rfl (zaf (zai (v := (osv (some b8) 0 x2.length m1)) rfl ?_))))
   refine zaf (zai (v := (zac .i64 x118)) rfl ?_)
   refine zaf (zai (v := (zac .u64 (uw (carry117 + (uw (r133 + r141)))))) rfl ?_)
   refine zaf (zbp (x := (uw (carry117 + (uw (r133 + r141))))) (z := (uw32 (uw (carry117 + (uw (r133 + r141)))))) zbi zav rfl rfl ?_)
   obtain ⟨x149, q150, h⟩ := bind_some h
   obtain ⟨n151, q152, q153⟩ := idx_some q150
   have q154 := (List.getElem?_eq_some_iff.1 q153).1
   refine zaf (zci (r := (rInt .u32)) (b := b8) (o := 0) (n := n151) (m := x2.length) (xs := out113) (q := (0 + n151 * (rInt .u32).sz)) zao ti89 rfl hl116 rfl q152 q154 rfl ?_)
   obtain ⟨x155, q156, h⟩ := bind_some h
   obtain ⟨n157, q158, q159, q160⟩ := upd1_some q156
   obtain rfl := Int.ofNat_inj.1 (q152.symm.trans q158)
   have f161 := ((hE114.mono (K139 None)).mono (K147 None))
   refine zcb (zdh (pre := []) (r := (rInt .u32)) (vs := [(zac .u32 (uw32 (uw (carry117 + (uw (r133 + r141))))))]) (a := (uw32 (uw (carry117 + (uw (r133 + r141)))))) ti89 rfl rfl rfl rfl hL146 0 rfl rfl f161 q154 rfl q160 ?_)
   have hl169 : x2.length = List.length x155 := by rw [q160, List.length_set]; exact hl116
   intro w162 cs166 (hL163 : vL w w162 [some b8] [zab ([] ++ (cs166 ++ []))]) hS165 hE167 q168
   have hc170 : (cs166 ++ []).length = m1 * (rInt .u32).sz := by have := hc115; rw [List.length_append] at this ⊢; rw [q168]; exact this
   have K164 := ks w hS165
   refine zap (zah rfl (zaf (zai (v := (zac .u64 (uw (carry117 + (uw (r133 + r141)))))) rfl ?_)))
   refine zaf (OpY.ishr (x := (uw (carry117 + (uw (r133 + r141))))) (y := 32) rfl rfl (by decide) ?_)
   refine zaf (zak (v := (zac .u64 (bshr .u64 (uw (carry117 + (uw (r133 + r141)))) 32))) rfl ?_)
   refine zap (zbs (zah rfl (zaf (zcd (x := x118) (y := 1) (z := (iw (x118 + 1))) rfl rfl rfl ?_))))
   refine zaf (zai (v := (zac .i64 (iw (x118 + 1)))) rfl ?_)
   refine zap ?_
   have f171 := (hE167.mono (K164 None))
   obtain rfl := zag h
   refine zas ⟨(x155, (bshr .u64 (uw (carry117 + (uw (r133 + r141)))) 32), (iw (x118 + 1))), rfl, ?_⟩
   exact ⟨cs166, _, (upds_sym ⟨rfl, rfl, rfl, rfl, rfl, rfl, trivial⟩), hL163, (zaq (zaq (zaq K131 K139) K147) K164), f171, hl169, hc170, trivial⟩
  ·
   replace h := ite_f hc132 h
   refine zcs rfl ?_
   obtain rfl := zag h
   obtain rfl := hd128 _ rfl
   replace h := g126
   try dsimp only at h
   skip
   refine zas ?_
   exact ⟨out113, cs112, _, rfl, (upds_sym ⟨rfl, trivial⟩), hL130, K131, hE114, hl116, hc115, trivial⟩
 ·
  rintro _ w172 ⟨out121, cs120, u, rfl, rfl, hL173, K174, hE122, hl124, hc123, -⟩
  replace h := g126
  try dsimp only at h
  refine zaj (zah rfl (zaf (zai (v := (osv (some b8) 0 x2.length m1)) rfl ?_)))
  refine zaf (zak (v := (osv (some b8) 0 x2.length m1)) rfl ?_)
  refine zap (zbl ?_)
  obtain rfl := zag h
  refine ⟨[(osv (some b8) 0 x2.length m1)], ⟨rfl, trivial⟩, ⟨_, rfl, hL173.done, ?_⟩⟩
  exact ⟨some b8, m1, cs120, [], (by rw [← hl124]; rfl), (hL173.newOwn [0] rfl rfl rfl), (hE122.mono (Hv.pick [0] rfl)), hc123, trivial⟩
theorem bminus_w (N : Nat) (a : (List Int)) (b : (List Int)) (a_v : Value) (b_v : Value) (w : World) (S : Nat → Prop) (a_h : Rs (rInt .u32) (vH w S [] w) a_v a) (b_h : Rs (rInt .u32) (vH w S [] w) b_v b) (r : (List Int)) (h : bminus N a b = some r) :
  Calls Try.prog 76 #[a_v, b_v] w (Ret w (fun v w' => ∃ (ob0 : Option Nat) (cap0 : Nat) (cs0 : List Value) (sp0 : List Value), (osv ob0 0 r.length cap0) = v ∧ NewOwn w w' [ob0] [zab ([] ++ (cs0 ++ sp0))] ∧ Els (rInt .u32) (vH w None [ob0] w') cs0 r ∧ (cs0 ++ sp0).length = cap0 * (rInt .u32).sz ∧ True)) := by
 unfold bminus at h
 have hL : vL w w [] [] := Go.X.Loc.begin0 w
 refine calls_of (l := [a_v, b_v]) (rl := [.tmp 4]) (n := 37) Try.func76 rfl rfl rfl (zae rfl) ?_
 refine zaj (zah rfl (zaf (zak (v := (zad none 0 0)) rfl ?_)))
 refine zap (zaj (zah rfl (zaf (zai (v := a_v) rfl ?_))))
 refine zaf (zbf (v := a_v) zao rfl a_h ?_)
 obtain ⟨x2, q3, h⟩ := bind_some h
 obtain ⟨m1, q4, q5, q6, q7⟩ := mk1_some q3
 refine zaf (OpY.mkRowX (r := (rInt .u32)) (H := (vH w None [] w)) (zc := [(zac .u32 0)]) (x := 0) zao ti89 rfl rfl rfl rfl q4 q5 q6 q7 hL ?_)
 intro b8 w13 cs9 hE10 hc11 hL14 hS16
 have K15 := ks w hS16
 refine zaf (zak (v := (osv (some b8) 0 x2.length m1)) rfl ?_)
 refine zap (zaj (zah rfl (zaf (zak (v := (zac .u64 0)) rfl ?_))))
 refine zap (zaj (zaj (zah rfl (zaf (zai (v := a_v) rfl ?_)))))
 have f17 := (a_h.mono (K15 S))
 refine zaf (zbf (v := a_v) zao rfl f17 ?_)
 refine zaf (zai (v := (zac .i64 0)) rfl ?_)
 refine zap ?_
 obtain ⟨s275, hl277, g276⟩ := bind_some h
 refine zbr (fun e w' => ∃ (out271 : (List Int)) (cs270 : List Value) (u : Env), out271 = s275 ∧ e = upds [(5, (osv (some b8) 0 x2.length m1))] u ∧ vL w w' [some b8] [zab ([] ++ (cs270 ++ []))] ∧ Keep w.heap.size [some b8] w13 [some b8] w' ∧ Els (rInt .u32) (vH w None [some b8] w') cs270 out271 ∧ x2.length = List.length out271 ∧ (cs270 ++ []).length = m1 * (rInt .u32).sz ∧ True) ?_ ?_
 ·
  refine zbj ?_
  have f279 := (hE10.mono (K15 None))
  refine zcg hl277 (fun (ss : ((List Int) × Int × Int)) (e : Env) (w' : World) => match ss with | (out263, borrow267, x268) => ∃ (cs262 : List Value) (u : Env), e = upds [(0, a_v), (1, b_v), (5, (osv (some b8) 0 x2.length m1)), (6, (zac .u64 borrow267)), (13, (zac .i64 (a.length : Int))), (14, (zac .i64 x268))] u ∧ vL w w' [some b8] [zab ([] ++ (cs262 ++ []))] ∧ Keep w.heap.size [some b8] w13 [some b8] w' ∧ Els (rInt .u32) (vH w None [some b8] w') cs262 out263 ∧ x2.length = List.length out263 ∧ (cs262 ++ []).length = m1 * (rInt .u32).sz ∧ True) ⟨cs9, _, (upds_sym ⟨rfl, rfl, rfl, rfl, rfl, rfl, trivial⟩), hL14, zbo, f279, rfl, hc11, trivial⟩ ?_
  rintro ⟨out263, borrow267, x268⟩ oo _ w280 ⟨cs262, u, rfl, hL281, K282, hE264, hl266, hc265, -⟩ h hd278
  rw [bminus_b1] at h
  refine zaj (zah rfl (zaf (zcr (x := x268) (y := (a.length : Int)) ((x268 : Int) < (a.length : Int)) rfl rfl zbk ?_)))
  refine zap (zaj ?_)
  refine zbe ((x268 : Int) < (a.length : Int)) rfl (fun hc283 => ?_) (fun hc283 => ?_)
  ·
   replace h := ite_t hc283 h
   refine zbg (zaj (zbj (zaj (zah rfl (zaf (zai (v := (zac .i64 x268)) rfl ?_))))))
   refine zaf (zak (v := (zac .i64 x268)) rfl ?_)
   refine zap (zaj ?_)
   obtain ⟨x284, q285, h⟩ := bind_some h
   obtain ⟨n286, q287, q288⟩ := idx_some q285
   have f297 := (f17.mono (K282 S))
   obtain ⟨b289, o290, c291, vs292, q293, q294, f295, q296⟩ := zcz f297 q288
   obtain rfl := q296
   obtain ⟨r298, q299, h⟩ := bind_some h
   refine zcc 10 [] [] (fun W1 => [.det a_v, .det (zac .i64 x268), .det (zam (some ⟨b289, (o290 + n286 * (rInt .u32).sz), none⟩)), .det (zac .u32 x284), .det (zac .u64 (uw x284)), .det b_v, .det (zac .i64 x268), .det (zac .u64 r298), .det (zac .u64 (uw ((uw x284) - r298))), .det (zac .u64 borrow267)]) mixed rfl rfl rfl (fun _ => rfl) (fun _ => rfl) ?_ ?_
   ·
    intro W1 _
    exact trivial
   ·
    intro w301 hE302
    have hL303 := hL281.ext hE302
    have K304 := ke hL281 hE302
    refine zau (fun _ _ => zat (zai rfl (er rfl))) ?_
    refine zau (fun _ _ => zat (zai rfl (er rfl))) ?_
    refine zau (fun _ _ => zat (zbv (r := (rInt .u32)) (v := a_v) (n := n286) (m := (o290 + n286 * (rInt .u32).sz)) zao ti89 rfl q293 rfl q287 q288 rfl (er rfl))) ?_
    refine zau (fun _ hE325 => zat (zck zav rfl rfl vw_view (zcw ((ke hL303 hE325) S) (zcw (K304 S) f295)) (er rfl))) ?_
    refine zau (fun _ _ => zat (zbp zav zbi rfl rfl (er rfl))) ?_
    refine zau (fun _ _ => zat (zai rfl (er rfl))) ?_
    refine zau (fun _ _ => zat (zai rfl (er rfl))) ?_
    refine DrH.det ?_ ?_
    ·
     rintro w347 Z348 hE349 hZ350 ⟨-⟩
     have K352 := ke hL303 hE349
     refine zat (zaw en84 rfl rfl (digit_w N b x268 b_v _ Any (((((b_h.mono (K15 S)).mono (K282 S)).mono (K304 S)).mono (K352 S)).mono vw_any) r298 q299) ?_)
     rintro _ w353 hE354 ⟨rfl, -⟩
     exact ⟨hE354, rfl⟩
    refine zau (fun _ _ => zat (zdd rfl rfl rfl (er rfl))) ?_
    refine zau (fun _ _ => zat (zai rfl (er rfl))) ?_
    refine zcn ?_
    rintro w367 Z368 hE369 hZ370 ⟨-⟩ ap371
    have hB372 : ∀ b, some b ∈ ([] : List (Option Nat)) → w301.heap.size ≤ b ∧ ¬ Z368 b := by
     intro b hb; cases hb
    have hL373 := hL303.ext hE369
    have K374 := ke hL303 hE369
    refine zaf (zdd (x := (uw ((uw x284) - r298))) (y := borrow267) (z := (uw ((uw ((uw x284) - r298)) - borrow267))) rfl rfl rfl ?_)
    refine zaf (zak (v := (zac .u64 (uw ((uw ((uw x284) - r298)) - borrow267)))) rfl ?_)
    refine zap (zaj (zah rfl (zaf (zai (v := (osv (some b8) 0 x2.length m1)) rfl ?_))))
    refine zaf (zai (v := (zac .i64 x268)) rfl ?_)
    refine zaf (zai (v := (zac .u64 (uw ((uw ((uw x284) - r298)) - borrow267)))) rfl ?_)
    refine zaf (zbp (x := (uw ((uw ((uw x284) - r298)) - borrow267))) (z := (uw32 (uw ((uw ((uw x284) - r298)) - borrow267)))) zbi zav rfl rfl ?_)
    obtain ⟨x375, q376, h⟩ := bind_some h
    obtain ⟨n377, q378, q379⟩ := idx_some q376
    have q380 := (List.getElem?_eq_some_iff.1 q379).1
    refine zaf (zci (r := (rInt .u32)) (b := b8) (o := 0) (n := n377) (m := x2.length) (xs := out263) (q := (0 + n377 * (rInt .u32).sz)) zao ti89 rfl hl266 rfl q378 q380 rfl ?_)
    obtain ⟨x381, q382, h⟩ := bind_some h
    obtain ⟨n383, q384, q385, q386⟩ := upd1_some q382
    obtain rfl := Int.ofNat_inj.1 (q378.symm.trans q384)
    have f387 := ((hE264.mono (K304 None)).mono (K374 None))
    refine zcb (zdh (pre := []) (r := (rInt .u32)) (vs := [(zac .u32 (uw32 (uw ((uw ((uw x284) - r298)) - borrow267))))]) (a := (uw32 (uw ((uw ((uw x284) - r298)) - borrow267)))) ti89 rfl rfl rfl rfl hL373 0 rfl rfl f387 q380 rfl q386 ?_)
    have hl395 : x2.length = List.length x381 := by rw [q386, List.length_set]; exact hl266
    intro w388 cs392 (hL389 : vL w w388 [some b8] [zab ([] ++ (cs392 ++ []))]) hS391 hE393 q394
    have hc396 : (cs392 ++ []).length = m1 * (rInt .u32).sz := by have := hc265; rw [List.length_append] at this ⊢; rw [q394]; exact this
    have K390 := ks w hS391
    refine zap (zah rfl (zaf (zai (v := (zac .u64 (uw ((uw ((uw x284) - r298)) - borrow267)))) rfl ?_)))
    refine zaf (OpY.ishr (x := (uw ((uw ((uw x284) - r298)) - borrow267))) (y := 63) rfl rfl (by decide) ?_)
    refine zaf (zak (v := (zac .u64 (bshr .u64 (uw ((uw ((uw x284) - r298)) - borrow267)) 63))) rfl ?_)
    refine zap (zbs (zah rfl (zaf (zcd (x := x268) (y := 1) (z := (iw (x268 + 1))) rfl rfl rfl ?_))))
    refine zaf (zai (v := (zac .i64 (iw (x268 + 1)))) rfl ?_)
    refine zap ?_
    have f397 := (hE393.mono (K390 None))
    obtain rfl := zag h
    refine zas ⟨(x381, (bshr .u64 (uw ((uw ((uw x284) - r298)) - borrow267)) 63), (iw (x268 + 1))), rfl, ?_⟩
    exact ⟨cs392, _, (upds_sym ⟨rfl, rfl, rfl, rfl, rfl, rfl, trivial⟩), hL389, (zaq (zaq (zaq K282 K304) K374) K390), f397, hl395, hc396, trivial⟩
  ·
   replace h := ite_f hc283 h
   refine zcs rfl ?_
   obtain rfl := zag h
   obtain rfl := hd278 _ rfl
   replace h := g276
   try dsimp only at h
   skip
   refine zas ?_
   exact ⟨out263, cs262, _, rfl, (upds_sym ⟨rfl, trivial⟩), hL281, K282, hE264, hl266, hc265, trivial⟩
 ·
  rintro _ w398 ⟨out271, cs270, u, rfl, rfl, hL399, K400, hE272, hl274, hc273, -⟩
  replace h := g276
  try dsimp only at h
  refine zaj (zah rfl (zaf (zai (v := (osv (some b8) 0 x2.length m1)) rfl ?_)))
  refine zaf (zak (v := (osv (some b8) 0 x2.length m1)) rfl ?_)
  refine zap (zbl ?_)
  obtain rfl := zag h
  refine ⟨[(osv (some b8) 0 x2.length m1)], ⟨rfl, trivial⟩, ⟨_, rfl, hL399.done, ?_⟩⟩
  exact ⟨some b8, m1, cs270, [], (by rw [← hl274]; rfl), (hL399.newOwn [0] rfl rfl rfl), (hE272.mono (Hv.pick [0] rfl)), hc273, trivial⟩
theorem btimes_w (N : Nat) (a : (List Int)) (b : (List Int)) (a_v : Value) (b_v : Value) (w : World) (S : Nat → Prop) (a_h : Rs (rInt .u32) (vH w S [] w) a_v a) (b_h : Rs (rInt .u32) (vH w S [] w) b_v b) (r : (List Int)) (h : btimes N a b = some r) :
  Calls Try.prog 77 #[a_v, b_v] w (Ret w (fun v w' => ∃ (ob0 : Option Nat) (cap0 : Nat) (cs0 : List Value) (sp0 : List Value), (osv ob0 0 r.length cap0) = v ∧ NewOwn w w' [ob0] [zab ([] ++ (cs0 ++ sp0))] ∧ Els (rInt .u32) (vH w None [ob0] w') cs0 r ∧ (cs0 ++ sp0).length = cap0 * (rInt .u32).sz ∧ True)) := by
 unfold btimes at h
 have hL : vL w w [] [] := Go.X.Loc.begin0 w
 refine calls_of (l := [a_v, b_v]) (rl := [.tmp 4]) (n := 66) Try.func77 rfl rfl rfl (zae rfl) ?_
 refine zaj (zah rfl (zaf (zak (v := (zad none 0 0)) rfl ?_)))
 refine zap (zaj (zah rfl (zaf (zai (v := a_v) rfl ?_))))
 refine zaf (zbf (v := a_v) zao rfl a_h ?_)
 refine zaf (zai (v := b_v) rfl ?_)
 refine zaf (zbf (v := b_v) zao rfl b_h ?_)
 refine zaf (zcd (x := (a.length : Int)) (y := (b.length : Int)) (z := (iw ((a.length : Int) + (b.length : Int)))) rfl rfl rfl ?_)
 obtain ⟨x2, q3, h⟩ := bind_some h
 obtain ⟨m1, q4, q5, q6, q7⟩ := mk1_some q3
 refine zaf (OpY.mkRowX (r := (rInt .u32)) (H := (vH w None [] w)) (zc := [(zac .u32 0)]) (x := 0) zao ti89 rfl rfl rfl rfl q4 q5 q6 q7 hL ?_)
 intro b8 w13 cs9 hE10 hc11 hL14 hS16
 have K15 := ks w hS16
 refine zaf (zak (v := (osv (some b8) 0 x2.length m1)) rfl ?_)
 refine zap (zaj (zaj (zah rfl (zaf (zai (v := a_v) rfl ?_)))))
 have f17 := (a_h.mono (K15 S))
 refine zaf (zbf (v := a_v) zao rfl f17 ?_)
 refine zaf (zai (v := (zac .i64 0)) rfl ?_)
 refine zap ?_
 obtain ⟨s482, hl484, g483⟩ := bind_some h
 refine zbr (fun e w' => ∃ (out478 : (List Int)) (cs477 : List Value) (u : Env), out478 = s482 ∧ e = upds [(5, (osv (some b8) 0 x2.length m1))] u ∧ vL w w' [some b8] [zab ([] ++ (cs477 ++ []))] ∧ Keep w.heap.size [some b8] w13 [some b8] w' ∧ Els (rInt .u32) (vH w None [some b8] w') cs477 out478 ∧ x2.length = List.length out478 ∧ (cs477 ++ []).length = m1 * (rInt .u32).sz ∧ True) ?_ ?_
 ·
  refine zbj ?_
  have f486 := (hE10.mono (K15 None))
  refine zcg hl484 (fun (ss : ((List Int) × Int)) (e : Env) (w' : World) => match ss with | (out471, x475) => ∃ (cs470 : List Value) (u : Env), e = upds [(1, b_v), (5, (osv (some b8) 0 x2.length m1)), (17, a_v), (18, (zac .i64 (a.length : Int))), (19, (zac .i64 x475))] u ∧ vL w w' [some b8] [zab ([] ++ (cs470 ++ []))] ∧ Keep w.heap.size [some b8] w13 [some b8] w' ∧ Els (rInt .u32) (vH w None [some b8] w') cs470 out471 ∧ x2.length = List.length out471 ∧ (cs470 ++ []).length = m1 * (rInt .u32).sz ∧ True) ⟨cs9, _, (upds_sym ⟨rfl, rfl, rfl, rfl, rfl, trivial⟩), hL14, zbo, f486, rfl, hc11, trivial⟩ ?_
  rintro ⟨out471, x475⟩ oo _ w487 ⟨cs470, u, rfl, hL488, K489, hE472, hl474, hc473, -⟩ h hd485
  rw [btimes_b1] at h
  refine zaj (zah rfl (zaf (zcr (x := x475) (y := (a.length : Int)) ((x475 : Int) < (a.length : Int)) rfl rfl zbk ?_)))
  refine zap (zaj ?_)
  refine zbe ((x475 : Int) < (a.length : Int)) rfl (fun hc490 => ?_) (fun hc490 => ?_)
  ·
   replace h := ite_t hc490 h
   refine zbg (zaj (zbj (zaj (zah rfl (zaf (zai (v := (zac .i64 x475)) rfl ?_))))))
   obtain ⟨x491, q492, h⟩ := bind_some h
   obtain ⟨n493, q494, q495⟩ := idx_some q492
   have f504 := (f17.mono (K489 S))
   obtain ⟨b496, o497, c498, vs499, q500, q501, f502, q503⟩ := zcz f504 q495
   obtain rfl := q503
   refine zaf (zbv (r := (rInt .u32)) (v := a_v) (n := n493) (m := (o497 + n493 * (rInt .u32).sz)) zao ti89 rfl q500 rfl q494 q495 rfl ?_)
   refine zaf (zck (v := (zac .u32 x491)) zav rfl rfl vw_view f502 ?_)
   refine zaf (zak (v := (zac .i64 x475)) rfl ?_)
   refine zaf (zak (v := (zac .u32 x491)) rfl ?_)
   refine zap (zaj (zah rfl (zaf (zak (v := (zac .u64 0)) rfl ?_))))
   refine zap (zaj (zaj (zah rfl (zaf (zai (v := b_v) rfl ?_)))))
   have f505 := ((b_h.mono (K15 S)).mono (K489 S))
   refine zaf (zbf (v := b_v) zao rfl f505 ?_)
   refine zaf (zai (v := (zac .i64 0)) rfl ?_)
   refine zap ?_
   obtain ⟨s629, hl631, g630⟩ := bind_some h
   refine zbr (fun e w' => ∃ (out624 : (List Int)) (carry628 : Int) (cs623 : List Value) (u : Env), (out624, carry628) = s629 ∧ e = upds [(1, b_v), (5, (osv (some b8) 0 x2.length m1)), (6, (zac .i64 x475)), (8, (zac .u64 carry628)), (17, a_v), (18, (zac .i64 (a.length : Int))), (19, (zac .i64 x475))] u ∧ vL w w' [some b8] [zab ([] ++ (cs623 ++ []))] ∧ Keep w.heap.size [some b8] w487 [some b8] w' ∧ Els (rInt .u32) (vH w None [some b8] w') cs623 out624 ∧ x2.length = List.length out624 ∧ (cs623 ++ []).length = m1 * (rInt .u32).sz ∧ True) ?_ ?_
   ·
    refine zbj ?_
    refine zcg hl631 (fun (ss : ((List Int) × Int × Int)) (e : Env) (w' : World) => match ss with | (out616, carry620, x621) => ∃ (cs615 : List Value) (u : Env), e = upds [(1, b_v), (5, (osv (some b8) 0 x2.length m1)), (6, (zac .i64 x475)), (7, (zac .u32 x491)), (8, (zac .u64 carry620)), (17, a_v), (18, (zac .i64 (a.length : Int))), (19, (zac .i64 x475)), (24, b_v), (25, (zac .i64 (b.length : Int))), (26, (zac .i64 x621))] u ∧ vL w w' [some b8] [zab ([] ++ (cs615 ++ []))] ∧ Keep w.heap.size [some b8] w487 [some b8] w' ∧ Els (rInt .u32) (vH w None [some b8] w') cs615 out616 ∧ x2.length = List.length out616 ∧ (cs615 ++ []).length = m1 * (rInt .u32).sz ∧ True) ⟨cs470, _, (upds_sym ⟨rfl, rfl, rfl, rfl, rfl, rfl, rfl, rfl, rfl, rfl, rfl, trivial⟩), hL488, zbo, hE472, hl474, hc473, trivial⟩ ?_
    rintro ⟨out616, carry620, x621⟩ oo _ w633 ⟨cs615, u, rfl, hL634, K635, hE617, hl619, hc618, -⟩ h hd632
    rw [btimes_b2] at h
    refine zaj (zah rfl (zaf (zcr (x := x621) (y := (b.length : Int)) ((x621 : Int) < (b.length : Int)) rfl rfl zbk ?_)))
    refine zap (zaj ?_)
    refine zbe ((x621 : Int) < (b.length : Int)) rfl (fun hc636 => ?_) (fun hc636 => ?_)
    ·
     replace h := ite_t hc636 h
     refine zbg (zaj (zbj (zaj (zah rfl (zaf (zai (v := (zac .i64 x621)) rfl ?_))))))
     obtain ⟨x637, q638, h⟩ := bind_some h
     obtain ⟨n639, q640, q641⟩ := idx_some q638
     have f650 := (f505.mono (K635 S))
     obtain ⟨b642, o643, c644, vs645, q646, q647, f648, q649⟩ := zcz f650 q641
     obtain rfl := q649
     refine zaf (zbv (r := (rInt .u32)) (v := b_v) (n := n639) (m := (o643 + n639 * (rInt .u32).sz)) zao ti89 rfl q646 rfl q640 q641 rfl ?_)
     refine zaf (zck (v := (zac .u32 x637)) zav rfl rfl vw_view f648 ?_)
     refine zaf (zak (v := (zac .i64 x621)) rfl ?_)
     refine zaf (zak (v := (zac .u32 x637)) rfl ?_)
     refine zap (zaj (zah rfl (zaf (zai (v := (zac .u64 carry620)) rfl ?_))))
     refine zaf (zai (v := (zac .u32 x491)) rfl ?_)
     refine zaf (zbp (x := x491) (z := (uw x491)) zav zbi rfl rfl ?_)
     refine zaf (zai (v := (zac .u32 x637)) rfl ?_)
     refine zaf (zbp (x := x637) (z := (uw x637)) zav zbi rfl rfl ?_)
     refine zaf (OpY.mul (x := (uw x491)) (y := (uw x637)) (z := (uw ((uw x491) * (uw x637)))) rfl rfl rfl ?_)
     refine zaf (zai (v := (osv (some b8) 0 x2.length m1)) rfl ?_)
     refine zaf (zai (v := (zac .i64 x475)) rfl ?_)
     refine zaf (zai (v := (zac .i64 x621)) rfl ?_)
     refine zaf (zcd (x := x475) (y := x621) (z := (iw (x475 + x621))) rfl rfl rfl ?_)
     obtain ⟨x651, q652, h⟩ := bind_some h
     obtain ⟨n653, q654, q655⟩ := idx_some q652
     have q656 := (List.getElem?_eq_some_iff.1 q655).1
     refine zaf (zci (r := (rInt .u32)) (b := b8) (o := 0) (n := n653) (m := x2.length) (xs := out616) (q := (0 + n653 * (rInt .u32).sz)) zao ti89 rfl hl619 rfl q654 q656 rfl ?_)
     obtain ⟨vs657, q658, q659, q660⟩ := row_elem (pre := []) (sp := []) hE617 q655
     obtain rfl := q659
     refine zaf (zde (v := (zac .u32 x651)) zav rfl rfl (hL634.at 0 rfl rfl) q660 ?_)
     refine zaf (zbp (x := x651) (z := (uw x651)) zav zbi rfl rfl ?_)
     refine zaf (zcd (x := (uw ((uw x491) * (uw x637)))) (y := (uw x651)) (z := (uw ((uw ((uw x491) * (uw x637))) + (uw x651)))) rfl rfl rfl ?_)
     refine zaf (zcd (x := carry620) (y := (uw ((uw ((uw x491) * (uw x637))) + (uw x651)))) (z := (uw (carry620 + (uw ((uw ((uw x491) * (uw x637))) + (uw x651)))))) rfl rfl rfl ?_)
     refine zaf (zak (v := (zac .u64 (uw (carry620 + (uw ((uw ((uw x491) * (uw x637))) + (uw x651))))))) rfl ?_)
     refine zap (zaj (zah rfl (zaf (zai (v := (osv (some b8) 0 x2.length m1)) rfl ?_))))
     refine zaf (zai (v := (zac .i64 x475)) rfl ?_)
     refine zaf (zai (v := (zac .i64 x621)) rfl ?_)
     refine zaf (zcd (x := x475) (y := x621) (z := (iw (x475 + x621))) rfl rfl rfl ?_)
     refine zaf (zai (v := (zac .u64 (uw (carry620 + (uw ((uw ((uw x491) * (uw x637))) + (uw x651))))))) rfl ?_)
     refine zaf (zbp (x := (uw (carry620 + (uw ((uw ((uw x491) * (uw x637))) + (uw x651)))))) (z := (uw32 (uw (carry620 + (uw ((uw ((uw x491) * (uw x637))) + (uw x651))))))) zbi zav rfl rfl ?_)
     obtain ⟨x661, q662, h⟩ := bind_some h
     obtain ⟨n663, q664, q665⟩ := idx_some q662
     have q666 := (List.getElem?_eq_some_iff.1 q665).1
     refine zaf (zci (r := (rInt .u32)) (b := b8) (o := 0) (n := n663) (m := x2.length) (xs := out616) (q := (0 + n663 * (rInt .u32).sz)) zao ti89 rfl hl619 rfl q664 q666 rfl ?_)
     obtain ⟨x667, q668, h⟩ := bind_some h
     obtain ⟨n669, q670, q671, q672⟩ := upd1_some q668
     obtain rfl := Int.ofNat_inj.1 (q664.symm.trans q670)
     refine zcb (zdh (pre := []) (r := (rInt .u32)) (vs := [(zac .u32 (uw32 (uw (carry620 + (uw ((uw ((uw x491) * (uw x637))) + (uw x651)))))))]) (a := (uw32 (uw (carry620 + (uw ((uw ((uw x491) * (uw x637))) + (uw x651))))))) ti89 rfl rfl rfl rfl hL634 0 rfl rfl hE617 q666 rfl q672 ?_)
     have hl680 : x2.length = List.length x667 := by rw [q672, List.length_set]; exact hl619
     intro w673 cs677 (hL674 : vL w w673 [some b8] [zab ([] ++ (cs677 ++ []))]) hS676 hE678 q679
     have hc681 : (cs677 ++ []).length = m1 * (rInt .u32).sz := by have := hc618; rw [List.length_append] at this ⊢; rw [q679]; exact this
     have K675 := ks w hS676
     refine zap (zah rfl (zaf (zai (v := (zac .u64 (uw (carry620 + (uw ((uw ((uw x491) * (uw x637))) + (uw x651))))))) rfl ?_)))
     refine zaf (OpY.ishr (x := (uw (carry620 + (uw ((uw ((uw x491) * (uw x637))) + (uw x651)))))) (y := 32) rfl rfl (by decide) ?_)
     refine zaf (zak (v := (zac .u64 (bshr .u64 (uw (carry620 + (uw ((uw ((uw x491) * (uw x637))) + (uw x651))))) 32))) rfl ?_)
     refine zap (zbs (zah rfl (zaf (zcd (x := x621) (y := 1) (z := (iw (x621 + 1))) rfl rfl rfl ?_))))
     refine zaf (zai (v := (zac .i64 (iw (x621 + 1)))) rfl ?_)
     refine zap ?_
     have f682 := (hE678.mono (K675 None))
     obtain rfl := zag h
     refine zas ⟨(x667, (bshr .u64 (uw (carry620 + (uw ((uw ((uw x491) * (uw x637))) + (uw x651))))) 32), (iw (x621 + 1))), rfl, ?_⟩
     exact ⟨cs677, _, (upds_sym ⟨rfl, rfl, rfl, rfl, rfl, rfl, rfl, rfl, rfl, rfl, rfl, trivial⟩), hL674, (zaq K635 K675), f682, hl680, hc681, trivial⟩
    ·
     replace h := ite_f hc636 h
     refine zcs rfl ?_
     obtain rfl := zag h
     obtain rfl := hd632 _ rfl
     replace h := g630
     try dsimp only at h
     skip
     refine zas ?_
     exact ⟨out616, carry620, cs615, _, rfl, (upds_sym ⟨rfl, rfl, rfl, rfl, rfl, rfl, rfl, trivial⟩), hL634, K635, hE617, hl619, hc618, trivial⟩
   ·
    rintro _ w683 ⟨out624, carry628, cs623, u, rfl, rfl, hL684, K685, hE625, hl627, hc626, -⟩
    replace h := g630
    try dsimp only at h
    refine zah rfl (zaf (zai (v := (osv (some b8) 0 x2.length m1)) rfl ?_))
    refine zaf (zai (v := (zac .i64 x475)) rfl ?_)
    refine zaf (zai (v := b_v) rfl ?_)
    have f686 := (f505.mono (K685 S))
    refine zaf (zbf (v := b_v) zao rfl f686 ?_)
    refine zaf (zcd (x := x475) (y := (b.length : Int)) (z := (iw (x475 + (b.length : Int)))) rfl rfl rfl ?_)
    refine zaf (zai (v := (zac .u64 carry628)) rfl ?_)
    refine zaf (zbp (x := carry628) (z := (uw32 carry628)) zbi zav rfl rfl ?_)
    obtain ⟨x687, q688, h⟩ := bind_some h
    obtain ⟨n689, q690, q691⟩ := idx_some q688
    have q692 := (List.getElem?_eq_some_iff.1 q691).1
    refine zaf (zci (r := (rInt .u32)) (b := b8) (o := 0) (n := n689) (m := x2.length) (xs := out624) (q := (0 + n689 * (rInt .u32).sz)) zao ti89 rfl hl627 rfl q690 q692 rfl ?_)
    obtain ⟨x693, q694, h⟩ := bind_some h
    obtain ⟨n695, q696, q697, q698⟩ := upd1_some q694
    obtain rfl := Int.ofNat_inj.1 (q690.symm.trans q696)
    refine zcb (zdh (pre := []) (r := (rInt .u32)) (vs := [(zac .u32 (uw32 carry628))]) (a := (uw32 carry628)) ti89 rfl rfl rfl rfl hL684 0 rfl rfl hE625 q692 rfl q698 ?_)
    have hl706 : x2.length = List.length x693 := by rw [q698, List.length_set]; exact hl627
    intro w699 cs703 (hL700 : vL w w699 [some b8] [zab ([] ++ (cs703 ++ []))]) hS702 hE704 q705
    have hc707 : (cs703 ++ []).length = m1 * (rInt .u32).sz := by have := hc626; rw [List.length_append] at this ⊢; rw [q705]; exact this
    have K701 := ks w hS702
    refine zap (zbs (zah rfl (zaf (zcd (x := x475) (y := 1) (z := (iw (x475 + 1))) rfl rfl rfl ?_))))
    refine zaf (zai (v := (zac .i64 (iw (x475 + 1)))) rfl ?_)
    refine zap ?_
    have f708 := (hE704.mono (K701 None))
    obtain rfl := zag h
    refine zas ⟨(x693, (iw (x475 + 1))), rfl, ?_⟩
    exact ⟨cs703, _, (upds_sym ⟨rfl, rfl, rfl, rfl, rfl, trivial⟩), hL700, (zaq (zaq K489 K685) K701), f708, hl706, hc707, trivial⟩
  ·
   replace h := ite_f hc490 h
   refine zcs rfl ?_
   obtain rfl := zag h
   obtain rfl := hd485 _ rfl
   replace h := g483
   try dsimp only at h
   skip
   refine zas ?_
   exact ⟨out471, cs470, _, rfl, (upds_sym ⟨rfl, trivial⟩), hL488, K489, hE472, hl474, hc473, trivial⟩
 ·
  rintro _ w709 ⟨out478, cs477, u, rfl, rfl, hL710, K711, hE479, hl481, hc480, -⟩
  replace h := g483
  try dsimp only at h
  refine zaj (zah rfl (zaf (zai (v := (osv (some b8) 0 x2.length m1)) rfl ?_)))
  refine zaf (zak (v := (osv (some b8) 0 x2.length m1)) rfl ?_)
  refine zap (zbl ?_)
  obtain rfl := zag h
  refine ⟨[(osv (some b8) 0 x2.length m1)], ⟨rfl, trivial⟩, ⟨_, rfl, hL710.done, ?_⟩⟩
  exact ⟨some b8, m1, cs477, [], (by rw [← hl481]; rfl), (hL710.newOwn [0] rfl rfl rfl), (hE479.mono (Hv.pick [0] rfl)), hc480, trivial⟩
theorem bshort_w (N : Nat) (a : (List Int)) (pb : Int) (a_v : Value) (w : World) (S : Nat → Prop) (a_h : Rs (rInt .u32) (vH w S [] w) a_v a) (r : ((List Int) × Int)) (h : bshort N a pb = some r) :
  Calls Try.prog 86 #[a_v, (zac .u32 pb)] w (Ret w (fun v w' => ∃ (ob0 : Option Nat) (cap0 : Nat) (cs0 : List Value) (sp0 : List Value), .tuple #[(osv ob0 0 r.1.length cap0), (zac .u32 r.2)] = v ∧ NewOwn w w' [ob0] [zab ([] ++ (cs0 ++ sp0))] ∧ Els (rInt .u32) (vH w None [ob0] w') cs0 r.1 ∧ (cs0 ++ sp0).length = cap0 * (rInt .u32).sz ∧ True)) := by
 unfold bshort at h
 have hL : vL w w [] [] := Go.X.Loc.begin0 w
 refine calls_of (l := [a_v, (zac .u32 pb)]) (rl := [.tmp 4, .tmp 5]) (n := 43) Try.func86 rfl rfl rfl (zae rfl) ?_
 refine zaj (zah rfl (zaf (zak (v := (zad none 0 0)) rfl ?_)))
 refine zaf (zak (v := (zac .u32 0)) rfl ?_)
 refine zap (zaj (zah rfl (zaf (zai (v := a_v) rfl ?_))))
 refine zaf (zbf (v := a_v) zao rfl a_h ?_)
 obtain ⟨x2, q3, h⟩ := bind_some h
 obtain ⟨m1, q4, q5, q6, q7⟩ := mk1_some q3
 refine zaf (OpY.mkRowX (r := (rInt .u32)) (H := (vH w None [] w)) (zc := [(zac .u32 0)]) (x := 0) zao ti89 rfl rfl rfl rfl q4 q5 q6 q7 hL ?_)
 intro b8 w13 cs9 hE10 hc11 hL14 hS16
 have K15 := ks w hS16
 refine zaf (zak (v := (osv (some b8) 0 x2.length m1)) rfl ?_)
 refine zap (zaj (zah rfl (zaf (zak (v := (zac .u64 0)) rfl ?_))))
 refine zap (zaj (zaj (zah rfl (zaf (zai (v := a_v) rfl ?_)))))
 have f17 := (a_h.mono (K15 S))
 refine zaf (zbf (v := a_v) zao rfl f17 ?_)
 refine zaf (zdd (x := (a.length : Int)) (y := 1) (z := (iw ((a.length : Int) - 1))) rfl rfl rfl ?_)
 refine zaf (zak (v := (zac .i64 (iw ((a.length : Int) - 1)))) rfl ?_)
 refine zap ?_
 obtain ⟨s137, hl139, g138⟩ := bind_some h
 refine zbr (fun e w' => ∃ (out132 : (List Int)) (rest136 : Int) (cs131 : List Value) (u : Env), (out132, rest136) = s137 ∧ e = upds [(6, (osv (some b8) 0 x2.length m1)), (7, (zac .u64 rest136))] u ∧ vL w w' [some b8] [zab ([] ++ (cs131 ++ []))] ∧ Keep w.heap.size [some b8] w13 [some b8] w' ∧ Els (rInt .u32) (vH w None [some b8] w') cs131 out132 ∧ x2.length = List.length out132 ∧ (cs131 ++ []).length = m1 * (rInt .u32).sz ∧ True) ?_ ?_
 ·
  refine zbj ?_
  have f141 := (hE10.mono (K15 None))
  refine zcg hl139 (fun (ss : ((List Int) × Int × Int)) (e : Env) (w' : World) => match ss with | (out124, rest128, i129) => ∃ (cs123 : List Value) (u : Env), e = upds [(0, a_v), (1, (zac .u32 pb)), (6, (osv (some b8) 0 x2.length m1)), (7, (zac .u64 rest128)), (8, (zac .i64 i129))] u ∧ vL w w' [some b8] [zab ([] ++ (cs123 ++ []))] ∧ Keep w.heap.size [some b8] w13 [some b8] w' ∧ Els (rInt .u32) (vH w None [some b8] w') cs123 out124 ∧ x2.length = List.length out124 ∧ (cs123 ++ []).length = m1 * (rInt .u32).sz ∧ True) ⟨cs9, _, (upds_sym ⟨rfl, rfl, rfl, rfl, rfl, trivial⟩), hL14, zbo, f141, rfl, hc11, trivial⟩ ?_
  rintro ⟨out124, rest128, i129⟩ oo _ w142 ⟨cs123, u, rfl, hL143, K144, hE125, hl127, hc126, -⟩ h hd140
  rw [bshort_b1] at h
  refine zaj (zaj (zah rfl (zaf (zai (v := (zac .i64 i129)) rfl ?_))))
  refine zaf (OpY.geq (x := i129) (y := 0) ((i129 : Int) ≥ 0) rfl rfl zbk ?_)
  refine zap ?_
  refine zbe ((i129 : Int) ≥ 0) rfl (fun hc145 => ?_) (fun hc145 => ?_)
  ·
   replace h := ite_t hc145 h
   refine zbg (zaj (zbj (zaj (zah rfl (zaf (zai (v := (zac .u64 rest128)) rfl ?_))))))
   refine zaf (OpY.ishl (x := rest128) (y := 32) rfl rfl (by decide) ?_)
   refine zaf (zai (v := a_v) rfl ?_)
   refine zaf (zai (v := (zac .i64 i129)) rfl ?_)
   obtain ⟨x146, q147, h⟩ := bind_some h
   obtain ⟨n148, q149, q150⟩ := idx_some q147
   have f159 := (f17.mono (K144 S))
   obtain ⟨b151, o152, c153, vs154, q155, q156, f157, q158⟩ := zcz f159 q150
   obtain rfl := q158
   refine zaf (zbv (r := (rInt .u32)) (v := a_v) (n := n148) (m := (o152 + n148 * (rInt .u32).sz)) zao ti89 rfl q155 rfl q149 q150 rfl ?_)
   refine zaf (zck (v := (zac .u32 x146)) zav rfl rfl vw_view f157 ?_)
   refine zaf (zbp (x := x146) (z := (uw x146)) zav zbi rfl rfl ?_)
   refine zaf (OpY.ior (x := (bshl .u64 rest128 32)) (y := (uw x146)) rfl rfl ?_)
   refine zaf (zak (v := (zac .u64 (bor .u64 (bshl .u64 rest128 32) (uw x146)))) rfl ?_)
   refine zap (zaj (zah rfl (zaf (zai (v := (osv (some b8) 0 x2.length m1)) rfl ?_))))
   refine zaf (zai (v := (zac .i64 i129)) rfl ?_)
   refine zaf (zai (v := (zac .u64 (bor .u64 (bshl .u64 rest128 32) (uw x146)))) rfl ?_)
   refine zaf (zai (v := (zac .u32 pb)) rfl ?_)
   refine zaf (zbp (x := pb) (z := (uw pb)) zav zbi rfl rfl ?_)
   obtain ⟨x160, q161, h⟩ := bind_some h
   obtain ⟨q162, q163⟩ := sdiv_some q161
   refine zaf (OpY.quoI (x := (bor .u64 (bshl .u64 rest128 32) (uw x146))) (y := (uw pb)) (z := x160) rfl rfl q162 q163 ?_)
   refine zaf (zbp (x := x160) (z := (uw32 x160)) zbi zav rfl rfl ?_)
   obtain ⟨x164, q165, h⟩ := bind_some h
   obtain ⟨n166, q167, q168⟩ := idx_some q165
   have q169 := (List.getElem?_eq_some_iff.1 q168).1
   refine zaf (zci (r := (rInt .u32)) (b := b8) (o := 0) (n := n166) (m := x2.length) (xs := out124) (q := (0 + n166 * (rInt .u32).sz)) zao ti89 rfl hl127 rfl q167 q169 rfl ?_)
   obtain ⟨x170, q171, h⟩ := bind_some h
   obtain ⟨n172, q173, q174, q175⟩ := upd1_some q171
   obtain rfl := Int.ofNat_inj.1 (q167.symm.trans q173)
   refine zcb (zdh (pre := []) (r := (rInt .u32)) (vs := [(zac .u32 (uw32 x160))]) (a := (uw32 x160)) ti89 rfl rfl rfl rfl hL143 0 rfl rfl hE125 q169 rfl q175 ?_)
   have hl183 : x2.length = List.length x170 := by rw [q175, List.length_set]; exact hl127
   intro w176 cs180 (hL177 : vL w w176 [some b8] [zab ([] ++ (cs180 ++ []))]) hS179 hE181 q182
   have hc184 : (cs180 ++ []).length = m1 * (rInt .u32).sz := by have := hc126; rw [List.length_append] at this ⊢; rw [q182]; exact this
   have K178 := ks w hS179
   refine zap (zah rfl (zaf (zai (v := (zac .u64 (bor .u64 (bshl .u64 rest128 32) (uw x146)))) rfl ?_)))
   refine zaf (zai (v := (zac .u32 pb)) rfl ?_)
   refine zaf (zbp (x := pb) (z := (uw pb)) zav zbi rfl rfl ?_)
   obtain ⟨x185, q186, h⟩ := bind_some h
   obtain ⟨q187, q188⟩ := srem_some q186
   subst q188
   refine zaf (OpY.remI (x := (bor .u64 (bshl .u64 rest128 32) (uw x146))) (y := (uw pb)) rfl rfl q187 ?_)
   refine zaf (zak (v := (zac .u64 (Int.tmod (bor .u64 (bshl .u64 rest128 32) (uw x146)) (uw pb)))) rfl ?_)
   refine zap (zbs (zah rfl (zaf (zai (v := (zac .i64 i129)) rfl ?_))))
   refine zaf (zdd (x := i129) (y := 1) (z := (iw (i129 - 1))) rfl rfl rfl ?_)
   refine zaf (zak (v := (zac .i64 (iw (i129 - 1)))) rfl ?_)
   refine zap ?_
   have f189 := (hE181.mono (K178 None))
   obtain rfl := zag h
   refine zas ⟨(x170, (Int.tmod (bor .u64 (bshl .u64 rest128 32) (uw x146)) (uw pb)), (iw (i129 - 1))), rfl, ?_⟩
   exact ⟨cs180, _, (upds_sym ⟨rfl, rfl, rfl, rfl, rfl, trivial⟩), hL177, (zaq K144 K178), f189, hl183, hc184, trivial⟩
  ·
   replace h := ite_f hc145 h
   refine zcs rfl ?_
   obtain rfl := zag h
   obtain rfl := hd140 _ rfl
   replace h := g138
   try dsimp only at h
   skip
   refine zas ?_
   exact ⟨out124, rest128, cs123, _, rfl, (upds_sym ⟨rfl, rfl, trivial⟩), hL143, K144, hE125, hl127, hc126, trivial⟩
 ·
  rintro _ w190 ⟨out132, rest136, cs131, u, rfl, rfl, hL191, K192, hE133, hl135, hc134, -⟩
  replace h := g138
  try dsimp only at h
  refine zaj (zah rfl (zaf (zai (v := (osv (some b8) 0 x2.length m1)) rfl ?_)))
  refine zaf (zai (v := (zac .u64 rest136)) rfl ?_)
  refine zaf (zbp (x := rest136) (z := (uw32 rest136)) zbi zav rfl rfl ?_)
  refine zaf (zak (v := (osv (some b8) 0 x2.length m1)) rfl ?_)
  refine zaf (zak (v := (zac .u32 (uw32 rest136))) rfl ?_)
  refine zap (zbl ?_)
  obtain rfl := zag h
  refine ⟨[(osv (some b8) 0 x2.length m1), (zac .u32 (uw32 rest136))], ⟨rfl, rfl, trivial⟩, ⟨_, rfl, hL191.done, ?_⟩⟩
  exact ⟨some b8, m1, cs131, [], (by rw [← hl135]; rfl), (hL191.newOwn [0] rfl rfl rfl), (hE133.mono (Hv.pick [0] rfl)), hc134, trivial⟩
theorem bshift_w (N : Nat) (a : (List Int)) (n : Int) (a_v : Value) (w : World) (S : Nat → Prop) (a_h : Rs (rInt .u32) (vH w S [] w) a_v a) (r : (List Int)) (h : bshift N a n = some r) :
  Calls Try.prog 88 #[a_v, (zac .u64 n)] w (Ret w (fun v w' => ∃ (ob0 : Option Nat) (cap0 : Nat) (cs0 : List Value) (sp0 : List Value), (osv ob0 0 r.length cap0) = v ∧ NewOwn w w' [ob0] [zab ([] ++ (cs0 ++ sp0))] ∧ Els (rInt .u32) (vH w None [ob0] w') cs0 r ∧ (cs0 ++ sp0).length = cap0 * (rInt .u32).sz ∧ True)) := by
 unfold bshift at h
 have hL : vL w w [] [] := Go.X.Loc.begin0 w
 refine calls_of (l := [a_v, (zac .u64 n)]) (rl := [.tmp 4]) (n := 41) Try.func88 rfl rfl rfl (zae rfl) ?_
 refine zaj (zah rfl (zaf (zak (v := (zad none 0 0)) rfl ?_)))
 refine zap (zaj (zah rfl (zaf (zai (v := a_v) rfl ?_))))
 refine zaf (zbf (v := a_v) zao rfl a_h ?_)
 refine zaf (zcd (x := (a.length : Int)) (y := 1) (z := (iw ((a.length : Int) + 1))) rfl rfl rfl ?_)
 obtain ⟨x2, q3, h⟩ := bind_some h
 obtain ⟨m1, q4, q5, q6, q7⟩ := mk1_some q3
 refine zaf (OpY.mkRowX (r := (rInt .u32)) (H := (vH w None [] w)) (zc := [(zac .u32 0)]) (x := 0) zao ti89 rfl rfl rfl rfl q4 q5 q6 q7 hL ?_)
 intro b8 w13 cs9 hE10 hc11 hL14 hS16
 have K15 := ks w hS16
 refine zaf (zak (v := (osv (some b8) 0 x2.length m1)) rfl ?_)
 refine zap (zaj (zaj (zah rfl (zaf (zai (v := a_v) rfl ?_)))))
 have f17 := (a_h.mono (K15 S))
 refine zaf (zbf (v := a_v) zao rfl f17 ?_)
 refine zaf (zai (v := (zac .i64 0)) rfl ?_)
 refine zap ?_
 obtain ⟨s188, hl190, g189⟩ := bind_some h
 refine zbr (fun e w' => ∃ (out184 : (List Int)) (cs183 : List Value) (u : Env), out184 = s188 ∧ e = upds [(5, (osv (some b8) 0 x2.length m1))] u ∧ vL w w' [some b8] [zab ([] ++ (cs183 ++ []))] ∧ Keep w.heap.size [some b8] w13 [some b8] w' ∧ Els (rInt .u32) (vH w None [some b8] w') cs183 out184 ∧ x2.length = List.length out184 ∧ (cs183 ++ []).length = m1 * (rInt .u32).sz ∧ True) ?_ ?_
 ·
  refine zbj ?_
  have f192 := (hE10.mono (K15 None))
  refine zcg hl190 (fun (ss : ((List Int) × Int)) (e : Env) (w' : World) => match ss with | (out177, x181) => ∃ (cs176 : List Value) (u : Env), e = upds [(1, (zac .u64 n)), (5, (osv (some b8) 0 x2.length m1)), (13, a_v), (14, (zac .i64 (a.length : Int))), (15, (zac .i64 x181))] u ∧ vL w w' [some b8] [zab ([] ++ (cs176 ++ []))] ∧ Keep w.heap.size [some b8] w13 [some b8] w' ∧ Els (rInt .u32) (vH w None [some b8] w') cs176 out177 ∧ x2.length = List.length out177 ∧ (cs176 ++ []).length = m1 * (rInt .u32).sz ∧ True) ⟨cs9, _, (upds_sym ⟨rfl, rfl, rfl, rfl, rfl, trivial⟩), hL14, zbo, f192, rfl, hc11, trivial⟩ ?_
  rintro ⟨out177, x181⟩ oo _ w193 ⟨cs176, u, rfl, hL194, K195, hE178, hl180, hc179, -⟩ h hd191
  rw [bshift_b1] at h
  refine zaj (zah rfl (zaf (zcr (x := x181) (y := (a.length : Int)) ((x181 : Int) < (a.length : Int)) rfl rfl zbk ?_)))
  refine zap (zaj ?_)
  refine zbe ((x181 : Int) < (a.length : Int)) rfl (fun hc196 => ?_) (fun hc196 => ?_)
  ·
   replace h := ite_t hc196 h
   refine zbg (zaj (zbj (zaj (zah rfl (zaf (zai (v := (zac .i64 x181)) rfl ?_))))))
   obtain ⟨x197, q198, h⟩ := bind_some h
   obtain ⟨n199, q200, q201⟩ := idx_some q198
   have f210 := (f17.mono (K195 S))
   obtain ⟨b202, o203, c204, vs205, q206, q207, f208, q209⟩ := zcz f210 q201
   obtain rfl := q209
   refine zaf (zbv (r := (rInt .u32)) (v := a_v) (n := n199) (m := (o203 + n199 * (rInt .u32).sz)) zao ti89 rfl q206 rfl q200 q201 rfl ?_)
   refine zaf (zck (v := (zac .u32 x197)) zav rfl rfl vw_view f208 ?_)
   refine zaf (zak (v := (zac .i64 x181)) rfl ?_)
   refine zaf (zak (v := (zac .u32 x197)) rfl ?_)
   refine zap (zaj (zah rfl (zaf (zai (v := (zac .u32 x197)) rfl ?_))))
   refine zaf (zbp (x := x197) (z := (uw x197)) zav zbi rfl rfl ?_)
   refine zaf (zai (v := (zac .u64 n)) rfl ?_)
   obtain ⟨u211, q212, h⟩ := bind_some h
   have q213 := chk_some q212
   refine zaf (OpY.ishl (x := (uw x197)) (y := n) rfl rfl q213 ?_)
   refine zaf (zak (v := (zac .u64 (bshl .u64 (uw x197) n))) rfl ?_)
   refine zap (zaj (zah rfl (zaf (zai (v := (osv (some b8) 0 x2.length m1)) rfl ?_))))
   refine zaf (zai (v := (zac .i64 x181)) rfl ?_)
   obtain ⟨x214, q215, h⟩ := bind_some h
   obtain ⟨n216, q217, q218⟩ := idx_some q215
   have q219 := (List.getElem?_eq_some_iff.1 q218).1
   refine zaf (zci (r := (rInt .u32)) (b := b8) (o := 0) (n := n216) (m := x2.length) (xs := out177) (q := (0 + n216 * (rInt .u32).sz)) zao ti89 rfl hl180 rfl q217 q219 rfl ?_)
   obtain ⟨vs220, q221, q222, q223⟩ := row_elem (pre := []) (sp := []) hE178 q218
   obtain rfl := q222
   refine zaf (zde (v := (zac .u32 x214)) zav rfl rfl (hL194.at 0 rfl rfl) q223 ?_)
   refine zaf (zai (v := (zac .u64 (bshl .u64 (uw x197) n))) rfl ?_)
   refine zaf (zbp (x := (bshl .u64 (uw x197) n)) (z := (uw32 (bshl .u64 (uw x197) n))) zbi zav rfl rfl ?_)
   refine zaf (OpY.ior (x := x214) (y := (uw32 (bshl .u64 (uw x197) n))) rfl rfl ?_)
   obtain ⟨x224, q225, h⟩ := bind_some h
   obtain ⟨n226, q227, q228⟩ := idx_some q225
   have q229 := (List.getElem?_eq_some_iff.1 q228).1
   refine zaf (zci (r := (rInt .u32)) (b := b8) (o := 0) (n := n226) (m := x2.length) (xs := out177) (q := (0 + n226 * (rInt .u32).sz)) zao ti89 rfl hl180 rfl q227 q229 rfl ?_)
   obtain ⟨x230, q231, h⟩ := bind_some h
   obtain ⟨n232, q233, q234, q235⟩ := upd1_some q231
   obtain rfl := Int.ofNat_inj.1 (q227.symm.trans q233)
   refine zcb (zdh (pre := []) (r := (rInt .u32)) (vs := [(zac .u32 (bor .u32 x214 (uw32 (bshl .u64 (uw x197) n))))]) (a := (bor .u32 x214 (uw32 (bshl .u64 (uw x197) n)))) ti89 rfl rfl rfl rfl hL194 0 rfl rfl hE178 q229 rfl q235 ?_)
   have hl243 : x2.length = List.length x230 := by rw [q235, List.length_set]; exact hl180
   intro w236 cs240 (hL237 : vL w w236 [some b8] [zab ([] ++ (cs240 ++ []))]) hS239 hE241 q242
   have hc244 : (cs240 ++ []).length = m1 * (rInt .u32).sz := by have := hc179; rw [List.length_append] at this ⊢; rw [q242]; exact this
   have K238 := ks w hS239
   refine zap (zah rfl (zaf (zai (v := (osv (some b8) 0 x2.length m1)) rfl ?_)))
   refine zaf (zai (v := (zac .i64 x181)) rfl ?_)
   refine zaf (zcd (x := x181) (y := 1) (z := (iw (x181 + 1))) rfl rfl rfl ?_)
   refine zaf (zai (v := (zac .u64 (bshl .u64 (uw x197) n))) rfl ?_)
   refine zaf (OpY.ishr (x := (bshl .u64 (uw x197) n)) (y := 32) rfl rfl (by decide) ?_)
   refine zaf (zbp (x := (bshr .u64 (bshl .u64 (uw x197) n) 32)) (z := (uw32 (bshr .u64 (bshl .u64 (uw x197) n) 32))) zbi zav rfl rfl ?_)
   obtain ⟨x245, q246, h⟩ := bind_some h
   obtain ⟨n247, q248, q249⟩ := idx_some q246
   have q250 := (List.getElem?_eq_some_iff.1 q249).1
   refine zaf (zci (r := (rInt .u32)) (b := b8) (o := 0) (n := n247) (m := x2.length) (xs := x230) (q := (0 + n247 * (rInt .u32).sz)) zao ti89 rfl hl243 rfl q248 q250 rfl ?_)
   obtain ⟨x251, q252, h⟩ := bind_some h
   obtain ⟨n253, q254, q255, q256⟩ := upd1_some q252
   obtain rfl := Int.ofNat_inj.1 (q248.symm.trans q254)
   have f257 := (hE241.mono (K238 None))
   refine zcb (zdh (pre := []) (r := (rInt .u32)) (vs := [(zac .u32 (uw32 (bshr .u64 (bshl .u64 (uw x197) n) 32)))]) (a := (uw32 (bshr .u64 (bshl .u64 (uw x197) n) 32))) ti89 rfl rfl rfl rfl hL237 0 rfl rfl f257 q250 rfl q256 ?_)
   have hl265 : x2.length = List.length x251 := by rw [q256, List.length_set]; exact hl243
   intro w258 cs262 (hL259 : vL w w258 [some b8] [zab ([] ++ (cs262 ++ []))]) hS261 hE263 q264
   have hc266 : (cs262 ++ []).length = m1 * (rInt .u32).sz := by have := hc244; rw [List.length_append] at this ⊢; rw [q264]; exact this
   have K260 := ks w hS261
   refine zap (zbs (zah rfl (zaf (zcd (x := x181) (y := 1) (z := (iw (x181 + 1))) rfl rfl rfl ?_))))
   refine zaf (zai (v := (zac .i64 (iw (x181 + 1)))) rfl ?_)
   refine zap ?_
   have f267 := (hE263.mono (K260 None))
   obtain rfl := zag h
   refine zas ⟨(x251, (iw (x181 + 1))), rfl, ?_⟩
   exact ⟨cs262, _, (upds_sym ⟨rfl, rfl, rfl, rfl, rfl, trivial⟩), hL259, (zaq (zaq K195 K238) K260), f267, hl265, hc266, trivial⟩
  ·
   replace h := ite_f hc196 h
   refine zcs rfl ?_
   obtain rfl := zag h
   obtain rfl := hd191 _ rfl
   replace h := g189
   try dsimp only at h
   skip
   refine zas ?_
   exact ⟨out177, cs176, _, rfl, (upds_sym ⟨rfl, trivial⟩), hL194, K195, hE178, hl180, hc179, trivial⟩
 ·
  rintro _ w268 ⟨out184, cs183, u, rfl, rfl, hL269, K270, hE185, hl187, hc186, -⟩
  replace h := g189
  try dsimp only at h
  refine zaj (zah rfl (zaf (zai (v := (osv (some b8) 0 x2.length m1)) rfl ?_)))
  refine zaf (zak (v := (osv (some b8) 0 x2.length m1)) rfl ?_)
  refine zap (zbl ?_)
  obtain rfl := zag h
  refine ⟨[(osv (some b8) 0 x2.length m1)], ⟨rfl, trivial⟩, ⟨_, rfl, hL269.done, ?_⟩⟩
  exact ⟨some b8, m1, cs183, [], (by rw [← hl187]; rfl), (hL269.newOwn [0] rfl rfl rfl), (hE185.mono (Hv.pick [0] rfl)), hc186, trivial⟩
end Go.Proofs.Ytakkacdhlocckaa.WA

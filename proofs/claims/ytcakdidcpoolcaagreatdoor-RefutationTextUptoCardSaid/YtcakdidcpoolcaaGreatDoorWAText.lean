/- Walks, written by a program of mine (wip/tool); the kernel checks them. -/
import Derived.Test.YtcakdidcpoolcaaGreatDoorProg
import Derived.Test.YtcakdidcpoolcaaGreatDoorSqText
import Derived.Test.YtcakdidcpoolcaaGreatDoorBl25
import Derived.Test.YtcakdidcpoolcaaGreatDoorF25
import Derived.Test.YtcakdidcpoolcaaGreatDoorPA
set_option maxRecDepth 100000
set_option maxHeartbeats 40000000
set_option linter.unusedVariables false
set_option linter.unusedSimpArgs false
namespace Go.Proofs.YtcakdidcpoolcaaGreatDoor.WA
open Go Go.RowKit Go.X Go.D Go.Proofs.YtcakdidcpoolcaaGreatDoor.WF 
theorem mixed : Tryz.prog.follows .mixedOrders = true := by kernel_rfl
theorem ti177 : TI Tryz.prog 177 1 4 (zaa .u32 0) := TI.mk (by kernel_rfl)
theorem en192 : Go.X.Enters Tryz.prog 192 := ⟨Tryz.f192, Tryz.func192, by kernel_rfl, by kernel_rfl⟩
theorem ti57 : TI Tryz.prog 57 2 32 (zap #[zF, zN]) := TI.mk (by kernel_rfl)
theorem en175 : Go.X.Enters Tryz.prog 175 := ⟨Tryz.f175, Tryz.func175, by kernel_rfl, by kernel_rfl⟩
theorem pl57 : placesT Tryz.prog 57 = some [(0, 1), (1, 1)] := by kernel_rfl
theorem en187 : Go.X.Enters Tryz.prog 187 := ⟨Tryz.f187, Tryz.func187, by kernel_rfl, by kernel_rfl⟩
theorem en186 : Go.X.Enters Tryz.prog 186 := ⟨Tryz.f186, Tryz.func186, by kernel_rfl, by kernel_rfl⟩
theorem cloneU32_w (N : Nat) (s : (List Int)) (s_v : Value) (w : World) (S : Nat → Prop) (s_h : Rs (rInt .u32) (vH w S [] w) s_v s) (r : (List Int)) (h : cloneU32 N s = some r) :
  Calls Tryz.prog 192 #[s_v] w (Ret w (fun v w' => ∃ (ob0 : Option Nat) (cap0 : Nat) (cs0 : List Value) (sp0 : List Value), (zO ob0 r cap0) = v ∧ NewOwn w w' [ob0] [zac ([] ++ (cs0 ++ sp0))] ∧ Els (rInt .u32) (vH w None [ob0] w') cs0 r ∧ (cs0 ++ sp0).length = cap0 * (rInt .u32).sz ∧ True)) := by
 unfold cloneU32 at h
 have hL : vL w w [] [] := Go.X.Loc.begin0 w
 refine calls_of (l := [s_v]) (rl := [.tmp 2]) (n := 8) Tryz.func192 rfl rfl rfl (zae rfl) ?_
 refine zaj (zaf rfl (zag (zak (v := zN) rfl ?_)))
 refine zan (zaj (zaj (zaf rfl (zag (zai (v := s_v) rfl ?_)))))
 refine zag (OpY.eqlNil (v := s_v) zas rfl s_h.isSlice rfl (zan ?_))
 refine zcq (isNil s_v) rfl (fun hc1 => ?_) (fun hc1 => ?_)
 ·
  have hnil := (Sl.of_isNil s_h hc1).1
  replace h : some [] = some r := by rw [hnil] at h; simpa [apnd] using h
  refine zaj (zaf rfl (zag (zak (v := zN) rfl (zan ?_))))
  have hp2 := hL.addNil
  have hL3 : vL w w [none] [zac ([] ++ ([] ++ []))] := hp2.1
  have hE6 : Els (rInt .u32) (vH w None [none] w) [] [] := zcm
  refine zbi ?_
  obtain rfl := zah h
  refine ⟨[(osv none 0 (List.length ([] : (List Int))) 0)], zrt, ⟨_, rfl, hL3.done, ?_⟩⟩
  exact ⟨none, 0, [], [], rfl, (hL3.newOwn [0] rfl rfl rfl), (hE6.mono (zdx [0] rfl)), (show ([] ++ [] : List Value).length = 0 * (rInt .u32).sz by simp), trivial⟩
 refine zbf (zaj (zaf rfl (zag (OpY.litRow0 zas ti177 hL ?_))))
 intro b7 w10 hL10 hS10
 have hE10 : Els (rInt .u32) (vH w None [] w) [] [] := zcm
 have K10 := ks w hS10
 refine zag (zai (v := s_v) rfl ?_)
 obtain ⟨x10, q10, h⟩ := zec h
 obtain ⟨q11, q12, q13⟩ := zeq q10
 have f10 := (s_h.mono (K10 S))
 obtain ⟨ds10, q14, q15⟩ := Rs.src f10
 have f11 := (hE10.mono (K10 None))
 refine zag (zdn (r := (rInt .u32)) (H := (vH w None [some b7] w10)) (cs := []) (sp := []) (xs := ([] : (List Int))) (ys := s) (Y := x10) (n := (List.length ([] : (List Int)))) (cap := 0) (i := 0) zas ti177 rfl rfl rfl rfl hL10 rfl rfl f11 rfl (show ([] ++ [] : List Value).length = 0 * (rInt .u32).sz by simp) q14 (Els.anyH (fun _ _ _ _ h => h) q15) q11 q12 q13 ?_)
 intro ob10 cap10 sp10 cs10 w11 hE11 hc10 (hL11 : vL w w11 [ob10] [zac ([] ++ (cs10 ++ sp10))]) hS11
 have K11 := ks w hS11
 refine zag (zak (v := (zO ob10 x10 cap10)) rfl ?_)
 refine zan (zbi ?_)
 obtain rfl := zah h
 refine ⟨[(zO ob10 x10 cap10)], zrt, ⟨_, rfl, hL11.done, ?_⟩⟩
 have f12 := (hE11.mono (K11 None))
 exact ⟨ob10, cap10, cs10, sp10, rfl, (hL11.newOwn [0] rfl rfl rfl), (f12.mono (zdx [0] rfl)), hc10, trivial⟩
theorem digit_w (N : Nat) (d : (List Int)) (i : Int) (d_v : Value) (w : World) (S : Nat → Prop) (d_h : Rs (rInt .u32) (vH w S [] w) d_v d) (r : Int) (h : digit N d i = some r) :
  Calls Tryz.prog 186 #[d_v, (zI i)] w (Ret w (fun v w' => (zaa .u64 r) = v ∧ True)) := by
 unfold digit at h
 have hL : vL w w [] [] := Go.X.Loc.begin0 w
 refine calls_of (l := [d_v, (zI i)]) (rl := [.tmp 4]) (n := 14) Tryz.func186 rfl rfl rfl (zae rfl) ?_
 refine zaj (zaf rfl (zag (zak (v := (zaa .u64 0)) rfl ?_)))
 refine zan (zaj (zaj (zaf rfl (zag (zai (v := (zI i)) rfl ?_)))))
 refine zag (zai (v := d_v) rfl ?_)
 refine zag (zbc (v := d_v) zas rfl d_h ?_)
 refine zag (zci (x := i) (y := (d.length : Int)) ((i : Int) < (d.length : Int)) rfl rfl zbd (zan ?_))
 refine zba ((i : Int) < (d.length : Int)) rfl (fun hc1 => ?_) (fun hc1 => ?_)
 ·
  replace h := ite_t hc1 h
  refine zaj (zaf rfl (zag (zai (v := d_v) rfl ?_)))
  refine zag (zai (v := (zI i)) rfl ?_)
  obtain ⟨x2, n4, q5, q6, -, h⟩ := zix h
  obtain ⟨b7, o8, c9, vs10, q10, q11, f10, q12⟩ := zcw d_h q6
  obtain rfl := q12
  refine zag (zbp (r := (rInt .u32)) (v := d_v) (n := n4) (m := (o8 + n4 * (rInt .u32).sz)) zas ti177 rfl q10 rfl q5 q6 rfl ?_)
  refine zag (zca (v := (zaa .u32 x2)) zbg rfl rfl zek f10 ?_)
  refine zag (zcr (x := x2) (z := (uw x2)) zbg zbv rfl rfl ?_)
  refine zag (zak (v := (zaa .u64 (uw x2))) rfl ?_)
  refine zan (zbi ?_)
  obtain rfl := zah h
  refine ⟨[(zaa .u64 (uw x2))], zrt, ⟨_, rfl, hL.done, ?_⟩⟩
  exact zrt
 replace h := ite_f hc1 h
 refine zbf (zaj (zaf rfl (zag (zak (v := (zaa .u64 0)) rfl ?_))))
 refine zan (zbi ?_)
 obtain rfl := zah h
 refine ⟨[(zaa .u64 0)], zrt, ⟨_, rfl, hL.done, ?_⟩⟩
 exact zrt
theorem bsign_w (N : Nat) (n : Int)  (w : World) (S : Nat → Prop)  (r : Int) (h : bsign N n = some r) :
  Calls Tryz.prog 187 #[(zI n)] w (Ret w (fun v w' => (zI r) = v ∧ True)) := by
 unfold bsign at h
 have hL : vL w w [] [] := Go.X.Loc.begin0 w
 refine calls_of (l := [(zI n)]) (rl := [.tmp 2]) (n := 6) Tryz.func187 rfl rfl rfl (zae rfl) ?_
 refine zaj (zaf rfl (zag (zak (v := (zI 0)) rfl ?_)))
 refine zan (zaj (zaf rfl (zag (zai (v := (zI n)) rfl ?_))))
 refine zag (OpY.max (x := n) (y := (-1)) rfl rfl ?_)
 refine zag (OpY.min (x := (imax n (-1))) (y := 1) rfl rfl ?_)
 refine zag (zak (v := (zI (imin (imax n (-1)) 1))) rfl ?_)
 refine zan (zbi ?_)
 obtain rfl := zah h
 refine ⟨[(zI (imin (imax n (-1)) 1))], zrt, ⟨_, rfl, hL.done, ?_⟩⟩
 exact zrt
theorem btrim_w (N : Nat) (d : (List Int)) (d_v : Value) (w : World) (S : Nat → Prop) (d_h : Rs (rInt .u32) (vH w S [] w) d_v d) (r : (List Int)) (h : btrim N d = some r) :
  Calls Tryz.prog 175 #[d_v] w (Ret w (fun v w' => ∃ (ob0 : Option Nat) (cap0 : Nat) (cs0 : List Value) (sp0 : List Value), (zO ob0 r cap0) = v ∧ NewOwn w w' [ob0] [zac ([] ++ (cs0 ++ sp0))] ∧ Els (rInt .u32) (vH w None [ob0] w') cs0 r ∧ (cs0 ++ sp0).length = cap0 * (rInt .u32).sz ∧ True)) := by
 unfold btrim at h
 have hL : vL w w [] [] := Go.X.Loc.begin0 w
 refine calls_of (l := [d_v]) (rl := [.tmp 2]) (n := 22) Tryz.func175 rfl rfl rfl (zae rfl) ?_
 refine zaj (zaf rfl (zag (zak (v := zN) rfl ?_)))
 refine zan (zaj (zaf rfl (zag (zai (v := d_v) rfl ?_))))
 refine zag (zbc (v := d_v) zas rfl d_h ?_)
 refine zag (zak (v := (zI (d.length : Int))) rfl ?_)
 refine zan (zaj ?_)
 obtain ⟨s10, hl10, g10⟩ := zec h
 refine zbs (fun e w' => ∃ (n10 : Int) (u : Env), n10 = s10 ∧ e = upds [(0, d_v), (3, (zI n10))] u ∧ vL w w' [] [] ∧ Keep w.heap.size [] w [] w' ∧ True) ?_ ?_
 ·
  refine zbb ?_
  refine zcb hl10 (fun (ss : Int) (e : Env) (w' : World) => match ss with | n11 => ∃ (u : Env), e = upds [(0, d_v), (3, (zI n11))] u ∧ vL w w' [] [] ∧ Keep w.heap.size [] w [] w' ∧ True) ⟨_, (zeg ⟨rfl, rfl, trivial⟩), hL, zbq, trivial⟩ ?_
  rintro n11 oo _ w10 ⟨u, rfl, hL10, K10, -⟩ h hd10
  rw [btrim_b1] at h
  refine zaj (zaj ?_)
  obtain ⟨s11, h, g11⟩ := zec h
  refine zbs (fun e w' => ∃ (x10 : Bool) (u : Env), x10 = s11 ∧ e = upds [(0, d_v), (3, (zI n11)), (15, (zab x10))] u ∧ vL w w' [] [] ∧ Keep w.heap.size [] w10 [] w' ∧ True) ?_ ?_
  ·
   refine zaf rfl (zag (zai (v := (zI n11)) rfl ?_))
   refine zag (OpY.gtr (x := n11) (y := 0) ((n11 : Int) > 0) rfl rfl zbd ?_)
   refine zag (zai (v := (zab (decide ((n11 : Int) > 0)))) rfl ?_)
   by_cases hc10 : (n11 : Int) > 0
   ·
    replace h := ite_t hc10 h
    refine zbt rfl rfl (zef hc10) (zai (v := d_v) rfl ?_)
    refine zbt rfl rfl (zef hc10) (zai (v := (zI n11)) rfl ?_)
    refine zbt rfl rfl (zef hc10) (zdz (x := n11) (y := 1) (z := (iw (n11 - 1))) rfl rfl rfl ?_)
    obtain ⟨x11, n12, q11, q12, -, h⟩ := zix h
    have f10 := (d_h.mono (K10 S))
    obtain ⟨b10, o10, c10, vs10, q13, q14, f11, q15⟩ := zcw f10 q12
    obtain rfl := q15
    refine zbt rfl rfl (zef hc10) (zbp (r := (rInt .u32)) (v := d_v) (n := n12) (m := (o10 + n12 * (rInt .u32).sz)) zas ti177 rfl q13 rfl q11 q12 rfl ?_)
    refine zbt rfl rfl (zef hc10) (zca (v := (zaa .u32 x11)) zbg rfl rfl zek f11 ?_)
    refine zbt rfl rfl (zef hc10) (zdp (x := x11) (y := 0) ((x11 : Int) = 0) rfl rfl zbd ?_)
    refine zag (zce (t := (decide ((n11 : Int) > 0))) (v := (zab (decide ((x11 : Int) = 0)))) rfl (zef hc10) rfl (zan ?_))
    obtain rfl := zah h
    refine zaq ?_
    exact ⟨(decide ((x11 : Int) = 0)), _, rfl, (zeg ⟨rfl, rfl, rfl, trivial⟩), hL10, zbq, trivial⟩
   replace h := ite_f hc10 h
   refine zcl rfl rfl (zed hc10) (zcl rfl rfl (zed hc10) (zcl rfl rfl (zed hc10) (zcl rfl rfl (zed hc10) (zcl rfl rfl (zed hc10) (zcl rfl rfl (zed hc10) ?_)))))
   refine zag (zcv (t := (decide ((n11 : Int) > 0))) (v := zF) rfl (zed hc10) rfl (zan ?_))
   obtain rfl := zah h
   refine zaq ?_
   exact ⟨false, _, rfl, (zeg ⟨rfl, rfl, rfl, trivial⟩), hL10, zbq, trivial⟩
  rintro _ w11 ⟨x10, u, rfl, rfl, hL11, K11, -⟩
  replace h := g11
  try dsimp only at h
  refine zcq x10 rfl (fun hc11 => ?_) (fun hc11 => ?_)
  ·
   replace h := ite_t hc11 h
   refine zbf (zbb (zaf rfl (zag (zai (v := (zI n11)) rfl ?_))))
   refine zag (zdz (x := n11) (y := 1) (z := (iw (n11 - 1))) rfl rfl rfl ?_)
   refine zag (zak (v := (zI (iw (n11 - 1)))) rfl ?_)
   refine zan (zbn ?_)
   obtain rfl := zah h
   refine zaq ⟨(iw (n11 - 1)), rfl, ?_⟩
   exact ⟨_, (zeg ⟨rfl, rfl, trivial⟩), hL11, (zao K10 K11), trivial⟩
  replace h := ite_f hc11 h
  refine zck rfl ?_
  obtain rfl := zah h
  obtain rfl := hd10 _ rfl
  replace h := g10
  try dsimp only at h
  refine zaq ?_
  exact ⟨n11, _, rfl, (zeg ⟨rfl, rfl, trivial⟩), hL11, (zao K10 K11), trivial⟩
 rintro _ w12 ⟨n10, u, rfl, rfl, hL12, K12, -⟩
 replace h := g10
 try dsimp only at h
 refine zaj (zaf rfl (zag (zai (v := d_v) rfl ?_)))
 refine zag (zai (v := (zI n10)) rfl ?_)
 obtain ⟨x12, q16, h⟩ := zec h
 obtain ⟨m10, n13, q17, q18, q19, q20, q21⟩ := cut_some q16
 have f12 := (d_h.mono (K12 S))
 refine zag (OpY.cutRoX (l := m10) (h' := n13) zas ti177 rfl f12 (.inl ⟨rfl, by omega⟩) (.inr ⟨_, _, rfl, by rw [← q18]; rfl⟩) q19 q20 q21 ?_)
 intro v10 k10
 obtain ⟨r10, q22, h⟩ := zec h
 refine zag (zay en192 rfl rfl (cloneU32_w N x12 v10 _ Any (k10.mono vw_any) r10 q22) ?_)
 rintro _ w13 hE10 ⟨ob10, cap10, cs10, sp10, rfl, hN10, hE11, hc12, -⟩
 replace hE11 := hE11.mono (zbu (S := None) hL12 [ob10])
 have hp10 := hL12.adoptL hE10 hN10
 have hL13 := hp10.1
 refine zag (zak (v := (zO ob10 r10 cap10)) rfl ?_)
 refine zan (zbi ?_)
 obtain rfl := zah h
 refine ⟨[(zO ob10 r10 cap10)], zrt, ⟨_, rfl, hL13.done, ?_⟩⟩
 exact ⟨ob10, cap10, cs10, sp10, rfl, (hL13.newOwn [0] rfl rfl rfl), (hE11.mono (zdx [0] rfl)), hc12, trivial⟩
theorem bnormal_w (N : Nat) (negative : Bool) (d : (List Int)) (d_v : Value) (w : World) (S : Nat → Prop) (d_h : Rs (rInt .u32) (vH w S [] w) d_v d) (r : Big) (h : bnormal N negative d = some r) :
  Calls Tryz.prog 160 #[(zab negative), d_v] w (Ret w (fun v w' => ∃ (v0_0 : Value), (zap #[(zab r.Negative), v0_0]) = v ∧ Rs (rInt .u32) (vH w None [] w') v0_0 r.Digits ∧ True)) := by
 unfold bnormal at h
 have hL : vL w w [] [] := Go.X.Loc.begin0 w
 refine calls_of (l := [(zab negative), d_v]) (rl := [.cell 4 57]) (n := 14) Tryz.func160 rfl rfl rfl (zae rfl) ?_
 refine zaj (zaf rfl (zag (zbw (cs := [zF, zN]) ti57 rfl hL ?_)))
 intro b1 w2 hL3 hS5
 have K4 := ks w hS5
 refine zan (zaj (zaf rfl (zag (zai (v := d_v) rfl ?_))))
 obtain ⟨r6, q7, h⟩ := zec h
 have f10 := (d_h.mono (K4 S))
 refine zag (zay en175 rfl rfl (btrim_w N d d_v _ Any (f10.mono vw_any) r6 q7) ?_)
 rintro _ w10 hE10 ⟨ob8, cap9, cs10, sp10, rfl, hN10, hE11, hc10, -⟩
 replace hE11 := hE11.mono (zbu (S := None) hL3 [ob8])
 have hp10 := hL3.adoptL hE10 hN10
 have hL10 := hp10.1
 refine zag (zak (v := (zO ob8 r6 cap9)) rfl ?_)
 refine zan (zaj (zaj (zaf rfl (zag (zai (v := (zO ob8 r6 cap9)) rfl ?_)))))
 refine zag (OpY.lenRow (pre := []) (r := (rInt .u32)) (xs := r6) zas rfl (hL10.at 0 rfl rfl) hE11 rfl rfl ?_)
 refine zag (zdp (x := (r6.length : Int)) (y := 0) (((r6.length : Int) : Int) = 0) rfl rfl zbd (zan ?_))
 refine zba (((r6.length : Int) : Int) = 0) rfl (fun hc11 => ?_) (fun hc11 => ?_)
 ·
  replace h := ite_t hc11 h
  refine zaj (zaf rfl (zag (zcc (zc := [zF, zN]) (cs := [zF, zN]) (is := []) (vs := []) (css := []) pl57 ti57 rfl rfl rfl trivial rfl ?_)))
  refine zcf (zbo (vs := [zF, zN]) ti57 rfl rfl rfl rfl (zee rfl (zee rfl zej)) hL10 1 rfl rfl (zae rfl) ?_)
  intro w11 (hL11 : vL w w11 [ob8, some b1] [zac ([] ++ (cs10 ++ sp10)), zac [zF, zN]]) hS10
  refine zan (zbi ?_)
  obtain rfl := zah h
  refine ⟨[(zap #[zF, zN])], ⟨⟨⟨b1, 0, none⟩, rfl, zeo zar rfl ti57 (hL11.at 1 rfl rfl) rfl⟩, trivial⟩, ⟨_, rfl, hL11.done, ?_⟩⟩
  exact ⟨zN, rfl, zdk, trivial⟩
 replace h := ite_f hc11 h
 refine zbf (zaj (zaf rfl (zag (zai (v := (zab negative)) rfl ?_))))
 refine zag (zai (v := (zO ob8 r6 cap9)) rfl ?_)
 refine zag (zcc (zc := [zF, zN]) (cs := [(zab negative), (zO ob8 r6 cap9)]) (is := [0, 1]) (vs := [(zab negative), (zO ob8 r6 cap9)]) (css := [[(zab negative)], [(zO ob8 r6 cap9)]]) pl57 ti57 rfl rfl rfl ⟨rfl, ⟨(zen (zem _ _ _ _)), trivial⟩⟩ rfl ?_)
 refine zcf (zbo (vs := [(zab negative), (zO ob8 r6 cap9)]) ti57 rfl rfl rfl rfl (zee rfl (zee (zem _ _ _ _) zej)) hL10 1 rfl rfl (zae rfl) ?_)
 intro w12 (hL12 : vL w w12 [ob8, some b1] [zac ([] ++ (cs10 ++ sp10)), zac [(zab negative), (zO ob8 r6 cap9)]]) hS11
 have K10 := ks w hS11
 refine zan ?_
 have f11 := (hE11.mono (K10 None))
 have f12 := hL12.freezeRow 0 rfl rfl f11 rfl rfl rfl hc10
 have hp11 := hL12.pick [1] rfl rfl rfl
 have hL13 : vL w w12 [some b1] [zac [(zab negative), (zO ob8 r6 cap9)]] := hp11.1
 refine zbi ?_
 obtain rfl := zah h
 refine ⟨[(zap #[(zab negative), (zO ob8 r6 cap9)])], ⟨⟨⟨b1, 0, none⟩, rfl, zeo zar rfl ti57 (hL13.at 0 rfl rfl) rfl⟩, trivial⟩, ⟨_, rfl, hL13.done, ?_⟩⟩
 exact ⟨(zO ob8 r6 cap9), rfl, (f12.mono zea), trivial⟩
theorem bcompare_w (N : Nat) (a : (List Int)) (b : (List Int)) (a_v : Value) (b_v : Value) (w : World) (S : Nat → Prop) (a_h : Rs (rInt .u32) (vH w S [] w) a_v a) (b_h : Rs (rInt .u32) (vH w S [] w) b_v b) (r : Int) (h : bcompare N a b = some r) :
  Calls Tryz.prog 171 #[a_v, b_v] w (Ret w (fun v w' => (zI r) = v ∧ True)) := by
 unfold bcompare at h
 have hL : vL w w [] [] := Go.X.Loc.begin0 w
 refine calls_of (l := [a_v, b_v]) (rl := [.tmp 4]) (n := 42) Tryz.func171 rfl rfl rfl (zae rfl) ?_
 refine zaj (zaf rfl (zag (zak (v := (zI 0)) rfl ?_)))
 refine zan (zaj (zaj (zaf rfl (zag (zai (v := a_v) rfl ?_)))))
 refine zag (zbc (v := a_v) zas rfl a_h ?_)
 refine zag (zai (v := b_v) rfl ?_)
 refine zag (zbc (v := b_v) zas rfl b_h ?_)
 refine zag (OpY.neq (x := (a.length : Int)) (y := (b.length : Int)) (((a.length : Int) : Int) ≠ (b.length : Int)) rfl rfl zbd (zan ?_))
 refine zba (((a.length : Int) : Int) ≠ (b.length : Int)) rfl (fun hc1 => ?_) (fun hc1 => ?_)
 ·
  replace h := ite_t hc1 h
  refine zaj (zaf rfl (zag (zai (v := a_v) rfl ?_)))
  refine zag (zbc (v := a_v) zas rfl a_h ?_)
  refine zag (zai (v := b_v) rfl ?_)
  refine zag (zbc (v := b_v) zas rfl b_h ?_)
  refine zag (zdz (x := (a.length : Int)) (y := (b.length : Int)) (z := (iw ((a.length : Int) - (b.length : Int)))) rfl rfl rfl ?_)
  obtain ⟨r2, q3, h⟩ := zec h
  refine zag (zay en187 rfl rfl (bsign_w N (iw ((a.length : Int) - (b.length : Int))) _ Any r2 q3) ?_)
  rintro _ w5 hE8 ⟨rfl, -⟩
  have hL6 := hL.ext hE8
  refine zag (zak (v := (zI r2)) rfl ?_)
  refine zan (zbi ?_)
  obtain rfl := zah h
  refine ⟨[(zI r2)], zrt, ⟨_, rfl, hL6.done, ?_⟩⟩
  exact zrt
 replace h := ite_f hc1 h
 refine zbf (zaj (zaj (zaf rfl (zag (zai (v := a_v) rfl ?_)))))
 refine zag (zbc (v := a_v) zas rfl a_h ?_)
 refine zag (zdz (x := (a.length : Int)) (y := 1) (z := (iw ((a.length : Int) - 1))) rfl rfl rfl ?_)
 refine zag (zak (v := (zI (iw ((a.length : Int) - 1)))) rfl (zan ?_))
 obtain ⟨s10, hl10, g10⟩ := zec h
 refine zbs (fun e w' => ∃  (u : Env), (Sum.inl ()) = s10 ∧ e = upds [] u ∧ vL w w' [] [] ∧ Keep w.heap.size [] w [] w' ∧ True) ?_ ?_
 ·
  refine zbb ?_
  refine zcb hl10 (fun (ss : Int) (e : Env) (w' : World) => match ss with | i10 => ∃ (u : Env), e = upds [(0, a_v), (1, b_v), (5, (zI i10))] u ∧ vL w w' [] [] ∧ Keep w.heap.size [] w [] w' ∧ True) ⟨_, (zeg ⟨rfl, rfl, rfl, trivial⟩), hL, zbq, trivial⟩ ?_
  rintro i10 oo _ w10 ⟨u, rfl, hL10, K10, -⟩ h hd10
  rw [bcompare_b1] at h
  refine zaj (zaj (zaf rfl (zag (zai (v := (zI i10)) rfl ?_))))
  refine zag (OpY.geq (x := i10) (y := 0) ((i10 : Int) ≥ 0) rfl rfl zbd (zan ?_))
  refine zba ((i10 : Int) ≥ 0) rfl (fun hc10 => ?_) (fun hc10 => ?_)
  ·
   replace h := ite_t hc10 h
   refine zbf (zaj (zbb (zaj (zaj ?_))))
   obtain ⟨x10, n10, q11, q12, -, h⟩ := zix h
   have f10 := (a_h.mono (K10 S))
   obtain ⟨b10, o10, c10, vs10, q13, q14, f11, q15⟩ := zcw f10 q12
   obtain rfl := q15
   obtain ⟨x11, n11, q17, q18, -, h⟩ := zix h
   have f12 := (b_h.mono (K10 S))
   obtain ⟨b11, o11, c11, vs11, q19, q20, f13, q21⟩ := zcw f12 q18
   obtain rfl := q21
   refine zcj 8 [] [] (fun W1 => [.det a_v, .det (zI i10), .det (zal (some ⟨b10, (o10 + n10 * (rInt .u32).sz), none⟩)), .det (zaa .u32 x10), .det b_v, .det (zI i10), .det (zal (some ⟨b11, (o11 + n11 * (rInt .u32).sz), none⟩)), .det (zaa .u32 x11)]) mixed rfl rfl rfl (fun _ => rfl) (fun _ => rfl) ?_ ?_
   ·
    intro W1 _
    exact trivial
   intro w11 hE10
   obtain ⟨hL11, K11⟩ := zl hL10 hE10
   refine zat (fun _ _ => zaw (zai rfl (er rfl))) ?_
   refine zat (fun _ _ => zaw (zai rfl (er rfl))) ?_
   refine zat (fun _ _ => zaw (zbp (r := (rInt .u32)) (v := a_v) (n := n10) (m := (o10 + n10 * (rInt .u32).sz)) zas ti177 rfl q13 rfl q11 q12 rfl (er rfl))) ?_
   refine zat (fun _ hE14 => zaw (zca zbg rfl rfl zek (zda ((ke hL11 hE14) S) (zda (K11 S) f11)) (er rfl))) ?_
   refine zat (fun _ _ => zaw (zai rfl (er rfl))) ?_
   refine zat (fun _ _ => zaw (zai rfl (er rfl))) ?_
   refine zat (fun _ _ => zaw (zbp (r := (rInt .u32)) (v := b_v) (n := n11) (m := (o11 + n11 * (rInt .u32).sz)) zas ti177 rfl q19 rfl q17 q18 rfl (er rfl))) ?_
   refine zat (fun _ hE18 => zaw (zca zbg rfl rfl zek (zda ((ke hL11 hE18) S) (zda (K11 S) f13)) (er rfl))) ?_
   refine zcx ?_
   rintro w20 Z28 hE19 hZ18 ⟨-⟩ ap10
   have hB10 := @zhb w11 Z28
   obtain ⟨hL12, K14⟩ := zl hL11 hE19
   refine zag (zci (x := x10) (y := x11) ((x10 : Int) < x11) rfl rfl zbd (zan ?_))
   refine zba ((x10 : Int) < x11) rfl (fun hc11 => ?_) (fun hc11 => ?_)
   ·
    replace h := ite_t hc11 h
    refine zaj (zaf rfl (zag (zak (v := (zI (-1))) rfl ?_)))
    refine zan (zbi ?_)
    obtain rfl := zah h
    obtain rfl := hd10 _ rfl
    replace h := g10
    try dsimp only at h
    obtain rfl := zah h
    refine ⟨[(zI (-1))], zrt, ⟨_, rfl, hL12.done, ?_⟩⟩
    exact zrt
   replace h := ite_f hc11 h
   refine zbf (zaj ?_)
   obtain ⟨x12, n12, q23, q24, -, h⟩ := zix h
   have f14 := ((f10.mono (K11 S)).mono (K14 S))
   obtain ⟨b12, o12, c12, vs12, q25, q26, f15, q27⟩ := zcw f14 q24
   obtain rfl := q27
   obtain ⟨x13, n13, q29, q30, -, h⟩ := zix h
   have f16 := ((f12.mono (K11 S)).mono (K14 S))
   obtain ⟨b13, o13, c13, vs13, q31, q32, f17, q33⟩ := zcw f16 q30
   obtain rfl := q33
   refine zcj 8 [] [] (fun W1 => [.det a_v, .det (zI i10), .det (zal (some ⟨b12, (o12 + n12 * (rInt .u32).sz), none⟩)), .det (zaa .u32 x12), .det b_v, .det (zI i10), .det (zal (some ⟨b13, (o13 + n13 * (rInt .u32).sz), none⟩)), .det (zaa .u32 x13)]) mixed rfl rfl rfl (fun _ => rfl) (fun _ => rfl) ?_ ?_
   ·
    intro W1 _
    exact trivial
   intro w21 hE20
   obtain ⟨hL13, K15⟩ := zl hL12 hE20
   refine zat (fun _ _ => zaw (zai rfl (er rfl))) ?_
   refine zat (fun _ _ => zaw (zai rfl (er rfl))) ?_
   refine zat (fun _ _ => zaw (zbp (r := (rInt .u32)) (v := a_v) (n := n12) (m := (o12 + n12 * (rInt .u32).sz)) zas ti177 rfl q25 rfl q23 q24 rfl (er rfl))) ?_
   refine zat (fun _ hE24 => zaw (zca zbg rfl rfl zek (zda ((ke hL13 hE24) S) (zda (K15 S) f15)) (er rfl))) ?_
   refine zat (fun _ _ => zaw (zai rfl (er rfl))) ?_
   refine zat (fun _ _ => zaw (zai rfl (er rfl))) ?_
   refine zat (fun _ _ => zaw (zbp (r := (rInt .u32)) (v := b_v) (n := n13) (m := (o13 + n13 * (rInt .u32).sz)) zas ti177 rfl q31 rfl q29 q30 rfl (er rfl))) ?_
   refine zat (fun _ hE28 => zaw (zca zbg rfl rfl zek (zda ((ke hL13 hE28) S) (zda (K15 S) f17)) (er rfl))) ?_
   refine zcx ?_
   rintro w30 Z37 hE29 hZ27 ⟨-⟩ ap11
   have hB11 := @zhb w21 Z37
   obtain ⟨hL14, K18⟩ := zl hL13 hE29
   refine zag (OpY.gtr (x := x12) (y := x13) ((x12 : Int) > x13) rfl rfl zbd (zan ?_))
   refine zba ((x12 : Int) > x13) rfl (fun hc12 => ?_) (fun hc12 => ?_)
   ·
    replace h := ite_t hc12 h
    refine zaj (zaf rfl (zag (zak (v := (zI 1)) rfl ?_)))
    refine zan (zbi ?_)
    obtain rfl := zah h
    obtain rfl := hd10 _ rfl
    replace h := g10
    try dsimp only at h
    obtain rfl := zah h
    refine ⟨[(zI 1)], zrt, ⟨_, rfl, hL14.done, ?_⟩⟩
    exact zrt
   replace h := ite_f hc12 h
   refine zbf (zbn (zaf rfl (zag (zai (v := (zI i10)) rfl ?_))))
   refine zag (zdz (x := i10) (y := 1) (z := (iw (i10 - 1))) rfl rfl rfl ?_)
   refine zag (zak (v := (zI (iw (i10 - 1)))) rfl (zan ?_))
   obtain rfl := zah h
   refine zaq ⟨(iw (i10 - 1)), rfl, ?_⟩
   exact ⟨_, (zeg ⟨rfl, rfl, rfl, trivial⟩), hL14, (zao (zao (zao (zao K10 K11) K14) K15) K18), trivial⟩
  replace h := ite_f hc10 h
  refine zck rfl ?_
  obtain rfl := zah h
  obtain rfl := hd10 _ rfl
  replace h := g10
  try dsimp only at h
  refine zaq ?_
  exact ⟨_, rfl, (zeg trivial), hL10, K10, trivial⟩
 rintro _ w31 ⟨u, rfl, rfl, hL15, K19, -⟩
 replace h := g10
 try dsimp only at h
 refine zaj (zaf rfl (zag (zak (v := (zI 0)) rfl ?_)))
 refine zan (zbi ?_)
 obtain rfl := zah h
 refine ⟨[(zI 0)], zrt, ⟨_, rfl, hL15.done, ?_⟩⟩
 exact zrt
theorem bplus_w (N : Nat) (a : (List Int)) (b : (List Int)) (a_v : Value) (b_v : Value) (w : World) (S : Nat → Prop) (a_h : Rs (rInt .u32) (vH w S [] w) a_v a) (b_h : Rs (rInt .u32) (vH w S [] w) b_v b) (r : (List Int)) (h : bplus N a b = some r) :
  Calls Tryz.prog 170 #[a_v, b_v] w (Ret w (fun v w' => ∃ (ob0 : Option Nat) (cap0 : Nat) (cs0 : List Value) (sp0 : List Value), (osv ob0 0 r.length cap0) = v ∧ NewOwn w w' [ob0] [zac ([] ++ (cs0 ++ sp0))] ∧ Els (rInt .u32) (vH w None [ob0] w') cs0 r ∧ (cs0 ++ sp0).length = cap0 * (rInt .u32).sz ∧ True)) := by
 unfold bplus at h
 have hL : vL w w [] [] := Go.X.Loc.begin0 w
 refine calls_of (l := [a_v, b_v]) (rl := [.tmp 4]) (n := 38) Tryz.func170 rfl rfl rfl (zae rfl) ?_
 refine zaj (zaf rfl (zag (zak (v := zN) rfl ?_)))
 refine zan (zaj (zaf rfl (zag (zai (v := a_v) rfl ?_))))
 refine zag (zbc (v := a_v) zas rfl a_h ?_)
 refine zag (zai (v := b_v) rfl ?_)
 refine zag (zbc (v := b_v) zas rfl b_h ?_)
 refine zag (OpY.max (x := (a.length : Int)) (y := (b.length : Int)) rfl rfl ?_)
 refine zag (zbz (x := (imax (a.length : Int) (b.length : Int))) (y := 1) (z := (iw ((imax (a.length : Int) (b.length : Int)) + 1))) rfl rfl rfl ?_)
 obtain ⟨x2, q3, h⟩ := zec h
 obtain ⟨m1, q4, q5, q6, q7⟩ := mk1_some q3
 refine zag (OpY.mkRowX (r := (rInt .u32)) (H := (vH w None [] w)) (zc := [(zaa .u32 0)]) (x := 0) zas ti177 rfl rfl rfl rfl q4 q5 q6 q7 hL ?_)
 intro b8 w10 cs9 hE10 hc10 hL10 hS10
 have K10 := ks w hS10
 refine zag (zak (v := (osv (some b8) 0 x2.length m1)) rfl ?_)
 refine zan (zaj (zaf rfl (zag (zak (v := (zaa .u64 0)) rfl ?_))))
 refine zan (zaj (zaj (zaf rfl (zag (zai (v := (osv (some b8) 0 x2.length m1)) rfl ?_)))))
 have f10 := (hE10.mono (K10 None))
 refine zag (OpY.lenRow (pre := []) (r := (rInt .u32)) (xs := x2) zas rfl (hL10.at 0 rfl rfl) f10 rfl rfl ?_)
 refine zag (zai (v := (zI 0)) rfl (zan ?_))
 obtain ⟨s10, hl10, g10⟩ := zec h
 refine zbs (fun e w' => ∃ (out10 : (List Int)) (cs10 : List Value) (u : Env), out10 = s10 ∧ e = upds [(5, (osv (some b8) 0 x2.length m1))] u ∧ vL w w' [some b8] [zac ([] ++ (cs10 ++ []))] ∧ Keep w.heap.size [some b8] w10 [some b8] w' ∧ Els (rInt .u32) (vH w None [some b8] w') cs10 out10 ∧ x2.length = List.length out10 ∧ (cs10 ++ []).length = m1 * (rInt .u32).sz ∧ True) ?_ ?_
 ·
  refine zbb ?_
  refine zcb hl10 (fun (ss : ((List Int) × Int × Int)) (e : Env) (w' : World) => match ss with | (out11, carry10, x10) => ∃ (cs11 : List Value) (u : Env), e = upds [(0, a_v), (1, b_v), (5, (osv (some b8) 0 x2.length m1)), (6, (zaa .u64 carry10)), (16, (zI (x2.length : Int))), (17, (zI x10))] u ∧ vL w w' [some b8] [zac ([] ++ (cs11 ++ []))] ∧ Keep w.heap.size [some b8] w10 [some b8] w' ∧ Els (rInt .u32) (vH w None [some b8] w') cs11 out11 ∧ x2.length = List.length out11 ∧ (cs11 ++ []).length = m1 * (rInt .u32).sz ∧ True) ⟨cs9, _, (zeg ⟨rfl, rfl, rfl, rfl, rfl, rfl, trivial⟩), hL10, zbq, f10, rfl, hc10, trivial⟩ ?_
  rintro ⟨out11, carry10, x10⟩ oo _ w11 ⟨cs11, u, rfl, hL11, K11, hE11, hl11, hc11, -⟩ h hd10
  rw [bplus_b1] at h
  refine zaj (zaf rfl (zag (zci (x := x10) (y := (x2.length : Int)) ((x10 : Int) < (x2.length : Int)) rfl rfl zbd ?_)))
  refine zan (zaj ?_)
  refine zba ((x10 : Int) < (x2.length : Int)) rfl (fun hc12 => ?_) (fun hc12 => ?_)
  ·
   replace h := ite_t hc12 h
   refine zbf (zaj (zbb (zaj (zaf rfl (zag (zai (v := (zI x10)) rfl ?_))))))
   refine zag (zak (v := (zI x10)) rfl ?_)
   refine zan (zaj (zaf rfl (zag (zai (v := (zaa .u64 carry10)) rfl ?_))))
   refine zag (zai (v := a_v) rfl ?_)
   refine zag (zai (v := (zI x10)) rfl ?_)
   obtain ⟨r10, q10, h⟩ := zec h
   have f11 := ((a_h.mono (K10 S)).mono (K11 S))
   refine zag (zay en186 rfl rfl (digit_w N a x10 a_v _ Any (f11.mono vw_any) r10 q10) ?_)
   rintro _ w12 hE12 ⟨rfl, -⟩
   obtain ⟨hL12, K12⟩ := zl hL11 hE12
   refine zag (zai (v := b_v) rfl ?_)
   refine zag (zai (v := (zI x10)) rfl ?_)
   obtain ⟨r11, q11, h⟩ := zec h
   have f12 := (((b_h.mono (K10 S)).mono (K11 S)).mono (K12 S))
   refine zag (zay en186 rfl rfl (digit_w N b x10 b_v _ Any (f12.mono vw_any) r11 q11) ?_)
   rintro _ w13 hE13 ⟨rfl, -⟩
   obtain ⟨hL13, K13⟩ := zl hL12 hE13
   refine zag (zbz (x := r10) (y := r11) (z := (uw (r10 + r11))) rfl rfl rfl ?_)
   refine zag (zbz (x := carry10) (y := (uw (r10 + r11))) (z := (uw (carry10 + (uw (r10 + r11))))) rfl rfl rfl ?_)
   refine zag (zak (v := (zaa .u64 (uw (carry10 + (uw (r10 + r11)))))) rfl ?_)
   refine zan (zaj (zaf rfl (zag (zai (v := (osv (some b8) 0 x2.length m1)) rfl ?_))))
   refine zag (zai (v := (zI x10)) rfl ?_)
   refine zag (zai (v := (zaa .u64 (uw (carry10 + (uw (r10 + r11)))))) rfl ?_)
   refine zag (zcr (x := (uw (carry10 + (uw (r10 + r11))))) (z := (uw32 (uw (carry10 + (uw (r10 + r11)))))) zbv zbg rfl rfl ?_)
   obtain ⟨x11, n10, q13, q14, q15, h⟩ := zix h
   refine zag (zdv (r := (rInt .u32)) (b := b8) (o := 0) (n := n10) (m := x2.length) (xs := out11) (q := (0 + n10 * (rInt .u32).sz)) zas ti177 rfl hl11 rfl q13 q15 rfl ?_)
   obtain ⟨x12, n11, q17, q18, q19, h⟩ := zux h
   obtain rfl := zin q13 q17
   have f13 := ((hE11.mono (K12 None)).mono (K13 None))
   refine zcf (OpY.stRowX (pre := []) (r := (rInt .u32)) (vs := [(zaa .u32 (uw32 (uw (carry10 + (uw (r10 + r11))))))]) (a := (uw32 (uw (carry10 + (uw (r10 + r11)))))) ti177 rfl rfl rfl rfl hL13 0 rfl rfl f13 q15 rfl q19 ?_)
   have hl12 : x2.length = List.length x12 := by rw [q19, List.length_set]; exact hl11
   intro w14 cs12 (hL14 : vL w w14 [some b8] [zac ([] ++ (cs12 ++ []))]) hS11 hE14 q20
   have hc13 : (cs12 ++ []).length = m1 * (rInt .u32).sz := zhc hc11 q20
   have K14 := ks w hS11
   refine zan (zaf rfl (zag (zai (v := (zaa .u64 (uw (carry10 + (uw (r10 + r11)))))) rfl ?_)))
   refine zag (OpY.ishr (x := (uw (carry10 + (uw (r10 + r11))))) (y := 32) rfl rfl (by decide) ?_)
   refine zag (zak (v := (zaa .u64 (bshr .u64 (uw (carry10 + (uw (r10 + r11)))) 32))) rfl ?_)
   refine zan (zbn (zaf rfl (zag (zbz (x := x10) (y := 1) (z := (iw (x10 + 1))) rfl rfl rfl ?_))))
   refine zag (zai (v := (zI (iw (x10 + 1)))) rfl (zan ?_))
   have f14 := (hE14.mono (K14 None))
   obtain rfl := zah h
   refine zaq ⟨(x12, (bshr .u64 (uw (carry10 + (uw (r10 + r11)))) 32), (iw (x10 + 1))), rfl, ?_⟩
   exact ⟨cs12, _, (zeg ⟨rfl, rfl, rfl, rfl, rfl, rfl, trivial⟩), hL14, (zao (zao (zao K11 K12) K13) K14), f14, hl12, hc13, trivial⟩
  replace h := ite_f hc12 h
  refine zck rfl ?_
  obtain rfl := zah h
  obtain rfl := hd10 _ rfl
  replace h := g10
  try dsimp only at h
  refine zaq ?_
  exact ⟨out11, cs11, _, rfl, (zeg zrt), hL11, K11, hE11, hl11, hc11, trivial⟩
 rintro _ w15 ⟨out10, cs10, u, rfl, rfl, hL15, K15, hE15, hl13, hc14, -⟩
 replace h := g10
 try dsimp only at h
 refine zaj (zaf rfl (zag (zai (v := (osv (some b8) 0 x2.length m1)) rfl ?_)))
 refine zag (zak (v := (osv (some b8) 0 x2.length m1)) rfl ?_)
 refine zan (zbi ?_)
 obtain rfl := zah h
 refine ⟨[(osv (some b8) 0 x2.length m1)], zrt, ⟨_, rfl, hL15.done, ?_⟩⟩
 exact ⟨some b8, m1, cs10, [], (by rw [← hl13]; rfl), (hL15.newOwn [0] rfl rfl rfl), (hE15.mono (zdx [0] rfl)), hc14, trivial⟩
theorem bminus_w (N : Nat) (a : (List Int)) (b : (List Int)) (a_v : Value) (b_v : Value) (w : World) (S : Nat → Prop) (a_h : Rs (rInt .u32) (vH w S [] w) a_v a) (b_h : Rs (rInt .u32) (vH w S [] w) b_v b) (r : (List Int)) (h : bminus N a b = some r) :
  Calls Tryz.prog 172 #[a_v, b_v] w (Ret w (fun v w' => ∃ (ob0 : Option Nat) (cap0 : Nat) (cs0 : List Value) (sp0 : List Value), (osv ob0 0 r.length cap0) = v ∧ NewOwn w w' [ob0] [zac ([] ++ (cs0 ++ sp0))] ∧ Els (rInt .u32) (vH w None [ob0] w') cs0 r ∧ (cs0 ++ sp0).length = cap0 * (rInt .u32).sz ∧ True)) := by
 unfold bminus at h
 have hL : vL w w [] [] := Go.X.Loc.begin0 w
 refine calls_of (l := [a_v, b_v]) (rl := [.tmp 4]) (n := 37) Tryz.func172 rfl rfl rfl (zae rfl) ?_
 refine zaj (zaf rfl (zag (zak (v := zN) rfl ?_)))
 refine zan (zaj (zaf rfl (zag (zai (v := a_v) rfl ?_))))
 refine zag (zbc (v := a_v) zas rfl a_h ?_)
 obtain ⟨x2, q3, h⟩ := zec h
 obtain ⟨m1, q4, q5, q6, q7⟩ := mk1_some q3
 refine zag (OpY.mkRowX (r := (rInt .u32)) (H := (vH w None [] w)) (zc := [(zaa .u32 0)]) (x := 0) zas ti177 rfl rfl rfl rfl q4 q5 q6 q7 hL ?_)
 intro b8 w10 cs9 hE10 hc10 hL10 hS10
 have K10 := ks w hS10
 refine zag (zak (v := (osv (some b8) 0 x2.length m1)) rfl ?_)
 refine zan (zaj (zaf rfl (zag (zak (v := (zaa .u64 0)) rfl ?_))))
 refine zan (zaj (zaj (zaf rfl (zag (zai (v := a_v) rfl ?_)))))
 have f10 := (a_h.mono (K10 S))
 refine zag (zbc (v := a_v) zas rfl f10 ?_)
 refine zag (zai (v := (zI 0)) rfl (zan ?_))
 obtain ⟨s10, hl10, g10⟩ := zec h
 refine zbs (fun e w' => ∃ (out10 : (List Int)) (cs10 : List Value) (u : Env), out10 = s10 ∧ e = upds [(5, (osv (some b8) 0 x2.length m1))] u ∧ vL w w' [some b8] [zac ([] ++ (cs10 ++ []))] ∧ Keep w.heap.size [some b8] w10 [some b8] w' ∧ Els (rInt .u32) (vH w None [some b8] w') cs10 out10 ∧ x2.length = List.length out10 ∧ (cs10 ++ []).length = m1 * (rInt .u32).sz ∧ True) ?_ ?_
 ·
  refine zbb ?_
  have f11 := (hE10.mono (K10 None))
  refine zcb hl10 (fun (ss : ((List Int) × Int × Int)) (e : Env) (w' : World) => match ss with | (out11, borrow10, x10) => ∃ (cs11 : List Value) (u : Env), e = upds [(0, a_v), (1, b_v), (5, (osv (some b8) 0 x2.length m1)), (6, (zaa .u64 borrow10)), (13, (zI (a.length : Int))), (14, (zI x10))] u ∧ vL w w' [some b8] [zac ([] ++ (cs11 ++ []))] ∧ Keep w.heap.size [some b8] w10 [some b8] w' ∧ Els (rInt .u32) (vH w None [some b8] w') cs11 out11 ∧ x2.length = List.length out11 ∧ (cs11 ++ []).length = m1 * (rInt .u32).sz ∧ True) ⟨cs9, _, (zeg ⟨rfl, rfl, rfl, rfl, rfl, rfl, trivial⟩), hL10, zbq, f11, rfl, hc10, trivial⟩ ?_
  rintro ⟨out11, borrow10, x10⟩ oo _ w11 ⟨cs11, u, rfl, hL11, K11, hE11, hl11, hc11, -⟩ h hd10
  rw [bminus_b1] at h
  refine zaj (zaf rfl (zag (zci (x := x10) (y := (a.length : Int)) ((x10 : Int) < (a.length : Int)) rfl rfl zbd ?_)))
  refine zan (zaj ?_)
  refine zba ((x10 : Int) < (a.length : Int)) rfl (fun hc12 => ?_) (fun hc12 => ?_)
  ·
   replace h := ite_t hc12 h
   refine zbf (zaj (zbb (zaj (zaf rfl (zag (zai (v := (zI x10)) rfl ?_))))))
   refine zag (zak (v := (zI x10)) rfl ?_)
   refine zan (zaj ?_)
   obtain ⟨x11, n10, q11, q12, -, h⟩ := zix h
   have f12 := (f10.mono (K11 S))
   obtain ⟨b10, o10, c10, vs10, q13, q14, f13, q15⟩ := zcw f12 q12
   obtain rfl := q15
   obtain ⟨r10, q16, h⟩ := zec h
   refine zcj 10 [] [] (fun W1 => [.det a_v, .det (zI x10), .det (zal (some ⟨b10, (o10 + n10 * (rInt .u32).sz), none⟩)), .det (zaa .u32 x11), .det (zaa .u64 (uw x11)), .det b_v, .det (zI x10), .det (zaa .u64 r10), .det (zaa .u64 (uw ((uw x11) - r10))), .det (zaa .u64 borrow10)]) mixed rfl rfl rfl (fun _ => rfl) (fun _ => rfl) ?_ ?_
   ·
    intro W1 _
    exact trivial
   intro w12 hE12
   obtain ⟨hL12, K12⟩ := zl hL11 hE12
   refine zat (fun _ _ => zaw (zai rfl (er rfl))) ?_
   refine zat (fun _ _ => zaw (zai rfl (er rfl))) ?_
   refine zat (fun _ _ => zaw (zbp (r := (rInt .u32)) (v := a_v) (n := n10) (m := (o10 + n10 * (rInt .u32).sz)) zas ti177 rfl q13 rfl q11 q12 rfl (er rfl))) ?_
   refine zat (fun _ hE16 => zaw (zca zbg rfl rfl zek (zda ((ke hL12 hE16) S) (zda (K12 S) f13)) (er rfl))) ?_
   refine zat (fun _ _ => zaw (zcr zbg zbv rfl rfl (er rfl))) ?_
   refine zat (fun _ _ => zaw (zai rfl (er rfl))) ?_
   refine zat (fun _ _ => zaw (zai rfl (er rfl))) ?_
   refine DrH.det ?_ ?_
   ·
    rintro w20 Z27 hE20 hZ17 ⟨-⟩
    have K14 := ke hL12 hE20
    refine zaw (zay en186 rfl rfl (digit_w N b x10 b_v _ Any (((((b_h.mono (K10 S)).mono (K11 S)).mono (K12 S)).mono (K14 S)).mono vw_any) r10 q16) ?_)
    rintro _ w21 hE21 ⟨rfl, -⟩
    exact ⟨hE21, rfl⟩
   refine zat (fun _ _ => zaw (zdz rfl rfl rfl (er rfl))) ?_
   refine zat (fun _ _ => zaw (zai rfl (er rfl))) ?_
   refine zcx ?_
   rintro w24 Z30 hE24 hZ20 ⟨-⟩ ap10
   have hB10 := @zhb w12 Z30
   obtain ⟨hL13, K15⟩ := zl hL12 hE24
   refine zag (zdz (x := (uw ((uw x11) - r10))) (y := borrow10) (z := (uw ((uw ((uw x11) - r10)) - borrow10))) rfl rfl rfl ?_)
   refine zag (zak (v := (zaa .u64 (uw ((uw ((uw x11) - r10)) - borrow10)))) rfl ?_)
   refine zan (zaj (zaf rfl (zag (zai (v := (osv (some b8) 0 x2.length m1)) rfl ?_))))
   refine zag (zai (v := (zI x10)) rfl ?_)
   refine zag (zai (v := (zaa .u64 (uw ((uw ((uw x11) - r10)) - borrow10)))) rfl ?_)
   refine zag (zcr (x := (uw ((uw ((uw x11) - r10)) - borrow10))) (z := (uw32 (uw ((uw ((uw x11) - r10)) - borrow10)))) zbv zbg rfl rfl ?_)
   obtain ⟨x12, n11, q18, q19, q20, h⟩ := zix h
   refine zag (zdv (r := (rInt .u32)) (b := b8) (o := 0) (n := n11) (m := x2.length) (xs := out11) (q := (0 + n11 * (rInt .u32).sz)) zas ti177 rfl hl11 rfl q18 q20 rfl ?_)
   obtain ⟨x13, n12, q22, q23, q24, h⟩ := zux h
   obtain rfl := zin q18 q22
   have f14 := ((hE11.mono (K12 None)).mono (K15 None))
   refine zcf (OpY.stRowX (pre := []) (r := (rInt .u32)) (vs := [(zaa .u32 (uw32 (uw ((uw ((uw x11) - r10)) - borrow10))))]) (a := (uw32 (uw ((uw ((uw x11) - r10)) - borrow10)))) ti177 rfl rfl rfl rfl hL13 0 rfl rfl f14 q20 rfl q24 ?_)
   have hl12 : x2.length = List.length x13 := by rw [q24, List.length_set]; exact hl11
   intro w25 cs12 (hL14 : vL w w25 [some b8] [zac ([] ++ (cs12 ++ []))]) hS11 hE25 q25
   have hc13 : (cs12 ++ []).length = m1 * (rInt .u32).sz := zhc hc11 q25
   have K16 := ks w hS11
   refine zan (zaf rfl (zag (zai (v := (zaa .u64 (uw ((uw ((uw x11) - r10)) - borrow10)))) rfl ?_)))
   refine zag (OpY.ishr (x := (uw ((uw ((uw x11) - r10)) - borrow10))) (y := 63) rfl rfl (by decide) ?_)
   refine zag (zak (v := (zaa .u64 (bshr .u64 (uw ((uw ((uw x11) - r10)) - borrow10)) 63))) rfl ?_)
   refine zan (zbn (zaf rfl (zag (zbz (x := x10) (y := 1) (z := (iw (x10 + 1))) rfl rfl rfl ?_))))
   refine zag (zai (v := (zI (iw (x10 + 1)))) rfl (zan ?_))
   have f15 := (hE25.mono (K16 None))
   obtain rfl := zah h
   refine zaq ⟨(x13, (bshr .u64 (uw ((uw ((uw x11) - r10)) - borrow10)) 63), (iw (x10 + 1))), rfl, ?_⟩
   exact ⟨cs12, _, (zeg ⟨rfl, rfl, rfl, rfl, rfl, rfl, trivial⟩), hL14, (zao (zao (zao K11 K12) K15) K16), f15, hl12, hc13, trivial⟩
  replace h := ite_f hc12 h
  refine zck rfl ?_
  obtain rfl := zah h
  obtain rfl := hd10 _ rfl
  replace h := g10
  try dsimp only at h
  refine zaq ?_
  exact ⟨out11, cs11, _, rfl, (zeg zrt), hL11, K11, hE11, hl11, hc11, trivial⟩
 rintro _ w26 ⟨out10, cs10, u, rfl, rfl, hL15, K17, hE26, hl13, hc14, -⟩
 replace h := g10
 try dsimp only at h
 refine zaj (zaf rfl (zag (zai (v := (osv (some b8) 0 x2.length m1)) rfl ?_)))
 refine zag (zak (v := (osv (some b8) 0 x2.length m1)) rfl ?_)
 refine zan (zbi ?_)
 obtain rfl := zah h
 refine ⟨[(osv (some b8) 0 x2.length m1)], zrt, ⟨_, rfl, hL15.done, ?_⟩⟩
 exact ⟨some b8, m1, cs10, [], (by rw [← hl13]; rfl), (hL15.newOwn [0] rfl rfl rfl), (hE26.mono (zdx [0] rfl)), hc14, trivial⟩
theorem btimes_w (N : Nat) (a : (List Int)) (b : (List Int)) (a_v : Value) (b_v : Value) (w : World) (S : Nat → Prop) (a_h : Rs (rInt .u32) (vH w S [] w) a_v a) (b_h : Rs (rInt .u32) (vH w S [] w) b_v b) (r : (List Int)) (h : btimes N a b = some r) :
  Calls Tryz.prog 173 #[a_v, b_v] w (Ret w (fun v w' => ∃ (ob0 : Option Nat) (cap0 : Nat) (cs0 : List Value) (sp0 : List Value), (osv ob0 0 r.length cap0) = v ∧ NewOwn w w' [ob0] [zac ([] ++ (cs0 ++ sp0))] ∧ Els (rInt .u32) (vH w None [ob0] w') cs0 r ∧ (cs0 ++ sp0).length = cap0 * (rInt .u32).sz ∧ True)) := by
 unfold btimes at h
 have hL : vL w w [] [] := Go.X.Loc.begin0 w
 refine calls_of (l := [a_v, b_v]) (rl := [.tmp 4]) (n := 66) Tryz.func173 rfl rfl rfl (zae rfl) ?_
 refine zaj (zaf rfl (zag (zak (v := zN) rfl ?_)))
 refine zan (zaj (zaf rfl (zag (zai (v := a_v) rfl ?_))))
 refine zag (zbc (v := a_v) zas rfl a_h ?_)
 refine zag (zai (v := b_v) rfl ?_)
 refine zag (zbc (v := b_v) zas rfl b_h ?_)
 refine zag (zbz (x := (a.length : Int)) (y := (b.length : Int)) (z := (iw ((a.length : Int) + (b.length : Int)))) rfl rfl rfl ?_)
 obtain ⟨x2, q3, h⟩ := zec h
 obtain ⟨m1, q4, q5, q6, q7⟩ := mk1_some q3
 refine zag (OpY.mkRowX (r := (rInt .u32)) (H := (vH w None [] w)) (zc := [(zaa .u32 0)]) (x := 0) zas ti177 rfl rfl rfl rfl q4 q5 q6 q7 hL ?_)
 intro b8 w10 cs9 hE10 hc10 hL10 hS10
 have K10 := ks w hS10
 refine zag (zak (v := (osv (some b8) 0 x2.length m1)) rfl ?_)
 refine zan (zaj (zaj (zaf rfl (zag (zai (v := a_v) rfl ?_)))))
 have f10 := (a_h.mono (K10 S))
 refine zag (zbc (v := a_v) zas rfl f10 ?_)
 refine zag (zai (v := (zI 0)) rfl (zan ?_))
 obtain ⟨s10, hl10, g10⟩ := zec h
 refine zbs (fun e w' => ∃ (out10 : (List Int)) (cs10 : List Value) (u : Env), out10 = s10 ∧ e = upds [(5, (osv (some b8) 0 x2.length m1))] u ∧ vL w w' [some b8] [zac ([] ++ (cs10 ++ []))] ∧ Keep w.heap.size [some b8] w10 [some b8] w' ∧ Els (rInt .u32) (vH w None [some b8] w') cs10 out10 ∧ x2.length = List.length out10 ∧ (cs10 ++ []).length = m1 * (rInt .u32).sz ∧ True) ?_ ?_
 ·
  refine zbb ?_
  have f11 := (hE10.mono (K10 None))
  refine zcb hl10 (fun (ss : ((List Int) × Int)) (e : Env) (w' : World) => match ss with | (out11, x10) => ∃ (cs11 : List Value) (u : Env), e = upds [(1, b_v), (5, (osv (some b8) 0 x2.length m1)), (17, a_v), (18, (zI (a.length : Int))), (19, (zI x10))] u ∧ vL w w' [some b8] [zac ([] ++ (cs11 ++ []))] ∧ Keep w.heap.size [some b8] w10 [some b8] w' ∧ Els (rInt .u32) (vH w None [some b8] w') cs11 out11 ∧ x2.length = List.length out11 ∧ (cs11 ++ []).length = m1 * (rInt .u32).sz ∧ True) ⟨cs9, _, (zeg ⟨rfl, rfl, rfl, rfl, rfl, trivial⟩), hL10, zbq, f11, rfl, hc10, trivial⟩ ?_
  rintro ⟨out11, x10⟩ oo _ w11 ⟨cs11, u, rfl, hL11, K11, hE11, hl11, hc11, -⟩ h hd10
  rw [btimes_b1] at h
  refine zaj (zaf rfl (zag (zci (x := x10) (y := (a.length : Int)) ((x10 : Int) < (a.length : Int)) rfl rfl zbd ?_)))
  refine zan (zaj ?_)
  refine zba ((x10 : Int) < (a.length : Int)) rfl (fun hc12 => ?_) (fun hc12 => ?_)
  ·
   replace h := ite_t hc12 h
   refine zbf (zaj (zbb (zaj (zaf rfl (zag (zai (v := (zI x10)) rfl ?_))))))
   obtain ⟨x11, n10, q11, q12, -, h⟩ := zix h
   have f12 := (f10.mono (K11 S))
   obtain ⟨b10, o10, c10, vs10, q13, q14, f13, q15⟩ := zcw f12 q12
   obtain rfl := q15
   refine zag (zbp (r := (rInt .u32)) (v := a_v) (n := n10) (m := (o10 + n10 * (rInt .u32).sz)) zas ti177 rfl q13 rfl q11 q12 rfl ?_)
   refine zag (zca (v := (zaa .u32 x11)) zbg rfl rfl zek f13 ?_)
   refine zag (zak (v := (zI x10)) rfl ?_)
   refine zag (zak (v := (zaa .u32 x11)) rfl ?_)
   refine zan (zaj (zaf rfl (zag (zak (v := (zaa .u64 0)) rfl ?_))))
   refine zan (zaj (zaj (zaf rfl (zag (zai (v := b_v) rfl ?_)))))
   have f14 := ((b_h.mono (K10 S)).mono (K11 S))
   refine zag (zbc (v := b_v) zas rfl f14 ?_)
   refine zag (zai (v := (zI 0)) rfl (zan ?_))
   obtain ⟨s11, hl12, g11⟩ := zec h
   refine zbs (fun e w' => ∃ (out12 : (List Int)) (carry10 : Int) (cs12 : List Value) (u : Env), (out12, carry10) = s11 ∧ e = upds [(1, b_v), (5, (osv (some b8) 0 x2.length m1)), (6, (zI x10)), (8, (zaa .u64 carry10)), (17, a_v), (18, (zI (a.length : Int))), (19, (zI x10))] u ∧ vL w w' [some b8] [zac ([] ++ (cs12 ++ []))] ∧ Keep w.heap.size [some b8] w11 [some b8] w' ∧ Els (rInt .u32) (vH w None [some b8] w') cs12 out12 ∧ x2.length = List.length out12 ∧ (cs12 ++ []).length = m1 * (rInt .u32).sz ∧ True) ?_ ?_
   ·
    refine zbb ?_
    refine zcb hl12 (fun (ss : ((List Int) × Int × Int)) (e : Env) (w' : World) => match ss with | (out13, carry11, x12) => ∃ (cs13 : List Value) (u : Env), e = upds [(1, b_v), (5, (osv (some b8) 0 x2.length m1)), (6, (zI x10)), (7, (zaa .u32 x11)), (8, (zaa .u64 carry11)), (17, a_v), (18, (zI (a.length : Int))), (19, (zI x10)), (24, b_v), (25, (zI (b.length : Int))), (26, (zI x12))] u ∧ vL w w' [some b8] [zac ([] ++ (cs13 ++ []))] ∧ Keep w.heap.size [some b8] w11 [some b8] w' ∧ Els (rInt .u32) (vH w None [some b8] w') cs13 out13 ∧ x2.length = List.length out13 ∧ (cs13 ++ []).length = m1 * (rInt .u32).sz ∧ True) ⟨cs11, _, (zeg ⟨rfl, rfl, rfl, rfl, rfl, rfl, rfl, rfl, rfl, rfl, rfl, trivial⟩), hL11, zbq, hE11, hl11, hc11, trivial⟩ ?_
    rintro ⟨out13, carry11, x12⟩ oo _ w12 ⟨cs13, u, rfl, hL12, K12, hE12, hl13, hc13, -⟩ h hd11
    rw [btimes_b2] at h
    refine zaj (zaf rfl (zag (zci (x := x12) (y := (b.length : Int)) ((x12 : Int) < (b.length : Int)) rfl rfl zbd ?_)))
    refine zan (zaj ?_)
    refine zba ((x12 : Int) < (b.length : Int)) rfl (fun hc14 => ?_) (fun hc14 => ?_)
    ·
     replace h := ite_t hc14 h
     refine zbf (zaj (zbb (zaj (zaf rfl (zag (zai (v := (zI x12)) rfl ?_))))))
     obtain ⟨x13, n11, q17, q18, -, h⟩ := zix h
     have f15 := (f14.mono (K12 S))
     obtain ⟨b11, o11, c11, vs11, q19, q20, f16, q21⟩ := zcw f15 q18
     obtain rfl := q21
     refine zag (zbp (r := (rInt .u32)) (v := b_v) (n := n11) (m := (o11 + n11 * (rInt .u32).sz)) zas ti177 rfl q19 rfl q17 q18 rfl ?_)
     refine zag (zca (v := (zaa .u32 x13)) zbg rfl rfl zek f16 ?_)
     refine zag (zak (v := (zI x12)) rfl ?_)
     refine zag (zak (v := (zaa .u32 x13)) rfl ?_)
     refine zan (zaj (zaf rfl (zag (zai (v := (zaa .u64 carry11)) rfl ?_))))
     refine zag (zai (v := (zaa .u32 x11)) rfl ?_)
     refine zag (zcr (x := x11) (z := (uw x11)) zbg zbv rfl rfl ?_)
     refine zag (zai (v := (zaa .u32 x13)) rfl ?_)
     refine zag (zcr (x := x13) (z := (uw x13)) zbg zbv rfl rfl ?_)
     refine zag (OpY.mul (x := (uw x11)) (y := (uw x13)) (z := (uw ((uw x11) * (uw x13)))) rfl rfl rfl ?_)
     refine zag (zai (v := (osv (some b8) 0 x2.length m1)) rfl ?_)
     refine zag (zai (v := (zI x10)) rfl ?_)
     refine zag (zai (v := (zI x12)) rfl ?_)
     refine zag (zbz (x := x10) (y := x12) (z := (iw (x10 + x12))) rfl rfl rfl ?_)
     obtain ⟨x14, n12, q23, q24, q25, h⟩ := zix h
     refine zag (zdv (r := (rInt .u32)) (b := b8) (o := 0) (n := n12) (m := x2.length) (xs := out13) (q := (0 + n12 * (rInt .u32).sz)) zas ti177 rfl hl13 rfl q23 q25 rfl ?_)
     obtain ⟨vs12, q26, q27, q28⟩ := row_elem (pre := []) (sp := []) hE12 q24
     obtain rfl := q27
     refine zag (OpY.ldElem1 (v := (zaa .u32 x14)) zbg rfl rfl (hL12.at 0 rfl rfl) q28 ?_)
     refine zag (zcr (x := x14) (z := (uw x14)) zbg zbv rfl rfl ?_)
     refine zag (zbz (x := (uw ((uw x11) * (uw x13)))) (y := (uw x14)) (z := (uw ((uw ((uw x11) * (uw x13))) + (uw x14)))) rfl rfl rfl ?_)
     refine zag (zbz (x := carry11) (y := (uw ((uw ((uw x11) * (uw x13))) + (uw x14)))) (z := (uw (carry11 + (uw ((uw ((uw x11) * (uw x13))) + (uw x14)))))) rfl rfl rfl ?_)
     refine zag (zak (v := (zaa .u64 (uw (carry11 + (uw ((uw ((uw x11) * (uw x13))) + (uw x14))))))) rfl ?_)
     refine zan (zaj (zaf rfl (zag (zai (v := (osv (some b8) 0 x2.length m1)) rfl ?_))))
     refine zag (zai (v := (zI x10)) rfl ?_)
     refine zag (zai (v := (zI x12)) rfl ?_)
     refine zag (zbz (x := x10) (y := x12) (z := (iw (x10 + x12))) rfl rfl rfl ?_)
     refine zag (zai (v := (zaa .u64 (uw (carry11 + (uw ((uw ((uw x11) * (uw x13))) + (uw x14))))))) rfl ?_)
     refine zag (zcr (x := (uw (carry11 + (uw ((uw ((uw x11) * (uw x13))) + (uw x14)))))) (z := (uw32 (uw (carry11 + (uw ((uw ((uw x11) * (uw x13))) + (uw x14))))))) zbv zbg rfl rfl ?_)
     obtain ⟨x15, n13, q30, q31, q32, h⟩ := zix h
     refine zag (zdv (r := (rInt .u32)) (b := b8) (o := 0) (n := n13) (m := x2.length) (xs := out13) (q := (0 + n13 * (rInt .u32).sz)) zas ti177 rfl hl13 rfl q30 q32 rfl ?_)
     obtain ⟨x16, n14, q34, q35, q36, h⟩ := zux h
     obtain rfl := zin q30 q34
     refine zcf (OpY.stRowX (pre := []) (r := (rInt .u32)) (vs := [(zaa .u32 (uw32 (uw (carry11 + (uw ((uw ((uw x11) * (uw x13))) + (uw x14)))))))]) (a := (uw32 (uw (carry11 + (uw ((uw ((uw x11) * (uw x13))) + (uw x14))))))) ti177 rfl rfl rfl rfl hL12 0 rfl rfl hE12 q32 rfl q36 ?_)
     have hl14 : x2.length = List.length x16 := by rw [q36, List.length_set]; exact hl13
     intro w13 cs14 (hL13 : vL w w13 [some b8] [zac ([] ++ (cs14 ++ []))]) hS11 hE13 q37
     have hc15 : (cs14 ++ []).length = m1 * (rInt .u32).sz := zhc hc13 q37
     have K13 := ks w hS11
     refine zan (zaf rfl (zag (zai (v := (zaa .u64 (uw (carry11 + (uw ((uw ((uw x11) * (uw x13))) + (uw x14))))))) rfl ?_)))
     refine zag (OpY.ishr (x := (uw (carry11 + (uw ((uw ((uw x11) * (uw x13))) + (uw x14)))))) (y := 32) rfl rfl (by decide) ?_)
     refine zag (zak (v := (zaa .u64 (bshr .u64 (uw (carry11 + (uw ((uw ((uw x11) * (uw x13))) + (uw x14))))) 32))) rfl ?_)
     refine zan (zbn (zaf rfl (zag (zbz (x := x12) (y := 1) (z := (iw (x12 + 1))) rfl rfl rfl ?_))))
     refine zag (zai (v := (zI (iw (x12 + 1)))) rfl (zan ?_))
     have f17 := (hE13.mono (K13 None))
     obtain rfl := zah h
     refine zaq ⟨(x16, (bshr .u64 (uw (carry11 + (uw ((uw ((uw x11) * (uw x13))) + (uw x14))))) 32), (iw (x12 + 1))), rfl, ?_⟩
     exact ⟨cs14, _, (zeg ⟨rfl, rfl, rfl, rfl, rfl, rfl, rfl, rfl, rfl, rfl, rfl, trivial⟩), hL13, (zao K12 K13), f17, hl14, hc15, trivial⟩
    replace h := ite_f hc14 h
    refine zck rfl ?_
    obtain rfl := zah h
    obtain rfl := hd11 _ rfl
    replace h := g11
    try dsimp only at h
    refine zaq ?_
    exact ⟨out13, carry11, cs13, _, rfl, (zeg ⟨rfl, rfl, rfl, rfl, rfl, rfl, rfl, trivial⟩), hL12, K12, hE12, hl13, hc13, trivial⟩
   rintro _ w14 ⟨out12, carry10, cs12, u, rfl, rfl, hL14, K14, hE14, hl15, hc16, -⟩
   replace h := g11
   try dsimp only at h
   refine zaf rfl (zag (zai (v := (osv (some b8) 0 x2.length m1)) rfl ?_))
   refine zag (zai (v := (zI x10)) rfl ?_)
   refine zag (zai (v := b_v) rfl ?_)
   have f18 := (f14.mono (K14 S))
   refine zag (zbc (v := b_v) zas rfl f18 ?_)
   refine zag (zbz (x := x10) (y := (b.length : Int)) (z := (iw (x10 + (b.length : Int)))) rfl rfl rfl ?_)
   refine zag (zai (v := (zaa .u64 carry10)) rfl ?_)
   refine zag (zcr (x := carry10) (z := (uw32 carry10)) zbv zbg rfl rfl ?_)
   obtain ⟨x17, n15, q39, q40, q41, h⟩ := zix h
   refine zag (zdv (r := (rInt .u32)) (b := b8) (o := 0) (n := n15) (m := x2.length) (xs := out12) (q := (0 + n15 * (rInt .u32).sz)) zas ti177 rfl hl15 rfl q39 q41 rfl ?_)
   obtain ⟨x18, n16, q43, q44, q45, h⟩ := zux h
   obtain rfl := zin q39 q43
   refine zcf (OpY.stRowX (pre := []) (r := (rInt .u32)) (vs := [(zaa .u32 (uw32 carry10))]) (a := (uw32 carry10)) ti177 rfl rfl rfl rfl hL14 0 rfl rfl hE14 q41 rfl q45 ?_)
   have hl16 : x2.length = List.length x18 := by rw [q45, List.length_set]; exact hl15
   intro w15 cs15 (hL15 : vL w w15 [some b8] [zac ([] ++ (cs15 ++ []))]) hS12 hE15 q46
   have hc17 : (cs15 ++ []).length = m1 * (rInt .u32).sz := zhc hc16 q46
   have K15 := ks w hS12
   refine zan (zbn (zaf rfl (zag (zbz (x := x10) (y := 1) (z := (iw (x10 + 1))) rfl rfl rfl ?_))))
   refine zag (zai (v := (zI (iw (x10 + 1)))) rfl (zan ?_))
   have f19 := (hE15.mono (K15 None))
   obtain rfl := zah h
   refine zaq ⟨(x18, (iw (x10 + 1))), rfl, ?_⟩
   exact ⟨cs15, _, (zeg ⟨rfl, rfl, rfl, rfl, rfl, trivial⟩), hL15, (zao (zao K11 K14) K15), f19, hl16, hc17, trivial⟩
  replace h := ite_f hc12 h
  refine zck rfl ?_
  obtain rfl := zah h
  obtain rfl := hd10 _ rfl
  replace h := g10
  try dsimp only at h
  refine zaq ?_
  exact ⟨out11, cs11, _, rfl, (zeg zrt), hL11, K11, hE11, hl11, hc11, trivial⟩
 rintro _ w16 ⟨out10, cs10, u, rfl, rfl, hL16, K16, hE16, hl17, hc18, -⟩
 replace h := g10
 try dsimp only at h
 refine zaj (zaf rfl (zag (zai (v := (osv (some b8) 0 x2.length m1)) rfl ?_)))
 refine zag (zak (v := (osv (some b8) 0 x2.length m1)) rfl ?_)
 refine zan (zbi ?_)
 obtain rfl := zah h
 refine ⟨[(osv (some b8) 0 x2.length m1)], zrt, ⟨_, rfl, hL16.done, ?_⟩⟩
 exact ⟨some b8, m1, cs10, [], (by rw [← hl17]; rfl), (hL16.newOwn [0] rfl rfl rfl), (hE16.mono (zdx [0] rfl)), hc18, trivial⟩
theorem bshort_w (N : Nat) (a : (List Int)) (pb : Int) (a_v : Value) (w : World) (S : Nat → Prop) (a_h : Rs (rInt .u32) (vH w S [] w) a_v a) (r : ((List Int) × Int)) (h : bshort N a pb = some r) :
  Calls Tryz.prog 188 #[a_v, (zaa .u32 pb)] w (Ret w (fun v w' => ∃ (ob0 : Option Nat) (cap0 : Nat) (cs0 : List Value) (sp0 : List Value), .tuple #[(osv ob0 0 r.1.length cap0), (zaa .u32 r.2)] = v ∧ NewOwn w w' [ob0] [zac ([] ++ (cs0 ++ sp0))] ∧ Els (rInt .u32) (vH w None [ob0] w') cs0 r.1 ∧ (cs0 ++ sp0).length = cap0 * (rInt .u32).sz ∧ True)) := by
 unfold bshort at h
 have hL : vL w w [] [] := Go.X.Loc.begin0 w
 refine calls_of (l := [a_v, (zaa .u32 pb)]) (rl := [.tmp 4, .tmp 5]) (n := 43) Tryz.func188 rfl rfl rfl (zae rfl) ?_
 refine zaj (zaf rfl (zag (zak (v := zN) rfl ?_)))
 refine zag (zak (v := (zaa .u32 0)) rfl ?_)
 refine zan (zaj (zaf rfl (zag (zai (v := a_v) rfl ?_))))
 refine zag (zbc (v := a_v) zas rfl a_h ?_)
 obtain ⟨x2, q3, h⟩ := zec h
 obtain ⟨m1, q4, q5, q6, q7⟩ := mk1_some q3
 refine zag (OpY.mkRowX (r := (rInt .u32)) (H := (vH w None [] w)) (zc := [(zaa .u32 0)]) (x := 0) zas ti177 rfl rfl rfl rfl q4 q5 q6 q7 hL ?_)
 intro b8 w10 cs9 hE10 hc10 hL10 hS10
 have K10 := ks w hS10
 refine zag (zak (v := (osv (some b8) 0 x2.length m1)) rfl ?_)
 refine zan (zaj (zaf rfl (zag (zak (v := (zaa .u64 0)) rfl ?_))))
 refine zan (zaj (zaj (zaf rfl (zag (zai (v := a_v) rfl ?_)))))
 have f10 := (a_h.mono (K10 S))
 refine zag (zbc (v := a_v) zas rfl f10 ?_)
 refine zag (zdz (x := (a.length : Int)) (y := 1) (z := (iw ((a.length : Int) - 1))) rfl rfl rfl ?_)
 refine zag (zak (v := (zI (iw ((a.length : Int) - 1)))) rfl (zan ?_))
 obtain ⟨s10, hl10, g10⟩ := zec h
 refine zbs (fun e w' => ∃ (out10 : (List Int)) (rest10 : Int) (cs10 : List Value) (u : Env), (out10, rest10) = s10 ∧ e = upds [(6, (osv (some b8) 0 x2.length m1)), (7, (zaa .u64 rest10))] u ∧ vL w w' [some b8] [zac ([] ++ (cs10 ++ []))] ∧ Keep w.heap.size [some b8] w10 [some b8] w' ∧ Els (rInt .u32) (vH w None [some b8] w') cs10 out10 ∧ x2.length = List.length out10 ∧ (cs10 ++ []).length = m1 * (rInt .u32).sz ∧ True) ?_ ?_
 ·
  refine zbb ?_
  have f11 := (hE10.mono (K10 None))
  refine zcb hl10 (fun (ss : ((List Int) × Int × Int)) (e : Env) (w' : World) => match ss with | (out11, rest11, i10) => ∃ (cs11 : List Value) (u : Env), e = upds [(0, a_v), (1, (zaa .u32 pb)), (6, (osv (some b8) 0 x2.length m1)), (7, (zaa .u64 rest11)), (8, (zI i10))] u ∧ vL w w' [some b8] [zac ([] ++ (cs11 ++ []))] ∧ Keep w.heap.size [some b8] w10 [some b8] w' ∧ Els (rInt .u32) (vH w None [some b8] w') cs11 out11 ∧ x2.length = List.length out11 ∧ (cs11 ++ []).length = m1 * (rInt .u32).sz ∧ True) ⟨cs9, _, (zeg ⟨rfl, rfl, rfl, rfl, rfl, trivial⟩), hL10, zbq, f11, rfl, hc10, trivial⟩ ?_
  rintro ⟨out11, rest11, i10⟩ oo _ w11 ⟨cs11, u, rfl, hL11, K11, hE11, hl11, hc11, -⟩ h hd10
  rw [bshort_b1] at h
  refine zaj (zaj (zaf rfl (zag (zai (v := (zI i10)) rfl ?_))))
  refine zag (OpY.geq (x := i10) (y := 0) ((i10 : Int) ≥ 0) rfl rfl zbd (zan ?_))
  refine zba ((i10 : Int) ≥ 0) rfl (fun hc12 => ?_) (fun hc12 => ?_)
  ·
   replace h := ite_t hc12 h
   refine zbf (zaj (zbb (zaj (zaf rfl (zag (zai (v := (zaa .u64 rest11)) rfl ?_))))))
   refine zag (OpY.ishl (x := rest11) (y := 32) rfl rfl (by decide) ?_)
   refine zag (zai (v := a_v) rfl ?_)
   refine zag (zai (v := (zI i10)) rfl ?_)
   obtain ⟨x10, n10, q11, q12, -, h⟩ := zix h
   have f12 := (f10.mono (K11 S))
   obtain ⟨b10, o10, c10, vs10, q13, q14, f13, q15⟩ := zcw f12 q12
   obtain rfl := q15
   refine zag (zbp (r := (rInt .u32)) (v := a_v) (n := n10) (m := (o10 + n10 * (rInt .u32).sz)) zas ti177 rfl q13 rfl q11 q12 rfl ?_)
   refine zag (zca (v := (zaa .u32 x10)) zbg rfl rfl zek f13 ?_)
   refine zag (zcr (x := x10) (z := (uw x10)) zbg zbv rfl rfl ?_)
   refine zag (OpY.ior (x := (bshl .u64 rest11 32)) (y := (uw x10)) rfl rfl ?_)
   refine zag (zak (v := (zaa .u64 (bor .u64 (bshl .u64 rest11 32) (uw x10)))) rfl ?_)
   refine zan (zaj (zaf rfl (zag (zai (v := (osv (some b8) 0 x2.length m1)) rfl ?_))))
   refine zag (zai (v := (zI i10)) rfl ?_)
   refine zag (zai (v := (zaa .u64 (bor .u64 (bshl .u64 rest11 32) (uw x10)))) rfl ?_)
   refine zag (zai (v := (zaa .u32 pb)) rfl ?_)
   refine zag (zcr (x := pb) (z := (uw pb)) zbg zbv rfl rfl ?_)
   obtain ⟨x11, q16, h⟩ := zec h
   obtain ⟨q17, q18⟩ := sdiv_some q16
   refine zag (OpY.quoI (x := (bor .u64 (bshl .u64 rest11 32) (uw x10))) (y := (uw pb)) (z := x11) rfl rfl q17 q18 ?_)
   refine zag (zcr (x := x11) (z := (uw32 x11)) zbv zbg rfl rfl ?_)
   obtain ⟨x12, n11, q20, q21, q22, h⟩ := zix h
   refine zag (zdv (r := (rInt .u32)) (b := b8) (o := 0) (n := n11) (m := x2.length) (xs := out11) (q := (0 + n11 * (rInt .u32).sz)) zas ti177 rfl hl11 rfl q20 q22 rfl ?_)
   obtain ⟨x13, n12, q24, q25, q26, h⟩ := zux h
   obtain rfl := zin q20 q24
   refine zcf (OpY.stRowX (pre := []) (r := (rInt .u32)) (vs := [(zaa .u32 (uw32 x11))]) (a := (uw32 x11)) ti177 rfl rfl rfl rfl hL11 0 rfl rfl hE11 q22 rfl q26 ?_)
   have hl12 : x2.length = List.length x13 := by rw [q26, List.length_set]; exact hl11
   intro w12 cs12 (hL12 : vL w w12 [some b8] [zac ([] ++ (cs12 ++ []))]) hS11 hE12 q27
   have hc13 : (cs12 ++ []).length = m1 * (rInt .u32).sz := zhc hc11 q27
   have K12 := ks w hS11
   refine zan (zaf rfl (zag (zai (v := (zaa .u64 (bor .u64 (bshl .u64 rest11 32) (uw x10)))) rfl ?_)))
   refine zag (zai (v := (zaa .u32 pb)) rfl ?_)
   refine zag (zcr (x := pb) (z := (uw pb)) zbg zbv rfl rfl ?_)
   obtain ⟨x14, q28, h⟩ := zec h
   obtain ⟨q29, q30⟩ := srem_some q28
   subst q30
   refine zag (OpY.remI (x := (bor .u64 (bshl .u64 rest11 32) (uw x10))) (y := (uw pb)) rfl rfl q29 ?_)
   refine zag (zak (v := (zaa .u64 (Int.tmod (bor .u64 (bshl .u64 rest11 32) (uw x10)) (uw pb)))) rfl ?_)
   refine zan (zbn (zaf rfl (zag (zai (v := (zI i10)) rfl ?_))))
   refine zag (zdz (x := i10) (y := 1) (z := (iw (i10 - 1))) rfl rfl rfl ?_)
   refine zag (zak (v := (zI (iw (i10 - 1)))) rfl (zan ?_))
   have f14 := (hE12.mono (K12 None))
   obtain rfl := zah h
   refine zaq ⟨(x13, (Int.tmod (bor .u64 (bshl .u64 rest11 32) (uw x10)) (uw pb)), (iw (i10 - 1))), rfl, ?_⟩
   exact ⟨cs12, _, (zeg ⟨rfl, rfl, rfl, rfl, rfl, trivial⟩), hL12, (zao K11 K12), f14, hl12, hc13, trivial⟩
  replace h := ite_f hc12 h
  refine zck rfl ?_
  obtain rfl := zah h
  obtain rfl := hd10 _ rfl
  replace h := g10
  try dsimp only at h
  refine zaq ?_
  exact ⟨out11, rest11, cs11, _, rfl, (zeg ⟨rfl, rfl, trivial⟩), hL11, K11, hE11, hl11, hc11, trivial⟩
 rintro _ w13 ⟨out10, rest10, cs10, u, rfl, rfl, hL13, K13, hE13, hl13, hc14, -⟩
 replace h := g10
 try dsimp only at h
 refine zaj (zaf rfl (zag (zai (v := (osv (some b8) 0 x2.length m1)) rfl ?_)))
 refine zag (zai (v := (zaa .u64 rest10)) rfl ?_)
 refine zag (zcr (x := rest10) (z := (uw32 rest10)) zbv zbg rfl rfl ?_)
 refine zag (zak (v := (osv (some b8) 0 x2.length m1)) rfl ?_)
 refine zag (zak (v := (zaa .u32 (uw32 rest10))) rfl ?_)
 refine zan (zbi ?_)
 obtain rfl := zah h
 refine ⟨[(osv (some b8) 0 x2.length m1), (zaa .u32 (uw32 rest10))], ⟨rfl, rfl, trivial⟩, ⟨_, rfl, hL13.done, ?_⟩⟩
 exact ⟨some b8, m1, cs10, [], (by rw [← hl13]; rfl), (hL13.newOwn [0] rfl rfl rfl), (hE13.mono (zdx [0] rfl)), hc14, trivial⟩
end Go.Proofs.YtcakdidcpoolcaaGreatDoor.WA

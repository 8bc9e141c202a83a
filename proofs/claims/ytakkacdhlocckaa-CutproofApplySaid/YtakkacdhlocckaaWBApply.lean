/- Walks, written by a program of mine (wip/tool); the kernel checks them. -/
import Derived.Test.YtakkacdhlocckaaProg
import Derived.Test.YtakkacdhlocckaaSqApply
import Derived.Test.YtakkacdhlocckaaPB
import Derived.Test.YtakkacdhlocckaaWAApply
import Derived.Test.YtakkacdhlocckaaWRApply
set_option maxRecDepth 100000
set_option maxHeartbeats 4000000
set_option linter.unusedVariables false
namespace Go.Proofs.Ytakkacdhlocckaa.WB
open Go Go.RowKit Go.X Go.D Go.Proofs.Ytakkacdhlocckaa.WA Go.Proofs.Ytakkacdhlocckaa.WR
theorem en91 : Enters Try.prog 91 := ⟨Try.f91, Try.func91, by kernel_rfl, by kernel_rfl⟩
theorem en75 : Enters Try.prog 75 := ⟨Try.f75, Try.func75, by kernel_rfl, by kernel_rfl⟩
theorem en86 : Enters Try.prog 86 := ⟨Try.f86, Try.func86, by kernel_rfl, by kernel_rfl⟩
theorem en87 : Enters Try.prog 87 := ⟨Try.f87, Try.func87, by kernel_rfl, by kernel_rfl⟩
theorem en88 : Enters Try.prog 88 := ⟨Try.f88, Try.func88, by kernel_rfl, by kernel_rfl⟩
theorem en89 : Enters Try.prog 89 := ⟨Try.f89, Try.func89, by kernel_rfl, by kernel_rfl⟩
theorem en73 : Enters Try.prog 73 := ⟨Try.f73, Try.func73, by kernel_rfl, by kernel_rfl⟩
theorem en63 : Enters Try.prog 63 := ⟨Try.f63, Try.func63, by kernel_rfl, by kernel_rfl⟩
theorem en74 : Enters Try.prog 74 := ⟨Try.f74, Try.func74, by kernel_rfl, by kernel_rfl⟩
theorem en76 : Enters Try.prog 76 := ⟨Try.f76, Try.func76, by kernel_rfl, by kernel_rfl⟩
theorem en57 : Enters Try.prog 57 := ⟨Try.f57, Try.func57, by kernel_rfl, by kernel_rfl⟩
theorem en46 : Enters Try.prog 46 := ⟨Try.f46, Try.func46, by kernel_rfl, by kernel_rfl⟩
theorem en77 : Enters Try.prog 77 := ⟨Try.f77, Try.func77, by kernel_rfl, by kernel_rfl⟩
theorem en78 : Enters Try.prog 78 := ⟨Try.f78, Try.func78, by kernel_rfl, by kernel_rfl⟩
theorem len32_w (N : Nat) (x : Int)  (w : World) (S : Nat → Prop)  (r : Int) (h : len32 N x = some r) :
  Calls Try.prog 91 #[(zac .u32 x)] w (Ret w (fun v w' => (zac .i64 r) = v ∧ True)) := by
 unfold len32 at h
 have hL : vL w w [] [] := Go.X.Loc.begin0 w
 refine calls_of (l := [(zac .u32 x)]) (rl := [.tmp 2]) (n := 19) Try.func91 rfl rfl rfl (zae rfl) ?_
 refine zaj (zah rfl (zaf (zak (v := (zac .i64 0)) rfl ?_)))
 refine zap (zaj (zaj (zah rfl (zaf (zai (v := (zac .u32 x)) rfl ?_)))))
 refine zaf (OpY.geq (x := x) (y := 65536) ((x : Int) ≥ 65536) rfl rfl zbk ?_)
 refine zap ?_
 obtain ⟨s4, h, g5⟩ := bind_some h
 refine zbr (fun e w' => ∃ (x2 : Int) (n3 : Int) (u : Env), (x2, n3) = s4 ∧ e = upds [(0, (zac .u32 x2)), (2, (zac .i64 n3))] u ∧ vL w w' [] [] ∧ Keep w.heap.size [] w [] w' ∧ True) ?_ ?_
 ·
  refine zbe ((x : Int) ≥ 65536) rfl (fun hc6 => ?_) (fun hc6 => ?_)
  ·
   replace h := ite_t hc6 h
   refine zaj (zah rfl (zaf (zai (v := (zac .u32 x)) rfl ?_)))
   refine zaf (OpY.ishr (x := x) (y := 16) rfl rfl (by decide) ?_)
   refine zaf (zak (v := (zac .u32 (bshr .u32 x 16))) rfl ?_)
   refine zap (zah rfl (zaf (zak (v := (zac .i64 16)) rfl ?_)))
   refine zap ?_
   obtain rfl := zag h
   refine zas ?_
   exact ⟨(bshr .u32 x 16), 16, _, rfl, (upds_sym ⟨rfl, rfl, trivial⟩), hL, zbo, trivial⟩
  ·
   replace h := ite_f hc6 h
   refine zbg ?_
   obtain rfl := zag h
   refine zas ?_
   exact ⟨x, 0, _, rfl, (upds_sym ⟨rfl, rfl, trivial⟩), hL, zbo, trivial⟩
 ·
  rintro _ w7 ⟨x2, n3, u, rfl, rfl, hL8, K9, -⟩
  replace h := g5
  try dsimp only at h
  refine zaj (zaj (zah rfl (zaf (zai (v := (zac .u32 x2)) rfl ?_))))
  refine zaf (OpY.geq (x := x2) (y := 256) ((x2 : Int) ≥ 256) rfl rfl zbk ?_)
  refine zap ?_
  obtain ⟨s13, h, g14⟩ := bind_some h
  refine zbr (fun e w' => ∃ (x11 : Int) (n12 : Int) (u : Env), (x11, n12) = s13 ∧ e = upds [(0, (zac .u32 x11)), (2, (zac .i64 n12))] u ∧ vL w w' [] [] ∧ Keep w.heap.size [] w7 [] w' ∧ True) ?_ ?_
  ·
   refine zbe ((x2 : Int) ≥ 256) rfl (fun hc15 => ?_) (fun hc15 => ?_)
   ·
    replace h := ite_t hc15 h
    refine zaj (zah rfl (zaf (zai (v := (zac .u32 x2)) rfl ?_)))
    refine zaf (OpY.ishr (x := x2) (y := 8) rfl rfl (by decide) ?_)
    refine zaf (zak (v := (zac .u32 (bshr .u32 x2 8))) rfl ?_)
    refine zap (zah rfl (zaf (zai (v := (zac .i64 n3)) rfl ?_)))
    refine zaf (zcd (x := n3) (y := 8) (z := (iw (n3 + 8))) rfl rfl rfl ?_)
    refine zaf (zak (v := (zac .i64 (iw (n3 + 8)))) rfl ?_)
    refine zap ?_
    obtain rfl := zag h
    refine zas ?_
    exact ⟨(bshr .u32 x2 8), (iw (n3 + 8)), _, rfl, (upds_sym ⟨rfl, rfl, trivial⟩), hL8, zbo, trivial⟩
   ·
    replace h := ite_f hc15 h
    refine zbg ?_
    obtain rfl := zag h
    refine zas ?_
    exact ⟨x2, n3, _, rfl, (upds_sym ⟨rfl, rfl, trivial⟩), hL8, zbo, trivial⟩
  ·
   rintro _ w16 ⟨x11, n12, u, rfl, rfl, hL17, K18, -⟩
   replace h := g14
   try dsimp only at h
   refine zaj (zah rfl (zaf (zai (v := (zac .i64 n12)) rfl ?_)))
   refine zaf (zai (v := (zac .u32 x11)) rfl ?_)
   refine zaf (zbp (x := x11) (z := (uw8 x11)) zav Try.underlying5 rfl rfl ?_)
   obtain ⟨x19, q20, h⟩ := bind_some h
   obtain ⟨n21, q22, q23⟩ := idx_some q20
   refine zaf (OpY.sIndex (xs := len32_lit256) (i := (uw8 x11)) (n := n21) (a := x19) Try.underlying9 rfl rfl q22 q23 ?_)
   refine zaf (zbp (x := (UInt8.toNat x19 : Int)) (z := (iw (UInt8.toNat x19 : Int))) Try.underlying5 zbq rfl rfl ?_)
   refine zaf (zcd (x := n12) (y := (iw (UInt8.toNat x19 : Int))) (z := (iw (n12 + (iw (UInt8.toNat x19 : Int))))) rfl rfl rfl ?_)
   refine zaf (zak (v := (zac .i64 (iw (n12 + (iw (UInt8.toNat x19 : Int)))))) rfl ?_)
   refine zap (zbl ?_)
   obtain rfl := zag h
   refine ⟨[(zac .i64 (iw (n12 + (iw (UInt8.toNat x19 : Int)))))], ⟨rfl, trivial⟩, ⟨_, rfl, hL17.done, ?_⟩⟩
   exact ⟨rfl, trivial⟩
theorem lz32_w (N : Nat) (x : Int)  (w : World) (S : Nat → Prop)  (r : Int) (h : lz32 N x = some r) :
  Calls Try.prog 87 #[(zac .u32 x)] w (Ret w (fun v w' => (zac .i64 r) = v ∧ True)) := by
 unfold lz32 at h
 have hL : vL w w [] [] := Go.X.Loc.begin0 w
 refine calls_of (l := [(zac .u32 x)]) (rl := [.tmp 2]) (n := 6) Try.func87 rfl rfl rfl (zae rfl) ?_
 refine zaj (zah rfl (zaf (zak (v := (zac .i64 0)) rfl ?_)))
 refine zap (zaj (zah rfl (zaf (zai (v := (zac .u32 x)) rfl ?_))))
 obtain ⟨r1, q2, h⟩ := bind_some h
 refine zaf (zaw en91 rfl rfl (len32_w N x _ Any r1 q2) ?_)
 rintro _ w4 hE7 ⟨rfl, -⟩
 have hL5 := hL.ext hE7
 refine zaf (zdd (x := 32) (y := r1) (z := (iw (32 - r1))) rfl rfl rfl ?_)
 refine zaf (zak (v := (zac .i64 (iw (32 - r1)))) rfl ?_)
 refine zap (zbl ?_)
 obtain rfl := zag h
 refine ⟨[(zac .i64 (iw (32 - r1)))], ⟨rfl, trivial⟩, ⟨_, rfl, hL5.done, ?_⟩⟩
 exact ⟨rfl, trivial⟩
theorem bdivide_w (N : Nat) (a : (List Int)) (b : (List Int)) (a_v : Value) (b_v : Value) (w : World) (S : Nat → Prop) (a_h : Rs (rInt .u32) (vH w S [] w) a_v a) (b_h : Rs (rInt .u32) (vH w S [] w) b_v b) (r : ((List Int) × (List Int))) (h : bdivide N a b = some r) :
  Calls Try.prog 78 #[a_v, b_v] w (Ret w (fun v w' => ∃ (ob0 : Option Nat) (cap0 : Nat) (cs0 : List Value) (sp0 : List Value) (ob1 : Option Nat) (cap1 : Nat) (cs1 : List Value) (sp1 : List Value), .tuple #[(osv ob0 0 r.1.length cap0), (osv ob1 0 r.2.length cap1)] = v ∧ NewOwn w w' [ob0, ob1] [zab ([] ++ (cs0 ++ sp0)), zab ([] ++ (cs1 ++ sp1))] ∧ Els (rInt .u32) (vH w None [ob0, ob1] w') cs0 r.1 ∧ (cs0 ++ sp0).length = cap0 * (rInt .u32).sz ∧ Els (rInt .u32) (vH w None [ob0, ob1] w') cs1 r.2 ∧ (cs1 ++ sp1).length = cap1 * (rInt .u32).sz ∧ True)) := by
 unfold bdivide at h
 have hL : vL w w [] [] := Go.X.Loc.begin0 w
 refine calls_of (l := [a_v, b_v]) (rl := [.tmp 4, .tmp 5]) (n := 231) Try.func78 rfl rfl rfl (zae rfl) ?_
 refine zaj (zah rfl (zaf (zak (v := (zad none 0 0)) rfl ?_)))
 refine zaf (zak (v := (zad none 0 0)) rfl ?_)
 refine zap (zaj (zaj (zah rfl (zaf (zai (v := a_v) rfl ?_)))))
 refine zaf (zai (v := b_v) rfl ?_)
 obtain ⟨r1, q2, h⟩ := bind_some h
 refine zaf (zaw en75 rfl rfl (bcompare_w N a b a_v b_v _ Any (a_h.mono vw_any) (b_h.mono vw_any) r1 q2) ?_)
 rintro _ w4 hE7 ⟨rfl, -⟩
 have hL5 := hL.ext hE7
 have K6 := ke hL hE7
 refine zaf (zcr (x := r1) (y := 0) ((r1 : Int) < 0) rfl rfl zbk ?_)
 refine zap ?_
 refine zbe ((r1 : Int) < 0) rfl (fun hc8 => ?_) (fun hc8 => ?_)
 ·
  replace h := ite_t hc8 h
  refine zaj (zah rfl (zaf (zai (v := a_v) rfl ?_)))
  obtain ⟨r9, q10, h⟩ := bind_some h
  have f19 := (a_h.mono (K6 S))
  refine zaf (zaw en83 rfl rfl (btrim_w N a a_v _ Any (f19.mono vw_any) r9 q10) ?_)
  rintro _ w20 hE23 ⟨ob11, cap12, cs13, sp14, rfl, hN18, hE15, hc16, -⟩
  replace hE15 := hE15.mono (zbc (S := None) hL5 [ob11])
  have hp24 := hL5.adoptL hE23 hN18
  have hL21 := hp24.1
  refine zaf (zak (v := (zad none 0 0)) rfl ?_)
  refine zaf (zak (v := (osv ob11 0 r9.length cap12)) rfl ?_)
  refine zap ?_
  have hp25 := hL21.addNil
  have hL26 : vL w w20 [none, ob11] [zab ([] ++ ([] ++ [])), zab ([] ++ (cs13 ++ sp14))] := hp25.1
  have K27 := ks w hp25.2
  have hE29 : Els (rInt .u32) (vH w None [none, ob11] w20) [] [] := zct
  refine zbl ?_
  obtain rfl := zag h
  refine ⟨[(osv none 0 (List.length ([] : (List Int))) 0), (osv ob11 0 r9.length cap12)], ⟨rfl, rfl, trivial⟩, ⟨_, rfl, hL26.done, ?_⟩⟩
  have f30 := (hE15.mono (K27 None))
  exact ⟨none, 0, [], [], ob11, cap12, cs13, sp14, rfl, (hL26.newOwn [0, 1] rfl rfl rfl), (hE29.mono (Hv.pick [0, 1] rfl)), (show ([] ++ [] : List Value).length = 0 * (rInt .u32).sz by simp), (f30.mono (Hv.pick [0, 1] rfl)), hc16, trivial⟩
 ·
  replace h := ite_f hc8 h
  refine zbg (zaj (zaj (zah rfl (zaf (zai (v := b_v) rfl ?_)))))
  have f31 := (b_h.mono (K6 S))
  refine zaf (zbf (v := b_v) zao rfl f31 ?_)
  refine zaf (OpY.eql (x := (b.length : Int)) (y := 1) (((b.length : Int) : Int) = 1) rfl rfl zbk ?_)
  refine zap ?_
  refine zbe (((b.length : Int) : Int) = 1) rfl (fun hc32 => ?_) (fun hc32 => ?_)
  ·
   replace h := ite_t hc32 h
   refine zaj (zah rfl (zaf (zai (v := a_v) rfl ?_)))
   refine zaf (zai (v := b_v) rfl ?_)
   obtain ⟨x33, q34, h⟩ := bind_some h
   obtain ⟨n35, q36, q37⟩ := idx_some q34
   obtain ⟨b38, o39, c40, vs41, q42, q43, f44, q45⟩ := zcz f31 q37
   obtain rfl := q45
   refine zaf (zbv (r := (rInt .u32)) (v := b_v) (n := n35) (m := (o39 + n35 * (rInt .u32).sz)) zao ti89 rfl q42 rfl q36 q37 rfl ?_)
   refine zaf (zck (v := (zac .u32 x33)) zav rfl rfl vw_view f44 ?_)
   obtain ⟨r46, q47, h⟩ := bind_some h
   have f56 := (a_h.mono (K6 S))
   refine zaf (zaw en86 rfl rfl (bshort_w N a x33 a_v _ Any (f56.mono vw_any) r46 q47) ?_)
   rintro _ w57 hE60 ⟨ob48, cap49, cs50, sp51, rfl, hN55, hE52, hc53, -⟩
   replace hE52 := hE52.mono (zbc (S := None) hL5 [ob48])
   have hp61 := hL5.adoptL hE60 hN55
   have hL58 := hp61.1
   refine zaf (zai (v := (Value.tuple #[(osv ob48 0 r46.1.length cap49), (zac .u32 r46.2)])) rfl ?_)
   refine zaf (zcf (vs := [(osv ob48 0 r46.1.length cap49), (zac .u32 r46.2)]) (v := (osv ob48 0 r46.1.length cap49)) rfl rfl ?_)
   refine zaf (zcf (vs := [(osv ob48 0 r46.1.length cap49), (zac .u32 r46.2)]) (v := (zac .u32 r46.2)) rfl rfl ?_)
   refine zaf (zak (v := (osv ob48 0 r46.1.length cap49)) rfl ?_)
   refine zaf (zak (v := (zac .u32 r46.2)) rfl ?_)
   refine zap (zaj (zah rfl (zaf (zai (v := (osv ob48 0 r46.1.length cap49)) rfl ?_))))
   obtain ⟨r62, q63, h⟩ := bind_some h
   refine zaf (zaw en83 rfl rfl (btrim_w N r46.1 (osv ob48 0 r46.1.length cap49) _ Any (own_row_any (pre := []) (o := 0) (n := r46.1.length) (cap := cap49) (hL58.at 0 rfl rfl) hE52 vw_any rfl rfl rfl hc53) r62 q63) ?_)
   rintro _ w72 hE75 ⟨ob64, cap65, cs66, sp67, rfl, hN71, hE68, hc69, -⟩
   replace hE68 := hE68.mono (zbc (S := None) hL58 [ob64])
   have hp76 := hL58.adoptL hE75 hN71
   have hL73 := hp76.1
   refine zaf (zai (v := (zac .u32 r46.2)) rfl ?_)
   have hE78 : Els (rInt .u32) (vH w None [ob64, ob48] w72) [(zac .u32 r46.2)] [r46.2] := (zco (a := [(zac .u32 r46.2)]) rfl zct)
   refine zaf (zcp (r := (rInt .u32)) (vs := [(zac .u32 r46.2)]) (css := [[(zac .u32 r46.2)]]) (xs := [r46.2]) zao ti89 (zae rfl) rfl rfl ⟨rfl, rfl, trivial⟩ (zae rfl) hE78 rfl hL73 ?_)
   intro b77 w81 hc79 hL82 hS84
   have K83 := ks w hS84
   obtain ⟨r85, q86, h⟩ := bind_some h
   have f95 := (hE78.mono (K83 None))
   refine zaf (zaw en83 rfl rfl (btrim_w N [r46.2] (osv (some b77) 0 1 1) _ Any (own_row_any (pre := []) (o := 0) (n := 1) (cap := 1) (hL82.at 0 rfl rfl) f95 vw_any rfl rfl rfl hc79) r85 q86) ?_)
   rintro _ w96 hE99 ⟨ob87, cap88, cs89, sp90, rfl, hN94, hE91, hc92, -⟩
   replace hE91 := hE91.mono (zbc (S := None) hL82 [ob87])
   have hp100 := hL82.adoptL hE99 hN94
   have hL97 := hp100.1
   have K98 := ks w hp100.2
   refine zaf (zak (v := (osv ob64 0 r62.length cap65)) rfl ?_)
   refine zaf (zak (v := (osv ob87 0 r85.length cap88)) rfl ?_)
   refine zap (zbl ?_)
   obtain rfl := zag h
   refine ⟨[(osv ob64 0 r62.length cap65), (osv ob87 0 r85.length cap88)], ⟨rfl, rfl, trivial⟩, ⟨_, rfl, hL97.done, ?_⟩⟩
   have f101 := ((hE68.mono (K83 None)).mono (K98 None))
   exact ⟨ob64, cap65, cs66, sp67, ob87, cap88, cs89, sp90, rfl, (hL97.newOwn [2, 0] rfl rfl rfl), (f101.mono (Hv.pick [2, 0] rfl)), hc69, (hE91.mono (Hv.pick [2, 0] rfl)), hc92, trivial⟩
  ·
   replace h := ite_f hc32 h
   refine zbg (zaj (zah rfl (zaf (zai (v := b_v) rfl ?_))))
   refine zaf (zai (v := b_v) rfl ?_)
   refine zaf (zbf (v := b_v) zao rfl f31 ?_)
   refine zaf (zdd (x := (b.length : Int)) (y := 1) (z := (iw ((b.length : Int) - 1))) rfl rfl rfl ?_)
   obtain ⟨x102, q103, h⟩ := bind_some h
   obtain ⟨n104, q105, q106⟩ := idx_some q103
   obtain ⟨b107, o108, c109, vs110, q111, q112, f113, q114⟩ := zcz f31 q106
   obtain rfl := q114
   refine zaf (zbv (r := (rInt .u32)) (v := b_v) (n := n104) (m := (o108 + n104 * (rInt .u32).sz)) zao ti89 rfl q111 rfl q105 q106 rfl ?_)
   refine zaf (zck (v := (zac .u32 x102)) zav rfl rfl vw_view f113 ?_)
   obtain ⟨r115, q116, h⟩ := bind_some h
   refine zaf (zaw en87 rfl rfl (lz32_w N x102 _ Any r115 q116) ?_)
   rintro _ w118 hE121 ⟨rfl, -⟩
   have hL119 := hL5.ext hE121
   have K120 := ke hL5 hE121
   refine zaf (zbp (x := r115) (z := (uw r115)) zbq Try.underlying105 rfl rfl ?_)
   refine zaf (zak (v := (zac .u64 (uw r115))) rfl ?_)
   refine zap (zaj ?_)
   obtain ⟨r122, q123, h⟩ := bind_some h
   obtain ⟨r133, q134, h⟩ := bind_some h
   obtain ⟨x144, q145, h⟩ := bind_some h
   obtain ⟨m146, n147, q148, q149, q150, q151, q152⟩ := cut_some q145
   refine zcc 10 [[], [], [], [], [], [], [], [], [5], [2]] [] (fun W1 => [.det a_v, .det (zac .u64 (uw r115)), .rel (fun v Z w' => ∃ ob124 cap125 cs126 sp127, (osv ob124 0 r122.length cap125) = v ∧ OwnC w' ob124 (zab ([] ++ (cs126 ++ sp127))) ∧ Els (rInt .u32) (vZ W1 w None [] Z w') cs126 r122 ∧ (cs126 ++ sp127 : List Value).length = cap125 * (rInt .u32).sz ∧ True) footV, .det b_v, .det (zac .u64 (uw r115)), .rel (fun v Z w' => ∃ ob135 cap136 cs137 sp138, (osv ob135 0 r133.length cap136) = v ∧ OwnC w' ob135 (zab ([] ++ (cs137 ++ sp138))) ∧ Els (rInt .u32) (vZ W1 w None [] Z w') cs137 r133 ∧ (cs137 ++ sp138 : List Value).length = cap136 * (rInt .u32).sz ∧ True) footV, .det b_v, .det (zac .i64 (b.length : Int)), .rel (fun v Z w' => ∃ ob135 cap136 cs153 sp154, (osv ob135 0 x144.length cap136) = v ∧ OwnC w' ob135 (zab ([] ++ (cs153 ++ sp154))) ∧ Els (rInt .u32) (vZ W1 w None [] Z w') cs153 x144 ∧ (cs153 ++ sp154 : List Value).length = cap136 * (rInt .u32).sz ∧ True) footV, .rel (fun v Z w' => ∃ ob124 cap125 cs126 sp127, (osv ob124 0 r122.length cap125) = v ∧ OwnC w' ob124 (zab ([] ++ (cs126 ++ sp127))) ∧ Els (rInt .u32) (vZ W1 w None [] Z w') cs126 r122 ∧ (cs126 ++ sp127 : List Value).length = cap125 * (rInt .u32).sz ∧ True) footV]) mixed rfl rfl rfl (fun _ => rfl) (fun _ => rfl) ?_ ?_
   ·
    intro W1 _
    exact ⟨fun v Z Z' w w' hΦ hz _ _ hs => by obtain ⟨ob124, cap125, cs126, sp127, rfl, hO132, hE128, hc129, -⟩ := hΦ; exact ⟨ob124, cap125, cs126, sp127, rfl, (hO132.stay (fun b hb => (footV_osv (ob := ob124) (o := 0) (n := r122.length) (cap := cap125)).2 (by rw [hb]; exact zay)) hs), (hE128.mono (zcl hz hs)), hc129, trivial⟩, ⟨fun v Z Z' w w' hΦ hz _ _ hs => by obtain ⟨ob135, cap136, cs137, sp138, rfl, hO143, hE139, hc140, -⟩ := hΦ; exact ⟨ob135, cap136, cs137, sp138, rfl, (hO143.stay (fun b hb => (footV_osv (ob := ob135) (o := 0) (n := r133.length) (cap := cap136)).2 (by rw [hb]; exact zay)) hs), (hE139.mono (zcl hz hs)), hc140, trivial⟩, ⟨fun v Z Z' w w' hΦ hz _ _ hs => by obtain ⟨ob135, cap136, cs153, sp154, rfl, hO160, hE156, hc158, -⟩ := hΦ; exact ⟨ob135, cap136, cs153, sp154, rfl, (hO160.stay (fun b hb => (footV_osv (ob := ob135) (o := 0) (n := x144.length) (cap := cap136)).2 (by rw [hb]; exact zay)) hs), (hE156.mono (zcl hz hs)), hc158, trivial⟩, ⟨fun v Z Z' w w' hΦ hz _ _ hs => by obtain ⟨ob124, cap125, cs126, sp127, rfl, hO132, hE128, hc129, -⟩ := hΦ; exact ⟨ob124, cap125, cs126, sp127, rfl, (hO132.stay (fun b hb => (footV_osv (ob := ob124) (o := 0) (n := r122.length) (cap := cap125)).2 (by rw [hb]; exact zay)) hs), (hE128.mono (zcl hz hs)), hc129, trivial⟩, trivial⟩⟩⟩⟩
   ·
    intro w162 hE163
    have hL164 := hL119.ext hE163
    have K165 := ke hL119 hE163
    refine zau (fun _ _ => zat (zai rfl (er rfl))) ?_
    refine zau (fun _ _ => zat (zai rfl (er rfl))) ?_
    refine zcq ?_ ?_
    ·
     rintro w178 Z179 hE180 hZ181 ⟨-⟩
     have K183 := ke hL164 hE180
     refine zat (zaw en88 rfl rfl (bshift_w N a (uw r115) a_v _ Any (((((a_h.mono (K6 S)).mono (K120 S)).mono (K165 S)).mono (K183 S)).mono vw_any) r122 q123) ?_)
     rintro _ w184 hE185 ⟨ob124, cap125, cs126, sp127, rfl, hN131, hE128, hc129, -⟩
     exact zcj hE185 hZ181 hN131 (fun b hb => footV_osv.1 hb) ⟨ob124, cap125, cs126, sp127, rfl, hN131.2.2.1, (hE128.mono zda), hc129, trivial⟩
    intro z2
    refine zau (fun _ _ => zat (zai rfl (er rfl))) ?_
    refine zau (fun _ _ => zat (zai rfl (er rfl))) ?_
    refine zcq ?_ ?_
    ·
     rintro w198 Z199 hE200 hZ201 ⟨⟨⟨ob124, cap125, cs126, sp127, rfl, hO132, hE128, hc129, -⟩, hB2⟩, -⟩
     have K203 := ke hL164 hE200
     refine zat (zaw en88 rfl rfl (bshift_w N b (uw r115) b_v _ Any ((((f31.mono (K120 S)).mono (K165 S)).mono (K203 S)).mono vw_any) r133 q134) ?_)
     rintro _ w204 hE205 ⟨ob135, cap136, cs137, sp138, rfl, hN142, hE139, hc140, -⟩
     exact zcj hE205 hZ201 hN142 (fun b hb => footV_osv.1 hb) ⟨ob135, cap136, cs137, sp138, rfl, hN142.2.2.1, (hE139.mono zda), hc140, trivial⟩
    intro z5
    refine zau (fun _ _ => zat (zai rfl (er rfl))) ?_
    refine zau (fun _ hE214 => zat (zbf (v := b_v) zao rfl (((f31.mono (K120 S)).mono (K165 S)).mono ((ke hL164 hE214) S)) (er rfl))) ?_
    refine zcq ?_ ?_
    ·
     rintro w218 Z219 hE220 hZ221 ⟨⟨⟨ob135, cap136, cs137, sp138, rfl, hO143, hE139, hc140, -⟩, hB5⟩, -, -⟩
     refine zat (OpY.cutRowX (pre := []) (r := (rInt .u32)) (o := 0) (n := r133.length) (h' := n147) zao ti89 rfl rfl hO143 hE139 rfl hc140 (.inr ⟨_, _, rfl, by rw [← q149]; rfl⟩) q151 q148 q152 ?_)
     intro cs153 sp154 q155 hE156
     exact Made.take (fun b hb => hB5 b ((footV_osv (o := 0) (n := r133.length) (cap := cap136)).2 hb)) (fun b hb => List.mem_append_left _ ((footV_osv (o := 0) (n := r133.length) (cap := cap136)).2 (by rw [← hb]; exact zay))) (fun b hb => (footV_osv (ob := ob135) (o := 0) (n := x144.length) (cap := cap136)).1 hb) ⟨ob135, cap136, cs153, sp154, rfl, (by rw [q155]; exact hO143), hE156, (by rw [q155]; exact hc140), trivial⟩
    intro z8
    refine zcq ?_ ?_
    ·
     rintro w224 Z225 hE226 hZ227 ⟨-, -, ⟨⟨ob124, cap125, cs126, sp127, rfl, hO132, hE128, hc129, -⟩, hB2⟩, -⟩
     refine zat (zak (v := (osv ob124 0 r122.length cap125)) rfl ?_)
     exact Made.take (fun b hb => hB2 b ((footV_osv (o := 0) (n := r122.length) (cap := cap125)).2 hb)) (fun b hb => List.mem_append_left _ ((footV_osv (o := 0) (n := r122.length) (cap := cap125)).2 (by rw [← hb]; exact zay))) (fun b hb => (footV_osv (ob := ob124) (o := 0) (n := r122.length) (cap := cap125)).1 hb) ⟨ob124, cap125, cs126, sp127, rfl, hO132, hE128, hc129, trivial⟩
    intro z9
    refine zcn ?_
    rintro w230 Z231 hE232 hZ233 ⟨⟨⟨ob124, cap125, cs126, sp127, rfl, hO132, hE128, hc129, -⟩, hB9⟩, ⟨⟨ob135, cap136, cs153, sp154, rfl, hO160, hE156, hc158, -⟩, hB8⟩, -, -, -⟩ ap234
    have hB235 : ∀ b, some b ∈ ([ob124, ob135] : List (Option Nat)) → w162.heap.size ≤ b ∧ ¬ Z231 b := by
     intro b hb
     rcases List.mem_cons.1 hb with hb' | hb
     ·
      have := hB9 b ((footV_osv (ob := ob124) (o := 0) (n := r122.length) (cap := cap125)).2 (by rw [hb']; exact zay)); exact ⟨this.1, this.2.2⟩
     rcases List.mem_cons.1 hb with hb' | hb
     ·
      have := hB8 b ((footV_osv (ob := ob135) (o := 0) (n := x144.length) (cap := cap136)).2 (by rw [hb']; exact zay)); exact ⟨this.1, this.2.2⟩
     cases hb
    replace hE128 := hE128.mono (zcy hL164 hZ233 hB235)
    replace hE156 := hE156.mono (zcy hL164 hZ233 hB235)
    have hN238 : NewOwn w162 w230 [ob124, ob135] [zab ([] ++ (cs126 ++ sp127)), zab ([] ++ (cs153 ++ sp154))] := (zdb (zdb zca hO160 (fun b hb => (hB235 b (by rw [← hb]; simp)).1) (fun b _ hb => by cases hb)) hO132 (fun b hb => (hB235 b (by rw [← hb]; simp)).1) (fun b hb hm => (List.mem_cons.1 hm).elim (fun e => apE (ap234.1) rfl rfl b ((footV_osv (ob := ob124) (o := 0) (n := r122.length) (cap := cap125)).2 hb) ((footV_osv (ob := ob135) (o := 0) (n := x144.length) (cap := cap136)).2 (by rw [e]; exact zay))) (fun hm => by cases hm)))
    have hp239 := hL164.adoptL hE232 hN238
    have hL236 := hp239.1
    have K237 := ks w hp239.2
    refine zaf (zak (v := (osv ob135 0 x144.length cap136)) rfl ?_)
    refine zap (zaj (zah rfl (zaf (zai (v := b_v) rfl ?_))))
    have f240 := (((f31.mono (K120 S)).mono (K165 S)).mono (K237 S))
    refine zaf (zbf (v := b_v) zao rfl f240 ?_)
    refine zaf (zak (v := (zac .i64 (b.length : Int))) rfl ?_)
    refine zap (zaj (zah rfl (zaf (zai (v := (osv ob124 0 r122.length cap125)) rfl ?_))))
    refine zaf (OpY.lenRow (pre := []) (r := (rInt .u32)) (xs := r122) zao rfl (hL236.at 0 rfl rfl) hE128 rfl rfl ?_)
    refine zaf (zai (v := (zac .i64 (b.length : Int))) rfl ?_)
    refine zaf (zdd (x := (r122.length : Int)) (y := (b.length : Int)) (z := (iw ((r122.length : Int) - (b.length : Int)))) rfl rfl rfl ?_)
    obtain ⟨x242, q243, h⟩ := bind_some h
    obtain ⟨m241, q244, q245, q246, q247⟩ := mk1_some q243
    refine zaf (OpY.mkRowX (r := (rInt .u32)) (H := (vH w None [ob124, ob135] w230)) (zc := [(zac .u32 0)]) (x := 0) zao ti89 rfl rfl rfl rfl q244 q245 q246 q247 hL236 ?_)
    intro b248 w253 cs249 hE250 hc251 hL254 hS256
    have K255 := ks w hS256
    refine zaf (zak (v := (osv (some b248) 0 x242.length m241)) rfl ?_)
    refine zap (zaj (zaj (zah rfl (zaf (zai (v := (osv (some b248) 0 x242.length m241)) rfl ?_)))))
    have f257 := (hE250.mono (K255 None))
    refine zaf (OpY.lenRow (pre := []) (r := (rInt .u32)) (xs := x242) zao rfl (hL254.at 0 rfl rfl) f257 rfl rfl ?_)
    refine zaf (zdd (x := (x242.length : Int)) (y := 1) (z := (iw ((x242.length : Int) - 1))) rfl rfl rfl ?_)
    refine zaf (zak (v := (zac .i64 (iw ((x242.length : Int) - 1)))) rfl ?_)
    refine zap ?_
    obtain ⟨s7606, hl7608, g7607⟩ := bind_some h
    refine zbr (fun e w' => ∃ (u7596 : (List Int)) (q7602 : (List Int)) (cs7595 : List Value) (cs7601 : List Value) (u : Env), (u7596, q7602) = s7606 ∧ e = upds [(8, (zac .u64 (uw r115))), (9, (osv ob124 0 r122.length cap125)), (11, (zac .i64 (b.length : Int))), (12, (osv (some b248) 0 x242.length m241))] u ∧ vL w w' [ob124, some b248] [zab ([] ++ (cs7595 ++ sp127)), zab ([] ++ (cs7601 ++ []))] ∧ Keep w.heap.size [some b248, ob124, ob135] w253 [ob124, some b248] w' ∧ Els (rInt .u32) (vH w None [ob124, some b248] w') cs7595 u7596 ∧ r122.length = List.length u7596 ∧ (cs7595 ++ sp127).length = cap125 * (rInt .u32).sz ∧ Els (rInt .u32) (vH w None [ob124, some b248] w') cs7601 q7602 ∧ x242.length = List.length q7602 ∧ (cs7601 ++ []).length = m241 * (rInt .u32).sz ∧ True) ?_ ?_
    ·
     refine zbj ?_
     have hp7610 := hL254.pick [1, 2, 0] rfl rfl rfl
     have hL7612 : vL w w253 [ob124, ob135, some b248] [zab ([] ++ (cs126 ++ sp127)), zab ([] ++ (cs153 ++ sp154)), zab ([] ++ (cs249 ++ []))] := hp7610.1
     have K7611 := ks w hp7610.2
     have f7613 := ((hE128.mono (K255 None)).mono (K7611 None))
     have f7614 := (f257.mono (K7611 None))
     refine zcg hl7608 (fun (ss : ((List Int) × (List Int) × Int)) (e : Env) (w' : World) => match ss with | (u7582, q7589, i7593) => ∃ (cs7581 : List Value) (cs7588 : List Value) (u : Env), e = upds [(8, (zac .u64 (uw r115))), (9, (osv ob124 0 r122.length cap125)), (10, (osv ob135 0 x144.length cap136)), (11, (zac .i64 (b.length : Int))), (12, (osv (some b248) 0 x242.length m241)), (13, (zac .i64 i7593))] u ∧ vL w w' [ob124, ob135, some b248] [zab ([] ++ (cs7581 ++ sp127)), zab ([] ++ (cs153 ++ sp154)), zab ([] ++ (cs7588 ++ []))] ∧ Keep w.heap.size [some b248, ob124, ob135] w253 [ob124, ob135, some b248] w' ∧ Els (rInt .u32) (vH w None [ob124, ob135, some b248] w') cs7581 u7582 ∧ r122.length = List.length u7582 ∧ (cs7581 ++ sp127).length = cap125 * (rInt .u32).sz ∧ Els (rInt .u32) (vH w None [ob124, ob135, some b248] w') cs7588 q7589 ∧ x242.length = List.length q7589 ∧ (cs7588 ++ []).length = m241 * (rInt .u32).sz ∧ True) ⟨cs126, cs249, _, (upds_sym ⟨rfl, rfl, rfl, rfl, rfl, rfl, trivial⟩), hL7612, K7611, f7613, rfl, hc129, f7614, rfl, hc251, trivial⟩ ?_
     rintro ⟨u7582, q7589, i7593⟩ oo _ w7615 ⟨cs7581, cs7588, u, rfl, hL7616, K7617, hE7583, hl7585, hc7584, hE7590, hl7592, hc7591, -⟩ h hd7609
     rw [bdivide_b1] at h
     refine zaj (zaj (zah rfl (zaf (zai (v := (zac .i64 i7593)) rfl ?_))))
     refine zaf (OpY.geq (x := i7593) (y := 0) ((i7593 : Int) ≥ 0) rfl rfl zbk ?_)
     refine zap ?_
     refine zbe ((i7593 : Int) ≥ 0) rfl (fun hc7618 => ?_) (fun hc7618 => ?_)
     ·
      replace h := ite_t hc7618 h
      refine zbg (zaj (zbj (zaj ?_)))
      obtain ⟨x7619, q7620, h⟩ := bind_some h
      obtain ⟨n7621, q7622, q7623⟩ := idx_some q7620
      have q7624 := (List.getElem?_eq_some_iff.1 q7623).1
      obtain ⟨b7625, hb7626⟩ := hL7616.row_some 0 rfl rfl (row_pos (pre := []) hE7583 q7623 (Nat.lt_of_sub_eq_succ rfl))
      obtain ⟨vs7627, q7628, q7629, q7630⟩ := row_elem (pre := []) (sp := sp127) hE7583 q7623
      obtain rfl := q7629
      obtain ⟨x7631, q7632, h⟩ := bind_some h
      obtain ⟨n7633, q7634, q7635⟩ := idx_some q7632
      have q7636 := (List.getElem?_eq_some_iff.1 q7635).1
      obtain ⟨vs7637, q7638, q7639, q7640⟩ := row_elem (pre := []) (sp := sp127) hE7583 q7635
      obtain rfl := q7639
      refine zcc 16 [] [] (fun W1 => [.det (osv ob124 0 r122.length cap125), .det (zac .i64 i7593), .det (zac .i64 (b.length : Int)), .det (zac .i64 (iw (i7593 + (b.length : Int)))), .det (zam (some ⟨b7625, (0 + n7621 * (rInt .u32).sz), none⟩)), .det (zac .u32 x7619), .det (zac .u64 (uw x7619)), .det (zac .u64 (bshl .u64 (uw x7619) 32)), .det (osv ob124 0 r122.length cap125), .det (zac .i64 i7593), .det (zac .i64 (b.length : Int)), .det (zac .i64 (iw (i7593 + (b.length : Int)))), .det (zac .i64 (iw ((iw (i7593 + (b.length : Int))) - 1))), .det (zam (some ⟨b7625, (0 + n7633 * (rInt .u32).sz), none⟩)), .det (zac .u32 x7631), .det (zac .u64 (uw x7631))]) mixed rfl rfl rfl (fun _ => rfl) (fun _ => rfl) ?_ ?_
      ·
       intro W1 _
       exact trivial
      ·
       intro w7641 hE7642
       have hL7643 := hL7616.ext hE7642
       have K7644 := ke hL7616 hE7642
       refine zau (fun _ _ => zat (zai rfl (er rfl))) ?_
       refine zau (fun _ _ => zat (zai rfl (er rfl))) ?_
       refine zau (fun _ _ => zat (zai rfl (er rfl))) ?_
       refine zau (fun _ _ => zat (zcd rfl rfl rfl (er rfl))) ?_
       refine zau (fun _ _ => zat (zci (r := (rInt .u32)) (b := b7625) (o := 0) (n := n7621) (m := r122.length) (xs := u7582) (q := (0 + n7621 * (rInt .u32).sz)) zao ti89 (osv_some hb7626) hl7585 rfl q7622 q7624 rfl (er rfl))) ?_
       refine zau (fun _ hE7677 => zat (zde zav rfl rfl (own_some hb7626 ((hL7643.ext hE7677).at 0 rfl rfl)) q7630 (er rfl))) ?_
       refine zau (fun _ _ => zat (zbp zav zbi rfl rfl (er rfl))) ?_
       refine zau (fun _ _ => zat (OpY.ishl rfl rfl (by decide) (er rfl))) ?_
       refine zau (fun _ _ => zat (zai rfl (er rfl))) ?_
       refine zau (fun _ _ => zat (zai rfl (er rfl))) ?_
       refine zau (fun _ _ => zat (zai rfl (er rfl))) ?_
       refine zau (fun _ _ => zat (zcd rfl rfl rfl (er rfl))) ?_
       refine zau (fun _ _ => zat (zdd rfl rfl rfl (er rfl))) ?_
       refine zau (fun _ _ => zat (zci (r := (rInt .u32)) (b := b7625) (o := 0) (n := n7633) (m := r122.length) (xs := u7582) (q := (0 + n7633 * (rInt .u32).sz)) zao ti89 (osv_some hb7626) hl7585 rfl q7634 q7636 rfl (er rfl))) ?_
       refine zau (fun _ hE7731 => zat (zde zav rfl rfl (own_some hb7626 ((hL7643.ext hE7731).at 0 rfl rfl)) q7640 (er rfl))) ?_
       refine zau (fun _ _ => zat (zbp zav zbi rfl rfl (er rfl))) ?_
       refine zcn ?_
       rintro w7741 Z7742 hE7743 hZ7744 ⟨-⟩ ap7745
       have hB7746 : ∀ b, some b ∈ ([] : List (Option Nat)) → w7641.heap.size ≤ b ∧ ¬ Z7742 b := by
        intro b hb; cases hb
       have hL7747 := hL7643.ext hE7743
       have K7748 := ke hL7643 hE7743
       refine zaf (OpY.ior (x := (bshl .u64 (uw x7619) 32)) (y := (uw x7631)) rfl rfl ?_)
       refine zaf (zak (v := (zac .u64 (bor .u64 (bshl .u64 (uw x7619) 32) (uw x7631)))) rfl ?_)
       refine zap (zaj (zah rfl (zaf (zai (v := (zac .u64 (bor .u64 (bshl .u64 (uw x7619) 32) (uw x7631)))) rfl ?_))))
       refine zaf (zai (v := (osv ob135 0 x144.length cap136)) rfl ?_)
       refine zaf (zai (v := (zac .i64 (b.length : Int))) rfl ?_)
       refine zaf (zdd (x := (b.length : Int)) (y := 1) (z := (iw ((b.length : Int) - 1))) rfl rfl rfl ?_)
       obtain ⟨x7749, q7750, h⟩ := bind_some h
       obtain ⟨n7751, q7752, q7753⟩ := idx_some q7750
       have q7754 := (List.getElem?_eq_some_iff.1 q7753).1
       have f7757 := ((((hE156.mono (K255 None)).mono (K7617 None)).mono (K7644 None)).mono (K7748 None))
       obtain ⟨b7755, hb7756⟩ := hL7747.row_some 1 rfl rfl (row_pos (pre := []) f7757 q7753 (Nat.lt_of_sub_eq_succ rfl))
       refine zaf (zci (r := (rInt .u32)) (b := b7755) (o := 0) (n := n7751) (m := x144.length) (xs := x144) (q := (0 + n7751 * (rInt .u32).sz)) zao ti89 (osv_some hb7756) rfl rfl q7752 q7754 rfl ?_)
       obtain ⟨vs7758, q7759, q7760, q7761⟩ := row_elem (pre := []) (sp := sp154) f7757 q7753
       obtain rfl := q7760
       refine zaf (zde (v := (zac .u32 x7749)) zav rfl rfl (own_some hb7756 (hL7747.at 1 rfl rfl)) q7761 ?_)
       refine zaf (zbp (x := x7749) (z := (uw x7749)) zav zbi rfl rfl ?_)
       obtain ⟨x7762, q7763, h⟩ := bind_some h
       obtain ⟨q7764, q7765⟩ := sdiv_some q7763
       refine zaf (OpY.quoI (x := (bor .u64 (bshl .u64 (uw x7619) 32) (uw x7631))) (y := (uw x7749)) (z := x7762) rfl rfl q7764 q7765 ?_)
       refine zaf (zak (v := (zac .u64 x7762)) rfl ?_)
       refine zap (zaj (zah rfl (zaf (zai (v := (zac .u64 (bor .u64 (bshl .u64 (uw x7619) 32) (uw x7631)))) rfl ?_))))
       refine zaf (zai (v := (osv ob135 0 x144.length cap136)) rfl ?_)
       refine zaf (zai (v := (zac .i64 (b.length : Int))) rfl ?_)
       refine zaf (zdd (x := (b.length : Int)) (y := 1) (z := (iw ((b.length : Int) - 1))) rfl rfl rfl ?_)
       obtain ⟨x7766, q7767, h⟩ := bind_some h
       obtain ⟨n7768, q7769, q7770⟩ := idx_some q7767
       have q7771 := (List.getElem?_eq_some_iff.1 q7770).1
       refine zaf (zci (r := (rInt .u32)) (b := b7755) (o := 0) (n := n7768) (m := x144.length) (xs := x144) (q := (0 + n7768 * (rInt .u32).sz)) zao ti89 (osv_some hb7756) rfl rfl q7769 q7771 rfl ?_)
       obtain ⟨vs7772, q7773, q7774, q7775⟩ := row_elem (pre := []) (sp := sp154) f7757 q7770
       obtain rfl := q7774
       refine zaf (zde (v := (zac .u32 x7766)) zav rfl rfl (own_some hb7756 (hL7747.at 1 rfl rfl)) q7775 ?_)
       refine zaf (zbp (x := x7766) (z := (uw x7766)) zav zbi rfl rfl ?_)
       obtain ⟨x7776, q7777, h⟩ := bind_some h
       obtain ⟨q7778, q7779⟩ := srem_some q7777
       subst q7779
       refine zaf (OpY.remI (x := (bor .u64 (bshl .u64 (uw x7619) 32) (uw x7631))) (y := (uw x7766)) rfl rfl q7778 ?_)
       refine zaf (zak (v := (zac .u64 (Int.tmod (bor .u64 (bshl .u64 (uw x7619) 32) (uw x7631)) (uw x7766)))) rfl ?_)
       refine zap (zaj ?_)
       obtain ⟨s9111, hl9113, g9112⟩ := bind_some h
       refine zbr (fun e w' => ∃ (guess9110 : Int) (u : Env), guess9110 = s9111 ∧ e = upds [(8, (zac .u64 (uw r115))), (9, (osv ob124 0 r122.length cap125)), (10, (osv ob135 0 x144.length cap136)), (11, (zac .i64 (b.length : Int))), (12, (osv (some b248) 0 x242.length m241)), (13, (zac .i64 i7593)), (15, (zac .u64 guess9110))] u ∧ vL w w' [ob124, ob135, some b248] [zab ([] ++ (cs7581 ++ sp127)), zab ([] ++ (cs153 ++ sp154)), zab ([] ++ (cs7588 ++ []))] ∧ Keep w.heap.size [ob124, ob135, some b248] w7741 [ob124, ob135, some b248] w' ∧ True) ?_ ?_
       ·
        refine zbj ?_
        refine zcg hl9113 (fun (ss : (Int × Int)) (e : Env) (w' : World) => match ss with | (guess9105, rest9106) => ∃ (u : Env), e = upds [(8, (zac .u64 (uw r115))), (9, (osv ob124 0 r122.length cap125)), (10, (osv ob135 0 x144.length cap136)), (11, (zac .i64 (b.length : Int))), (12, (osv (some b248) 0 x242.length m241)), (13, (zac .i64 i7593)), (15, (zac .u64 guess9105)), (16, (zac .u64 rest9106))] u ∧ vL w w' [ob124, ob135, some b248] [zab ([] ++ (cs7581 ++ sp127)), zab ([] ++ (cs153 ++ sp154)), zab ([] ++ (cs7588 ++ []))] ∧ Keep w.heap.size [ob124, ob135, some b248] w7741 [ob124, ob135, some b248] w' ∧ True) ⟨_, (upds_sym ⟨rfl, rfl, rfl, rfl, rfl, rfl, rfl, rfl, trivial⟩), hL7747, zbo, trivial⟩ ?_
        rintro ⟨guess9105, rest9106⟩ oo _ w9115 ⟨u, rfl, hL9116, K9117, -⟩ h hd9114
        rw [bdivide_b2] at h
        refine zaj (zaj ?_)
        obtain ⟨s9437, h, g9438⟩ := bind_some h
        refine zbr (fun e w' => ∃ (x9436 : Bool) (u : Env), x9436 = s9437 ∧ e = upds [(8, (zac .u64 (uw r115))), (9, (osv ob124 0 r122.length cap125)), (10, (osv ob135 0 x144.length cap136)), (11, (zac .i64 (b.length : Int))), (12, (osv (some b248) 0 x242.length m241)), (13, (zac .i64 i7593)), (15, (zac .u64 guess9105)), (16, (zac .u64 rest9106)), (130, (zaa x9436))] u ∧ vL w w' [ob124, ob135, some b248] [zab ([] ++ (cs7581 ++ sp127)), zab ([] ++ (cs153 ++ sp154)), zab ([] ++ (cs7588 ++ []))] ∧ Keep w.heap.size [ob124, ob135, some b248] w9115 [ob124, ob135, some b248] w' ∧ True) ?_ ?_
        ·
         by_cases hc9439 : (guess9105 : Int) > 4294967295
         ·
          replace h := ite_t hc9439 h
          refine zcc 22 [] [] (fun W1 => [.det (zac .u64 guess9105), .det (zaa (decide ((guess9105 : Int) > 4294967295))), .det (zaa (decide ((guess9105 : Int) > 4294967295))), .det undef, .det undef, .det undef, .det undef, .det undef, .det undef, .det undef, .det undef, .det undef, .det undef, .det undef, .det undef, .det undef, .det undef, .det undef, .det undef, .det undef, .det undef, .det undef]) mixed rfl rfl rfl (fun _ => rfl) (fun _ => rfl) ?_ ?_
          ·
           intro W1 _
           exact trivial
          ·
           intro w9440 hE9441
           have hL9442 := hL9116.ext hE9441
           have K9443 := ke hL9116 hE9441
           refine zau (fun _ _ => zat (zai rfl (er rfl))) ?_
           refine zau (fun _ _ => zat (zdm ((guess9105 : Int) > 4294967295) rfl rfl zbk (er rfl))) ?_
           refine zau (fun _ _ => zat (zai rfl (er rfl))) ?_
           refine zau (fun _ _ => zdk rfl rfl (decide_eq_true hc9439) (er rfl)) ?_
           refine zau (fun _ _ => zdk rfl rfl (decide_eq_true hc9439) (er rfl)) ?_
           refine zau (fun _ _ => zdk rfl rfl (decide_eq_true hc9439) (er rfl)) ?_
           refine zau (fun _ _ => zdk rfl rfl (decide_eq_true hc9439) (er rfl)) ?_
           refine zau (fun _ _ => zdk rfl rfl (decide_eq_true hc9439) (er rfl)) ?_
           refine zau (fun _ _ => zdk rfl rfl (decide_eq_true hc9439) (er rfl)) ?_
           refine zau (fun _ _ => zdk rfl rfl (decide_eq_true hc9439) (er rfl)) ?_
           refine zau (fun _ _ => zdk rfl rfl (decide_eq_true hc9439) (er rfl)) ?_
           refine zau (fun _ _ => zdk rfl rfl (decide_eq_true hc9439) (er rfl)) ?_
           refine zau (fun _ _ => zdk rfl rfl (decide_eq_true hc9439) (er rfl)) ?_
           refine zau (fun _ _ => zdk rfl rfl (decide_eq_true hc9439) (er rfl)) ?_
           refine zau (fun _ _ => zdk rfl rfl (decide_eq_true hc9439) (er rfl)) ?_
           refine zau (fun _ _ => zdk rfl rfl (decide_eq_true hc9439) (er rfl)) ?_
           refine zau (fun _ _ => zdk rfl rfl (decide_eq_true hc9439) (er rfl)) ?_
           refine zau (fun _ _ => zdk rfl rfl (decide_eq_true hc9439) (er rfl)) ?_
           refine zau (fun _ _ => zdk rfl rfl (decide_eq_true hc9439) (er rfl)) ?_
           refine zau (fun _ _ => zdk rfl rfl (decide_eq_true hc9439) (er rfl)) ?_
           refine zau (fun _ _ => zdk rfl rfl (decide_eq_true hc9439) (er rfl)) ?_
           refine zau (fun _ _ => zdk rfl rfl (decide_eq_true hc9439) (er rfl)) ?_
           refine zcn ?_
           rintro w9576 Z9577 hE9578 hZ9579 ⟨-⟩ ap9580
           have hB9581 : ∀ b, some b ∈ ([] : List (Option Nat)) → w9440.heap.size ≤ b ∧ ¬ Z9577 b := by
            intro b hb; cases hb
           have hL9582 := hL9442.ext hE9578
           have K9583 := ke hL9442 hE9578
           refine zbt rfl rfl (decide_eq_true hc9439) ?_
           refine zaf (zcm (t := (decide ((guess9105 : Int) > 4294967295))) (v := (zaa true)) rfl (decide_eq_true hc9439) rfl ?_)
           refine zap ?_
           obtain rfl := zag h
           refine zas ?_
           exact ⟨true, _, rfl, (upds_sym ⟨rfl, rfl, rfl, rfl, rfl, rfl, rfl, rfl, rfl, trivial⟩), hL9582, (zaq K9443 K9583), trivial⟩
         ·
          replace h := ite_f hc9439 h
          obtain ⟨x9584, q9585, h⟩ := bind_some h
          obtain ⟨n9586, q9587, q9588⟩ := idx_some q9585
          have q9589 := (List.getElem?_eq_some_iff.1 q9588).1
          have f9592 := (f7757.mono (K9117 None))
          obtain ⟨b9590, hb9591⟩ := hL9116.row_some 1 rfl rfl (row_pos (pre := []) f9592 q9588 (Nat.lt_of_sub_eq_succ rfl))
          obtain ⟨vs9593, q9594, q9595, q9596⟩ := row_elem (pre := []) (sp := sp154) f9592 q9588
          obtain rfl := q9595
          obtain ⟨x9597, q9598, h⟩ := bind_some h
          obtain ⟨n9599, q9600, q9601⟩ := idx_some q9598
          have q9602 := (List.getElem?_eq_some_iff.1 q9601).1
          have f9605 := (((hE7583.mono (K7644 None)).mono (K7748 None)).mono (K9117 None))
          obtain ⟨b9603, hb9604⟩ := hL9116.row_some 0 rfl rfl (row_pos (pre := []) f9605 q9601 (Nat.lt_of_sub_eq_succ rfl))
          obtain ⟨vs9606, q9607, q9608, q9609⟩ := row_elem (pre := []) (sp := sp127) f9605 q9601
          obtain rfl := q9608
          refine zcc 22 [] [] (fun W1 => [.det (zac .u64 guess9105), .det (zaa (decide ((guess9105 : Int) > 4294967295))), .det (zaa (decide ((guess9105 : Int) > 4294967295))), .det (zac .u64 guess9105), .det (osv ob135 0 x144.length cap136), .det (zac .i64 (b.length : Int)), .det (zac .i64 (iw ((b.length : Int) - 2))), .det (zam (some ⟨b9590, (0 + n9586 * (rInt .u32).sz), none⟩)), .det (zac .u32 x9584), .det (zac .u64 (uw x9584)), .det (zac .u64 (uw (guess9105 * (uw x9584)))), .det (zac .u64 rest9106), .det (zac .u64 (bshl .u64 rest9106 32)), .det (osv ob124 0 r122.length cap125), .det (zac .i64 i7593), .det (zac .i64 (b.length : Int)), .det (zac .i64 (iw (i7593 + (b.length : Int)))), .det (zac .i64 (iw ((iw (i7593 + (b.length : Int))) - 2))), .det (zam (some ⟨b9603, (0 + n9599 * (rInt .u32).sz), none⟩)), .det (zac .u32 x9597), .det (zac .u64 (uw x9597)), .det (zac .u64 (bor .u64 (bshl .u64 rest9106 32) (uw x9597)))]) mixed rfl rfl rfl (fun _ => rfl) (fun _ => rfl) ?_ ?_
          ·
           intro W1 _
           exact trivial
          ·
           intro w9610 hE9611
           have hL9612 := hL9116.ext hE9611
           have K9613 := ke hL9116 hE9611
           refine zau (fun _ _ => zat (zai rfl (er rfl))) ?_
           refine zau (fun _ _ => zat (zdm ((guess9105 : Int) > 4294967295) rfl rfl zbk (er rfl))) ?_
           refine zau (fun _ _ => zat (zai rfl (er rfl))) ?_
           refine zau (fun _ _ => zdg rfl rfl (decide_eq_false hc9439) (zai rfl (er rfl))) ?_
           refine zau (fun _ _ => zdg rfl rfl (decide_eq_false hc9439) (zai rfl (er rfl))) ?_
           refine zau (fun _ _ => zdg rfl rfl (decide_eq_false hc9439) (zai rfl (er rfl))) ?_
           refine zau (fun _ _ => zdg rfl rfl (decide_eq_false hc9439) (zdd rfl rfl rfl (er rfl))) ?_
           refine zau (fun _ _ => zdg rfl rfl (decide_eq_false hc9439) (zci (r := (rInt .u32)) (b := b9590) (o := 0) (n := n9586) (m := x144.length) (xs := x144) (q := (0 + n9586 * (rInt .u32).sz)) zao ti89 (osv_some hb9591) rfl rfl q9587 q9589 rfl (er rfl))) ?_
           refine zau (fun _ hE9664 => zdg rfl rfl (decide_eq_false hc9439) (zde zav rfl rfl (own_some hb9591 ((hL9612.ext hE9664).at 1 rfl rfl)) q9596 (er rfl))) ?_
           refine zau (fun _ _ => zdg rfl rfl (decide_eq_false hc9439) (zbp zav zbi rfl rfl (er rfl))) ?_
           refine zau (fun _ _ => zdg rfl rfl (decide_eq_false hc9439) (OpY.mul rfl rfl rfl (er rfl))) ?_
           refine zau (fun _ _ => zdg rfl rfl (decide_eq_false hc9439) (zai rfl (er rfl))) ?_
           refine zau (fun _ _ => zdg rfl rfl (decide_eq_false hc9439) (OpY.ishl rfl rfl (by decide) (er rfl))) ?_
           refine zau (fun _ _ => zdg rfl rfl (decide_eq_false hc9439) (zai rfl (er rfl))) ?_
           refine zau (fun _ _ => zdg rfl rfl (decide_eq_false hc9439) (zai rfl (er rfl))) ?_
           refine zau (fun _ _ => zdg rfl rfl (decide_eq_false hc9439) (zai rfl (er rfl))) ?_
           refine zau (fun _ _ => zdg rfl rfl (decide_eq_false hc9439) (zcd rfl rfl rfl (er rfl))) ?_
           refine zau (fun _ _ => zdg rfl rfl (decide_eq_false hc9439) (zdd rfl rfl rfl (er rfl))) ?_
           refine zau (fun _ _ => zdg rfl rfl (decide_eq_false hc9439) (zci (r := (rInt .u32)) (b := b9603) (o := 0) (n := n9599) (m := r122.length) (xs := u7582) (q := (0 + n9599 * (rInt .u32).sz)) zao ti89 (osv_some hb9604) hl7585 rfl q9600 q9602 rfl (er rfl))) ?_
           refine zau (fun _ hE9730 => zdg rfl rfl (decide_eq_false hc9439) (zde zav rfl rfl (own_some hb9604 ((hL9612.ext hE9730).at 0 rfl rfl)) q9609 (er rfl))) ?_
           refine zau (fun _ _ => zdg rfl rfl (decide_eq_false hc9439) (zbp zav zbi rfl rfl (er rfl))) ?_
           refine zau (fun _ _ => zdg rfl rfl (decide_eq_false hc9439) (OpY.ior rfl rfl (er rfl))) ?_
           refine zcn ?_
           rintro w9746 Z9747 hE9748 hZ9749 ⟨-⟩ ap9750
           have hB9751 : ∀ b, some b ∈ ([] : List (Option Nat)) → w9610.heap.size ≤ b ∧ ¬ Z9747 b := by
            intro b hb; cases hb
           have hL9752 := hL9612.ext hE9748
           have K9753 := ke hL9612 hE9748
           refine zbu rfl rfl (decide_eq_false hc9439) (zdm (x := (uw (guess9105 * (uw x9584)))) (y := (bor .u64 (bshl .u64 rest9106 32) (uw x9597))) (((uw (guess9105 * (uw x9584))) : Int) > (bor .u64 (bshl .u64 rest9106 32) (uw x9597))) rfl rfl zbk ?_)
           refine zaf (zbz (t := (decide ((guess9105 : Int) > 4294967295))) (v := (zaa (decide (((uw (guess9105 * (uw x9584))) : Int) > (bor .u64 (bshl .u64 rest9106 32) (uw x9597)))))) rfl (decide_eq_false hc9439) rfl ?_)
           refine zap ?_
           obtain rfl := zag h
           refine zas ?_
           exact ⟨(decide (((uw (guess9105 * (uw x9584))) : Int) > (bor .u64 (bshl .u64 rest9106 32) (uw x9597)))), _, rfl, (upds_sym ⟨rfl, rfl, rfl, rfl, rfl, rfl, rfl, rfl, rfl, trivial⟩), hL9752, (zaq K9613 K9753), trivial⟩
        ·
         rintro _ w9754 ⟨x9436, u, rfl, rfl, hL9755, K9756, -⟩
         replace h := g9438
         try dsimp only at h
         refine zcu x9436 rfl (fun hc9757 => ?_) (fun hc9757 => ?_)
         ·
          replace h := ite_t hc9757 h
          refine zbg (zbj (zaj (zah rfl (zaf (zai (v := (zac .u64 guess9105)) rfl ?_)))))
          refine zaf (zdd (x := guess9105) (y := 1) (z := (uw (guess9105 - 1))) rfl rfl rfl ?_)
          refine zaf (zak (v := (zac .u64 (uw (guess9105 - 1)))) rfl ?_)
          refine zap (zaj (zah rfl (zaf (zai (v := (zac .u64 rest9106)) rfl ?_))))
          refine zaf (zai (v := (osv ob135 0 x144.length cap136)) rfl ?_)
          refine zaf (zai (v := (zac .i64 (b.length : Int))) rfl ?_)
          refine zaf (zdd (x := (b.length : Int)) (y := 1) (z := (iw ((b.length : Int) - 1))) rfl rfl rfl ?_)
          obtain ⟨x9758, q9759, h⟩ := bind_some h
          obtain ⟨n9760, q9761, q9762⟩ := idx_some q9759
          have q9763 := (List.getElem?_eq_some_iff.1 q9762).1
          have f9766 := ((f7757.mono (K9117 None)).mono (K9756 None))
          obtain ⟨b9764, hb9765⟩ := hL9755.row_some 1 rfl rfl (row_pos (pre := []) f9766 q9762 (Nat.lt_of_sub_eq_succ rfl))
          refine zaf (zci (r := (rInt .u32)) (b := b9764) (o := 0) (n := n9760) (m := x144.length) (xs := x144) (q := (0 + n9760 * (rInt .u32).sz)) zao ti89 (osv_some hb9765) rfl rfl q9761 q9763 rfl ?_)
          obtain ⟨vs9767, q9768, q9769, q9770⟩ := row_elem (pre := []) (sp := sp154) f9766 q9762
          obtain rfl := q9769
          refine zaf (zde (v := (zac .u32 x9758)) zav rfl rfl (own_some hb9765 (hL9755.at 1 rfl rfl)) q9770 ?_)
          refine zaf (zbp (x := x9758) (z := (uw x9758)) zav zbi rfl rfl ?_)
          refine zaf (zcd (x := rest9106) (y := (uw x9758)) (z := (uw (rest9106 + (uw x9758)))) rfl rfl rfl ?_)
          refine zaf (zak (v := (zac .u64 (uw (rest9106 + (uw x9758))))) rfl ?_)
          refine zap (zaj (zah rfl (zaf (zai (v := (zac .u64 (uw (rest9106 + (uw x9758))))) rfl ?_))))
          refine zaf (zdm (x := (uw (rest9106 + (uw x9758)))) (y := 4294967295) (((uw (rest9106 + (uw x9758))) : Int) > 4294967295) rfl rfl zbk ?_)
          refine zap ?_
          refine zbe (((uw (rest9106 + (uw x9758))) : Int) > 4294967295) rfl (fun hc9771 => ?_) (fun hc9771 => ?_)
          ·
           replace h := ite_t hc9771 h
           refine zcs rfl ?_
           obtain rfl := zag h
           obtain rfl := hd9114 _ rfl
           replace h := g9112
           try dsimp only at h
           skip
           refine zas ?_
           exact ⟨(uw (guess9105 - 1)), _, rfl, (upds_sym ⟨rfl, rfl, rfl, rfl, rfl, rfl, rfl, trivial⟩), hL9755, (zaq K9117 K9756), trivial⟩
          ·
           replace h := ite_f hc9771 h
           refine zbg (zbs ?_)
           obtain rfl := zag h
           refine zas ⟨((uw (guess9105 - 1)), (uw (rest9106 + (uw x9758)))), rfl, ?_⟩
           exact ⟨_, (upds_sym ⟨rfl, rfl, rfl, rfl, rfl, rfl, rfl, rfl, trivial⟩), hL9755, (zaq K9117 K9756), trivial⟩
         ·
          replace h := ite_f hc9757 h
          refine zcs rfl ?_
          obtain rfl := zag h
          obtain rfl := hd9114 _ rfl
          replace h := g9112
          try dsimp only at h
          skip
          refine zas ?_
          exact ⟨guess9105, _, rfl, (upds_sym ⟨rfl, rfl, rfl, rfl, rfl, rfl, rfl, trivial⟩), hL9755, (zaq K9117 K9756), trivial⟩
       ·
        rintro _ w9772 ⟨guess9110, u, rfl, rfl, hL9773, K9774, -⟩
        replace h := g9112
        try dsimp only at h
        refine zaj (zaj (zah rfl (zaf (zai (v := (osv ob124 0 r122.length cap125)) rfl ?_))))
        refine zaf (zai (v := (zac .i64 i7593)) rfl ?_)
        refine zaf (zai (v := (zac .i64 i7593)) rfl ?_)
        refine zaf (zai (v := (zac .i64 (b.length : Int))) rfl ?_)
        refine zaf (zcd (x := i7593) (y := (b.length : Int)) (z := (iw (i7593 + (b.length : Int)))) rfl rfl rfl ?_)
        refine zaf (zcd (x := (iw (i7593 + (b.length : Int)))) (y := 1) (z := (iw ((iw (i7593 + (b.length : Int))) + 1))) rfl rfl rfl ?_)
        obtain ⟨u9775, q9776, h⟩ := bind_some h
        obtain ⟨m9777, n9778, q9779, q9780, q9781, q9782⟩ := seg_some q9776
        have f9785 := (((hE7583.mono (K7644 None)).mono (K7748 None)).mono (K9774 None))
        obtain ⟨b9783, hb9784⟩ := hL9773.row_some 0 rfl rfl (row_pos (pre := []) f9785 (List.getElem?_eq_getElem (Nat.lt_of_lt_of_le q9781 q9782)) (Nat.lt_of_sub_eq_succ rfl))
        refine zaf (OpY.cutSeg (r := (rInt .u32)) (b := b9783) (l := m9777) (h' := n9778) zao ti89 rfl (osv_some hb9784) hl7585 f9785 hc7584 (.inr ⟨_, _, rfl, by rw [← q9779]; rfl⟩) (.inr ⟨_, _, rfl, by rw [← q9780]; rfl⟩) q9781 q9782 ?_)
        refine zaf (zai (v := (osv ob135 0 x144.length cap136)) rfl ?_)
        refine zaf (zai (v := (zac .u64 guess9110)) rfl ?_)
        obtain ⟨s9993, h, g9994⟩ := bind_some h
        refine zaf (OpY.callg (T := fun e w' => ∃ (u9986 : (List Int)) (x9992 : Bool) (cs9985 : List Value), (u9986, x9992) = s9993 ∧ e = Ending.returned (zaa x9992) ∧ vL w w' [ob124, ob135, some b248] [zab ([] ++ (cs9985 ++ sp127)), zab ([] ++ (cs153 ++ sp154)), zab ([] ++ (cs7588 ++ []))] ∧ Keep w.heap.size [ob124, ob135, some b248] w9772 [ob124, ob135, some b248] w' ∧ Els (rInt .u32) (vH w None [ob124, ob135, some b248] w') cs9985 u9986 ∧ r122.length = List.length u9986 ∧ (cs9985 ++ sp127).length = cap125 * (rInt .u32).sz ∧ True) en89 rfl rfl ?_ ?_)
        ·
         refine calls_of (l := [(zad (some ⟨b9783, 0 + m9777 * (rInt .u32).sz, none⟩) (n9778 - m9777) (cap125 - m9777)), (osv ob135 0 x144.length cap136), (zac .u64 guess9110)]) (rl := [.tmp 6]) (n := 45) Try.func89 rfl rfl rfl (zae rfl) ?_
         refine zaj (zah rfl (zaf (zak (v := (zaa false)) rfl ?_)))
         refine zap (zaj (zah rfl (zaf (zak (v := (zac .u64 0)) rfl ?_))))
         refine zaf (zak (v := (zac .u64 0)) rfl ?_)
         refine zap (zaj (zaj (zah rfl (zaf (zai (v := (zad (some ⟨b9783, 0 + m9777 * (rInt .u32).sz, none⟩) (n9778 - m9777) (cap125 - m9777))) rfl ?_)))))
         refine zaf (OpY.lenSeg (e := ((iw ((iw (i7593 + (b.length : Int))) + 1)) - i7593)) zao rfl (by have := q9779; have := q9780; have := q9781; omega) ?_)
         refine zaf (zai (v := (zac .i64 0)) rfl ?_)
         refine zap ?_
         obtain ⟨s10133, hl10135, g10134⟩ := bind_some h
         refine zbr (fun e w' => ∃ (borrow10124 : Int) (x10127 : (List Int)) (cs10126 : List Value) (u : Env), (borrow10124, x10127) = s10133 ∧ e = upds [(8, (zac .u64 borrow10124))] u ∧ vL w w' [ob124, ob135, some b248] [zab ([] ++ (cs10126 ++ sp127)), zab ([] ++ (cs153 ++ sp154)), zab ([] ++ (cs7588 ++ []))] ∧ Keep w.heap.size [ob124, ob135, some b248] w9772 [ob124, ob135, some b248] w' ∧ Els (rInt .u32) (vH w None [ob124, ob135, some b248] w') cs10126 x10127 ∧ r122.length = List.length x10127 ∧ (cs10126 ++ sp127).length = cap125 * (rInt .u32).sz ∧ True) ?_ ?_
         ·
          refine zbj ?_
          refine zcg hl10135 (fun (ss : ((List Int) × Int × Int × Int)) (e : Env) (w' : World) => match ss with | (u10115, carry10120, borrow10121, x10122) => ∃ (cs10114 : List Value) (u : Env), e = upds [(0, (zad (some ⟨b9783, 0 + m9777 * (rInt .u32).sz, none⟩) (n9778 - m9777) (cap125 - m9777))), (1, (osv ob135 0 x144.length cap136)), (2, (zac .u64 guess9110)), (7, (zac .u64 carry10120)), (8, (zac .u64 borrow10121)), (12, (zac .i64 ((iw ((iw (i7593 + (b.length : Int))) + 1)) - i7593))), (13, (zac .i64 x10122))] u ∧ vL w w' [ob124, ob135, some b248] [zab ([] ++ (cs10114 ++ sp127)), zab ([] ++ (cs153 ++ sp154)), zab ([] ++ (cs7588 ++ []))] ∧ Keep w.heap.size [ob124, ob135, some b248] w9772 [ob124, ob135, some b248] w' ∧ Els (rInt .u32) (vH w None [ob124, ob135, some b248] w') cs10114 u10115 ∧ r122.length = List.length u10115 ∧ (cs10114 ++ sp127).length = cap125 * (rInt .u32).sz ∧ True) ⟨cs7581, _, (upds_sym ⟨rfl, rfl, rfl, rfl, rfl, rfl, rfl, trivial⟩), hL9773, zbo, f9785, hl7585, hc7584, trivial⟩ ?_
          rintro ⟨u10115, carry10120, borrow10121, x10122⟩ oo _ w10137 ⟨cs10114, u, rfl, hL10138, K10139, hE10116, hl10118, hc10117, -⟩ h hd10136
          rw [bdivide_b3] at h
          refine zaj (zah rfl (zaf (zcr (x := x10122) (y := ((iw ((iw (i7593 + (b.length : Int))) + 1)) - i7593)) ((x10122 : Int) < ((iw ((iw (i7593 + (b.length : Int))) + 1)) - i7593)) rfl rfl zbk ?_)))
          refine zap (zaj ?_)
          refine zbe ((x10122 : Int) < ((iw ((iw (i7593 + (b.length : Int))) + 1)) - i7593)) rfl (fun hc10140 => ?_) (fun hc10140 => ?_)
          ·
           replace h := ite_t hc10140 h
           refine zbg (zaj (zbj (zaj (zah rfl (zaf (zai (v := (zac .i64 x10122)) rfl ?_))))))
           refine zaf (zak (v := (zac .i64 x10122)) rfl ?_)
           refine zap (zaj (zah rfl (zaf (zai (v := (zac .u64 carry10120)) rfl ?_))))
           refine zaf (zai (v := (zac .u64 guess9110)) rfl ?_)
           refine zaf (zai (v := (osv ob135 0 x144.length cap136)) rfl ?_)
           refine zaf (zai (v := (zac .i64 x10122)) rfl ?_)
           obtain ⟨r10141, q10142, h⟩ := bind_some h
           have f10144 := ((f7757.mono (K9774 None)).mono (K10139 None))
           refine zaf (zaw en84 rfl rfl (digit_w N x144 x10122 (osv ob135 0 x144.length cap136) _ Any (own_row_any (pre := []) (o := 0) (n := x144.length) (cap := cap136) (hL10138.at 1 rfl rfl) f10144 vw_any rfl rfl rfl hc158) r10141 q10142) ?_)
           rintro _ w10145 hE10148 ⟨rfl, -⟩
           have hL10146 := hL10138.ext hE10148
           have K10147 := ke hL10138 hE10148
           refine zaf (OpY.mul (x := guess9110) (y := r10141) (z := (uw (guess9110 * r10141))) rfl rfl rfl ?_)
           refine zaf (zcd (x := carry10120) (y := (uw (guess9110 * r10141))) (z := (uw (carry10120 + (uw (guess9110 * r10141))))) rfl rfl rfl ?_)
           refine zaf (zak (v := (zac .u64 (uw (carry10120 + (uw (guess9110 * r10141)))))) rfl ?_)
           refine zap (zaj (zah rfl (zaf (zai (v := (zad (some ⟨b9783, 0 + m9777 * (rInt .u32).sz, none⟩) (n9778 - m9777) (cap125 - m9777))) rfl ?_))))
           refine zaf (zai (v := (zac .i64 x10122)) rfl ?_)
           obtain ⟨u10149, q10150, h⟩ := bind_some h
           replace q10150 := chk_some q10150
           obtain ⟨x10151, q10152, h⟩ := bind_some h
           obtain ⟨n10153, q10154, q10155⟩ := idx_some q10152
           obtain ⟨j10157, q10158⟩ : ∃ j : Nat, x10122 = (j : Int) := ⟨Int.toNat x10122, by omega⟩
           obtain rfl : n10153 = m9777 + j10157 := by omega
           refine zaf (OpY.ixSeg (r := (rInt .u32)) (b := b9783) (m := m9777) (n := n9778) (j := j10157) zao ti89 rfl rfl q10158 (by omega) ?_)
           have f10163 := (hE10116.mono (K10147 None))
           obtain ⟨vs10159, q10160, q10161, q10162⟩ := row_elem (pre := []) (sp := sp127) f10163 q10155
           obtain rfl := q10161
           refine zaf (zde (v := (zac .u32 x10151)) zav rfl rfl (own_some hb9784 (hL10146.at 0 rfl rfl)) q10162 ?_)
           refine zaf (zbp (x := x10151) (z := (uw x10151)) zav zbi rfl rfl ?_)
           refine zaf (zai (v := (zac .u64 (uw (carry10120 + (uw (guess9110 * r10141)))))) rfl ?_)
           refine zaf (OpY.iand (x := (uw (carry10120 + (uw (guess9110 * r10141))))) (y := 4294967295) rfl rfl ?_)
           refine zaf (zdd (x := (uw x10151)) (y := (band .u64 (uw (carry10120 + (uw (guess9110 * r10141)))) 4294967295)) (z := (uw ((uw x10151) - (band .u64 (uw (carry10120 + (uw (guess9110 * r10141)))) 4294967295)))) rfl rfl rfl ?_)
           refine zaf (zai (v := (zac .u64 borrow10121)) rfl ?_)
           refine zaf (zdd (x := (uw ((uw x10151) - (band .u64 (uw (carry10120 + (uw (guess9110 * r10141)))) 4294967295)))) (y := borrow10121) (z := (uw ((uw ((uw x10151) - (band .u64 (uw (carry10120 + (uw (guess9110 * r10141)))) 4294967295))) - borrow10121))) rfl rfl rfl ?_)
           refine zaf (zak (v := (zac .u64 (uw ((uw ((uw x10151) - (band .u64 (uw (carry10120 + (uw (guess9110 * r10141)))) 4294967295))) - borrow10121)))) rfl ?_)
           refine zap (zaj (zah rfl (zaf (zai (v := (zad (some ⟨b9783, 0 + m9777 * (rInt .u32).sz, none⟩) (n9778 - m9777) (cap125 - m9777))) rfl ?_))))
           refine zaf (zai (v := (zac .i64 x10122)) rfl ?_)
           refine zaf (zai (v := (zac .u64 (uw ((uw ((uw x10151) - (band .u64 (uw (carry10120 + (uw (guess9110 * r10141)))) 4294967295))) - borrow10121)))) rfl ?_)
           refine zaf (zbp (x := (uw ((uw ((uw x10151) - (band .u64 (uw (carry10120 + (uw (guess9110 * r10141)))) 4294967295))) - borrow10121))) (z := (uw32 (uw ((uw ((uw x10151) - (band .u64 (uw (carry10120 + (uw (guess9110 * r10141)))) 4294967295))) - borrow10121)))) zbi zav rfl rfl ?_)
           obtain ⟨u10164, q10165, h⟩ := bind_some h
           replace q10165 := chk_some q10165
           obtain ⟨x10166, q10167, h⟩ := bind_some h
           obtain ⟨n10168, q10169, q10170⟩ := idx_some q10167
           obtain ⟨j10172, q10173⟩ : ∃ j : Nat, x10122 = (j : Int) := ⟨Int.toNat x10122, by omega⟩
           obtain rfl : n10168 = m9777 + j10172 := by omega
           have q10171 := (List.getElem?_eq_some_iff.1 q10170).1
           refine zaf (OpY.ixSeg (r := (rInt .u32)) (b := b9783) (m := m9777) (n := n9778) (j := j10172) zao ti89 rfl rfl q10173 (by omega) ?_)
           obtain ⟨x10174, q10175, h⟩ := bind_some h
           obtain ⟨n10176, q10177, q10178, q10179⟩ := upd1_some q10175
           obtain rfl := Int.ofNat_inj.1 (q10169.symm.trans q10177)
           refine zcb (zdh (pre := []) (r := (rInt .u32)) (vs := [(zac .u32 (uw32 (uw ((uw ((uw x10151) - (band .u64 (uw (carry10120 + (uw (guess9110 * r10141)))) 4294967295))) - borrow10121))))]) (a := (uw32 (uw ((uw ((uw x10151) - (band .u64 (uw (carry10120 + (uw (guess9110 * r10141)))) 4294967295))) - borrow10121)))) ti89 rfl rfl rfl rfl hL10146 0 (congrArg some hb9784) rfl f10163 q10171 rfl q10179 ?_)
           have hl10187 : r122.length = List.length x10174 := by rw [q10179, List.length_set]; exact hl10118
           intro w10180 cs10184 (hL10181 : vL w w10180 [ob124, ob135, some b248] [zab ([] ++ (cs10184 ++ sp127)), zab ([] ++ (cs153 ++ sp154)), zab ([] ++ (cs7588 ++ []))]) hS10183 hE10185 q10186
           have hc10188 : (cs10184 ++ sp127).length = cap125 * (rInt .u32).sz := by have := hc10117; rw [List.length_append] at this ⊢; rw [q10186]; exact this
           have K10182 := ks w hS10183
           refine zap (zaj (zah rfl (zaf (zai (v := (zac .u64 (uw ((uw ((uw x10151) - (band .u64 (uw (carry10120 + (uw (guess9110 * r10141)))) 4294967295))) - borrow10121)))) rfl ?_))))
           refine zaf (OpY.ishr (x := (uw ((uw ((uw x10151) - (band .u64 (uw (carry10120 + (uw (guess9110 * r10141)))) 4294967295))) - borrow10121))) (y := 63) rfl rfl (by decide) ?_)
           refine zaf (zak (v := (zac .u64 (bshr .u64 (uw ((uw ((uw x10151) - (band .u64 (uw (carry10120 + (uw (guess9110 * r10141)))) 4294967295))) - borrow10121)) 63))) rfl ?_)
           refine zap (zah rfl (zaf (zai (v := (zac .u64 (uw (carry10120 + (uw (guess9110 * r10141)))))) rfl ?_)))
           refine zaf (OpY.ishr (x := (uw (carry10120 + (uw (guess9110 * r10141))))) (y := 32) rfl rfl (by decide) ?_)
           refine zaf (zak (v := (zac .u64 (bshr .u64 (uw (carry10120 + (uw (guess9110 * r10141)))) 32))) rfl ?_)
           refine zap (zbs (zah rfl (zaf (zcd (x := x10122) (y := 1) (z := (iw (x10122 + 1))) rfl rfl rfl ?_))))
           refine zaf (zai (v := (zac .i64 (iw (x10122 + 1)))) rfl ?_)
           refine zap ?_
           have f10189 := (hE10185.mono (K10182 None))
           obtain rfl := zag h
           refine zas ⟨(x10174, (bshr .u64 (uw (carry10120 + (uw (guess9110 * r10141)))) 32), (bshr .u64 (uw ((uw ((uw x10151) - (band .u64 (uw (carry10120 + (uw (guess9110 * r10141)))) 4294967295))) - borrow10121)) 63), (iw (x10122 + 1))), rfl, ?_⟩
           exact ⟨cs10184, _, (upds_sym ⟨rfl, rfl, rfl, rfl, rfl, rfl, rfl, trivial⟩), hL10181, (zaq (zaq K10139 K10147) K10182), f10189, hl10187, hc10188, trivial⟩
          ·
           replace h := ite_f hc10140 h
           refine zcs rfl ?_
           obtain rfl := zag h
           obtain rfl := hd10136 _ rfl
           replace h := g10134
           try dsimp only at h
           skip
           refine zas ?_
           exact ⟨borrow10121, u10115, cs10114, _, rfl, (upds_sym ⟨rfl, trivial⟩), hL10138, K10139, hE10116, hl10118, hc10117, trivial⟩
         ·
          rintro _ w10190 ⟨borrow10124, x10127, cs10126, u, rfl, rfl, hL10191, K10192, hE10128, hl10130, hc10129, -⟩
          replace h := g10134
          try dsimp only at h
          refine zaj (zah rfl (zaf (zai (v := (zac .u64 borrow10124)) rfl ?_)))
          refine zaf (OpY.neq (x := borrow10124) (y := 0) ((borrow10124 : Int) ≠ 0) rfl rfl zbk ?_)
          refine zaf (zak (v := (zaa (decide ((borrow10124 : Int) ≠ 0)))) rfl ?_)
          refine zap (zbl ?_)
          refine ⟨[(zaa (decide ((borrow10124 : Int) ≠ 0)))], ⟨rfl, trivial⟩, ?_⟩
          obtain rfl := zag h
          exact ⟨x10127, (decide ((borrow10124 : Int) ≠ 0)), cs10126, rfl, rfl, hL10191, K10192, hE10128, hl10130, hc10129, trivial⟩
        ·
         rintro _ w10193 ⟨u9986, x9992, cs9985, rfl, rfl, hL10194, K10195, hE9987, hl9989, hc9988, -⟩
         refine ⟨_, rfl, ?_⟩
         replace h := g9994
         try dsimp only at h
         refine zap ?_
         obtain ⟨s10722, h, g10723⟩ := bind_some h
         refine zbr (fun e w' => ∃ (u10715 : (List Int)) (guess10721 : Int) (cs10714 : List Value) (u : Env), (u10715, guess10721) = s10722 ∧ e = upds [(8, (zac .u64 (uw r115))), (9, (osv ob124 0 r122.length cap125)), (10, (osv ob135 0 x144.length cap136)), (11, (zac .i64 (b.length : Int))), (12, (osv (some b248) 0 x242.length m241)), (13, (zac .i64 i7593)), (15, (zac .u64 guess10721))] u ∧ vL w w' [ob124, ob135, some b248] [zab ([] ++ (cs10714 ++ sp127)), zab ([] ++ (cs153 ++ sp154)), zab ([] ++ (cs7588 ++ []))] ∧ Keep w.heap.size [ob124, ob135, some b248] w10193 [ob124, ob135, some b248] w' ∧ Els (rInt .u32) (vH w None [ob124, ob135, some b248] w') cs10714 u10715 ∧ r122.length = List.length u10715 ∧ (cs10714 ++ sp127).length = cap125 * (rInt .u32).sz ∧ True) ?_ ?_
         ·
          refine zcu x9992 rfl (fun hc10724 => ?_) (fun hc10724 => ?_)
          ·
           replace h := ite_t hc10724 h
           refine zaj (zah rfl (zaf (zai (v := (zac .u64 guess9110)) rfl ?_)))
           refine zaf (zdd (x := guess9110) (y := 1) (z := (uw (guess9110 - 1))) rfl rfl rfl ?_)
           refine zaf (zak (v := (zac .u64 (uw (guess9110 - 1)))) rfl ?_)
           refine zap (zaj (zah rfl (zaf (zak (v := (zac .u64 0)) rfl ?_))))
           refine zap (zaj (zaj (zah rfl (zaf (zai (v := (osv ob135 0 x144.length cap136)) rfl ?_)))))
           have f10725 := ((f7757.mono (K9774 None)).mono (K10195 None))
           refine zaf (OpY.lenRow (pre := []) (r := (rInt .u32)) (xs := x144) zao rfl (hL10194.at 1 rfl rfl) f10725 rfl rfl ?_)
           refine zaf (zai (v := (zac .i64 0)) rfl ?_)
           refine zap ?_
           obtain ⟨s11053, hl11055, g11054⟩ := bind_some h
           refine zbr (fun e w' => ∃ (u11046 : (List Int)) (carry11052 : Int) (cs11045 : List Value) (u : Env), (u11046, carry11052) = s11053 ∧ e = upds [(8, (zac .u64 (uw r115))), (9, (osv ob124 0 r122.length cap125)), (10, (osv ob135 0 x144.length cap136)), (11, (zac .i64 (b.length : Int))), (12, (osv (some b248) 0 x242.length m241)), (13, (zac .i64 i7593)), (15, (zac .u64 (uw (guess9110 - 1)))), (17, (zac .u64 carry11052))] u ∧ vL w w' [ob124, ob135, some b248] [zab ([] ++ (cs11045 ++ sp127)), zab ([] ++ (cs153 ++ sp154)), zab ([] ++ (cs7588 ++ []))] ∧ Keep w.heap.size [ob124, ob135, some b248] w10193 [ob124, ob135, some b248] w' ∧ Els (rInt .u32) (vH w None [ob124, ob135, some b248] w') cs11045 u11046 ∧ r122.length = List.length u11046 ∧ (cs11045 ++ sp127).length = cap125 * (rInt .u32).sz ∧ True) ?_ ?_
           ·
            refine zbj ?_
            refine zcg hl11055 (fun (ss : ((List Int) × Int × Int)) (e : Env) (w' : World) => match ss with | (u11036, carry11042, x11043) => ∃ (cs11035 : List Value) (u : Env), e = upds [(8, (zac .u64 (uw r115))), (9, (osv ob124 0 r122.length cap125)), (10, (osv ob135 0 x144.length cap136)), (11, (zac .i64 (b.length : Int))), (12, (osv (some b248) 0 x242.length m241)), (13, (zac .i64 i7593)), (15, (zac .u64 (uw (guess9110 - 1)))), (17, (zac .u64 carry11042)), (156, (zac .i64 (x144.length : Int))), (157, (zac .i64 x11043))] u ∧ vL w w' [ob124, ob135, some b248] [zab ([] ++ (cs11035 ++ sp127)), zab ([] ++ (cs153 ++ sp154)), zab ([] ++ (cs7588 ++ []))] ∧ Keep w.heap.size [ob124, ob135, some b248] w10193 [ob124, ob135, some b248] w' ∧ Els (rInt .u32) (vH w None [ob124, ob135, some b248] w') cs11035 u11036 ∧ r122.length = List.length u11036 ∧ (cs11035 ++ sp127).length = cap125 * (rInt .u32).sz ∧ True) ⟨cs9985, _, (upds_sym ⟨rfl, rfl, rfl, rfl, rfl, rfl, rfl, rfl, rfl, rfl, trivial⟩), hL10194, zbo, hE9987, hl9989, hc9988, trivial⟩ ?_
            rintro ⟨u11036, carry11042, x11043⟩ oo _ w11057 ⟨cs11035, u, rfl, hL11058, K11059, hE11037, hl11039, hc11038, -⟩ h hd11056
            rw [bdivide_b4] at h
            refine zaj (zah rfl (zaf (zcr (x := x11043) (y := (x144.length : Int)) ((x11043 : Int) < (x144.length : Int)) rfl rfl zbk ?_)))
            refine zap (zaj ?_)
            refine zbe ((x11043 : Int) < (x144.length : Int)) rfl (fun hc11060 => ?_) (fun hc11060 => ?_)
            ·
             replace h := ite_t hc11060 h
             refine zbg (zaj (zbj (zaj (zah rfl (zaf (zai (v := (zac .i64 x11043)) rfl ?_))))))
             refine zaf (zak (v := (zac .i64 x11043)) rfl ?_)
             refine zap (zaj ?_)
             obtain ⟨x11061, q11062, h⟩ := bind_some h
             obtain ⟨n11063, q11064, q11065⟩ := idx_some q11062
             have q11066 := (List.getElem?_eq_some_iff.1 q11065).1
             obtain ⟨b11067, hb11068⟩ := hL11058.row_some 0 rfl rfl (row_pos (pre := []) hE11037 q11065 (Nat.lt_of_sub_eq_succ rfl))
             obtain ⟨vs11069, q11070, q11071, q11072⟩ := row_elem (pre := []) (sp := sp127) hE11037 q11065
             obtain rfl := q11071
             obtain ⟨x11073, q11074, h⟩ := bind_some h
             obtain ⟨n11075, q11076, q11077⟩ := idx_some q11074
             have q11078 := (List.getElem?_eq_some_iff.1 q11077).1
             have f11081 := (f10725.mono (K11059 None))
             obtain ⟨b11079, hb11080⟩ := hL11058.row_some 1 rfl rfl (row_pos (pre := []) f11081 q11077 (Nat.lt_of_sub_eq_succ rfl))
             obtain ⟨vs11082, q11083, q11084, q11085⟩ := row_elem (pre := []) (sp := sp154) f11081 q11077
             obtain rfl := q11084
             refine zcc 14 [] [] (fun W1 => [.det (zac .u64 carry11042), .det (osv ob124 0 r122.length cap125), .det (zac .i64 i7593), .det (zac .i64 x11043), .det (zac .i64 (iw (i7593 + x11043))), .det (zam (some ⟨b11067, (0 + n11063 * (rInt .u32).sz), none⟩)), .det (zac .u32 x11061), .det (zac .u64 (uw x11061)), .det (osv ob135 0 x144.length cap136), .det (zac .i64 x11043), .det (zam (some ⟨b11079, (0 + n11075 * (rInt .u32).sz), none⟩)), .det (zac .u32 x11073), .det (zac .u64 (uw x11073)), .det (zac .u64 (uw ((uw x11061) + (uw x11073))))]) mixed rfl rfl rfl (fun _ => rfl) (fun _ => rfl) ?_ ?_
             ·
              intro W1 _
              exact trivial
             ·
              intro w11086 hE11087
              have hL11088 := hL11058.ext hE11087
              have K11089 := ke hL11058 hE11087
              refine zau (fun _ _ => zat (zai rfl (er rfl))) ?_
              refine zau (fun _ _ => zat (zai rfl (er rfl))) ?_
              refine zau (fun _ _ => zat (zai rfl (er rfl))) ?_
              refine zau (fun _ _ => zat (zai rfl (er rfl))) ?_
              refine zau (fun _ _ => zat (zcd rfl rfl rfl (er rfl))) ?_
              refine zau (fun _ _ => zat (zci (r := (rInt .u32)) (b := b11067) (o := 0) (n := n11063) (m := r122.length) (xs := u11036) (q := (0 + n11063 * (rInt .u32).sz)) zao ti89 (osv_some hb11068) hl11039 rfl q11064 q11066 rfl (er rfl))) ?_
              refine zau (fun _ hE11128 => zat (zde zav rfl rfl (own_some hb11068 ((hL11088.ext hE11128).at 0 rfl rfl)) q11072 (er rfl))) ?_
              refine zau (fun _ _ => zat (zbp zav zbi rfl rfl (er rfl))) ?_
              refine zau (fun _ _ => zat (zai rfl (er rfl))) ?_
              refine zau (fun _ _ => zat (zai rfl (er rfl))) ?_
              refine zau (fun _ _ => zat (zci (r := (rInt .u32)) (b := b11079) (o := 0) (n := n11075) (m := x144.length) (xs := x144) (q := (0 + n11075 * (rInt .u32).sz)) zao ti89 (osv_some hb11080) rfl rfl q11076 q11078 rfl (er rfl))) ?_
              refine zau (fun _ hE11158 => zat (zde zav rfl rfl (own_some hb11080 ((hL11088.ext hE11158).at 1 rfl rfl)) q11085 (er rfl))) ?_
              refine zau (fun _ _ => zat (zbp zav zbi rfl rfl (er rfl))) ?_
              refine zau (fun _ _ => zat (zcd rfl rfl rfl (er rfl))) ?_
              refine zcn ?_
              rintro w11174 Z11175 hE11176 hZ11177 ⟨-⟩ ap11178
              have hB11179 : ∀ b, some b ∈ ([] : List (Option Nat)) → w11086.heap.size ≤ b ∧ ¬ Z11175 b := by
               intro b hb; cases hb
              have hL11180 := hL11088.ext hE11176
              have K11181 := ke hL11088 hE11176
              refine zaf (zcd (x := carry11042) (y := (uw ((uw x11061) + (uw x11073)))) (z := (uw (carry11042 + (uw ((uw x11061) + (uw x11073)))))) rfl rfl rfl ?_)
              refine zaf (zak (v := (zac .u64 (uw (carry11042 + (uw ((uw x11061) + (uw x11073))))))) rfl ?_)
              refine zap (zaj (zah rfl (zaf (zai (v := (osv ob124 0 r122.length cap125)) rfl ?_))))
              refine zaf (zai (v := (zac .i64 i7593)) rfl ?_)
              refine zaf (zai (v := (zac .i64 x11043)) rfl ?_)
              refine zaf (zcd (x := i7593) (y := x11043) (z := (iw (i7593 + x11043))) rfl rfl rfl ?_)
              refine zaf (zai (v := (zac .u64 (uw (carry11042 + (uw ((uw x11061) + (uw x11073))))))) rfl ?_)
              refine zaf (zbp (x := (uw (carry11042 + (uw ((uw x11061) + (uw x11073)))))) (z := (uw32 (uw (carry11042 + (uw ((uw x11061) + (uw x11073))))))) zbi zav rfl rfl ?_)
              obtain ⟨x11182, q11183, h⟩ := bind_some h
              obtain ⟨n11184, q11185, q11186⟩ := idx_some q11183
              have q11187 := (List.getElem?_eq_some_iff.1 q11186).1
              refine zaf (zci (r := (rInt .u32)) (b := b11067) (o := 0) (n := n11184) (m := r122.length) (xs := u11036) (q := (0 + n11184 * (rInt .u32).sz)) zao ti89 (osv_some hb11068) hl11039 rfl q11185 q11187 rfl ?_)
              obtain ⟨x11188, q11189, h⟩ := bind_some h
              obtain ⟨n11190, q11191, q11192, q11193⟩ := upd1_some q11189
              obtain rfl := Int.ofNat_inj.1 (q11185.symm.trans q11191)
              have f11194 := ((hE11037.mono (K11089 None)).mono (K11181 None))
              refine zcb (zdh (pre := []) (r := (rInt .u32)) (vs := [(zac .u32 (uw32 (uw (carry11042 + (uw ((uw x11061) + (uw x11073)))))))]) (a := (uw32 (uw (carry11042 + (uw ((uw x11061) + (uw x11073))))))) ti89 rfl rfl rfl rfl hL11180 0 (congrArg some hb11068) rfl f11194 q11187 rfl q11193 ?_)
              have hl11202 : r122.length = List.length x11188 := by rw [q11193, List.length_set]; exact hl11039
              intro w11195 cs11199 (hL11196 : vL w w11195 [ob124, ob135, some b248] [zab ([] ++ (cs11199 ++ sp127)), zab ([] ++ (cs153 ++ sp154)), zab ([] ++ (cs7588 ++ []))]) hS11198 hE11200 q11201
              have hc11203 : (cs11199 ++ sp127).length = cap125 * (rInt .u32).sz := by have := hc11038; rw [List.length_append] at this ⊢; rw [q11201]; exact this
              have K11197 := ks w hS11198
              refine zap (zah rfl (zaf (zai (v := (zac .u64 (uw (carry11042 + (uw ((uw x11061) + (uw x11073))))))) rfl ?_)))
              refine zaf (OpY.ishr (x := (uw (carry11042 + (uw ((uw x11061) + (uw x11073)))))) (y := 32) rfl rfl (by decide) ?_)
              refine zaf (zak (v := (zac .u64 (bshr .u64 (uw (carry11042 + (uw ((uw x11061) + (uw x11073))))) 32))) rfl ?_)
              refine zap (zbs (zah rfl (zaf (zcd (x := x11043) (y := 1) (z := (iw (x11043 + 1))) rfl rfl rfl ?_))))
              refine zaf (zai (v := (zac .i64 (iw (x11043 + 1)))) rfl ?_)
              refine zap ?_
              have f11204 := (hE11200.mono (K11197 None))
              obtain rfl := zag h
              refine zas ⟨(x11188, (bshr .u64 (uw (carry11042 + (uw ((uw x11061) + (uw x11073))))) 32), (iw (x11043 + 1))), rfl, ?_⟩
              exact ⟨cs11199, _, (upds_sym ⟨rfl, rfl, rfl, rfl, rfl, rfl, rfl, rfl, rfl, rfl, trivial⟩), hL11196, (zaq (zaq (zaq K11059 K11089) K11181) K11197), f11204, hl11202, hc11203, trivial⟩
            ·
             replace h := ite_f hc11060 h
             refine zcs rfl ?_
             obtain rfl := zag h
             obtain rfl := hd11056 _ rfl
             replace h := g11054
             try dsimp only at h
             skip
             refine zas ?_
             exact ⟨u11036, carry11042, cs11035, _, rfl, (upds_sym ⟨rfl, rfl, rfl, rfl, rfl, rfl, rfl, rfl, trivial⟩), hL11058, K11059, hE11037, hl11039, hc11038, trivial⟩
           ·
            rintro _ w11205 ⟨u11046, carry11052, cs11045, u, rfl, rfl, hL11206, K11207, hE11047, hl11049, hc11048, -⟩
            replace h := g11054
            try dsimp only at h
            refine zah rfl (zaf (zai (v := (osv ob124 0 r122.length cap125)) rfl ?_))
            refine zaf (zai (v := (zac .i64 i7593)) rfl ?_)
            refine zaf (zai (v := (zac .i64 (b.length : Int))) rfl ?_)
            refine zaf (zcd (x := i7593) (y := (b.length : Int)) (z := (iw (i7593 + (b.length : Int)))) rfl rfl rfl ?_)
            obtain ⟨x11208, q11209, h⟩ := bind_some h
            obtain ⟨n11210, q11211, q11212⟩ := idx_some q11209
            have q11213 := (List.getElem?_eq_some_iff.1 q11212).1
            obtain ⟨b11214, hb11215⟩ := hL11206.row_some 0 rfl rfl (row_pos (pre := []) hE11047 q11212 (Nat.lt_of_sub_eq_succ rfl))
            refine zaf (zci (r := (rInt .u32)) (b := b11214) (o := 0) (n := n11210) (m := r122.length) (xs := u11046) (q := (0 + n11210 * (rInt .u32).sz)) zao ti89 (osv_some hb11215) hl11049 rfl q11211 q11213 rfl ?_)
            obtain ⟨vs11216, q11217, q11218, q11219⟩ := row_elem (pre := []) (sp := sp127) hE11047 q11212
            obtain rfl := q11218
            refine zaf (zde (v := (zac .u32 x11208)) zav rfl rfl (own_some hb11215 (hL11206.at 0 rfl rfl)) q11219 ?_)
            refine zaf (zai (v := (zac .u64 carry11052)) rfl ?_)
            refine zaf (zbp (x := carry11052) (z := (uw32 carry11052)) zbi zav rfl rfl ?_)
            refine zaf (zcd (x := x11208) (y := (uw32 carry11052)) (z := (uw32 (x11208 + (uw32 carry11052)))) rfl rfl rfl ?_)
            obtain ⟨x11220, q11221, h⟩ := bind_some h
            obtain ⟨n11222, q11223, q11224⟩ := idx_some q11221
            have q11225 := (List.getElem?_eq_some_iff.1 q11224).1
            refine zaf (zci (r := (rInt .u32)) (b := b11214) (o := 0) (n := n11222) (m := r122.length) (xs := u11046) (q := (0 + n11222 * (rInt .u32).sz)) zao ti89 (osv_some hb11215) hl11049 rfl q11223 q11225 rfl ?_)
            obtain ⟨x11226, q11227, h⟩ := bind_some h
            obtain ⟨n11228, q11229, q11230, q11231⟩ := upd1_some q11227
            obtain rfl := Int.ofNat_inj.1 (q11223.symm.trans q11229)
            refine zcb (zdh (pre := []) (r := (rInt .u32)) (vs := [(zac .u32 (uw32 (x11208 + (uw32 carry11052))))]) (a := (uw32 (x11208 + (uw32 carry11052)))) ti89 rfl rfl rfl rfl hL11206 0 (congrArg some hb11215) rfl hE11047 q11225 rfl q11231 ?_)
            have hl11239 : r122.length = List.length x11226 := by rw [q11231, List.length_set]; exact hl11049
            intro w11232 cs11236 (hL11233 : vL w w11232 [ob124, ob135, some b248] [zab ([] ++ (cs11236 ++ sp127)), zab ([] ++ (cs153 ++ sp154)), zab ([] ++ (cs7588 ++ []))]) hS11235 hE11237 q11238
            have hc11240 : (cs11236 ++ sp127).length = cap125 * (rInt .u32).sz := by have := hc11048; rw [List.length_append] at this ⊢; rw [q11238]; exact this
            have K11234 := ks w hS11235
            refine zap ?_
            have f11241 := (hE11237.mono (K11234 None))
            obtain rfl := zag h
            refine zas ?_
            exact ⟨x11226, (uw (guess9110 - 1)), cs11236, _, rfl, (upds_sym ⟨rfl, rfl, rfl, rfl, rfl, rfl, rfl, trivial⟩), hL11233, (zaq K11207 K11234), f11241, hl11239, hc11240, trivial⟩
          ·
           replace h := ite_f hc10724 h
           refine zbg ?_
           obtain rfl := zag h
           refine zas ?_
           exact ⟨u9986, guess9110, cs9985, _, rfl, (upds_sym ⟨rfl, rfl, rfl, rfl, rfl, rfl, rfl, trivial⟩), hL10194, zbo, hE9987, hl9989, hc9988, trivial⟩
         ·
          rintro _ w11242 ⟨u10715, guess10721, cs10714, u, rfl, rfl, hL11243, K11244, hE10716, hl10718, hc10717, -⟩
          replace h := g10723
          try dsimp only at h
          refine zah rfl (zaf (zai (v := (osv (some b248) 0 x242.length m241)) rfl ?_))
          refine zaf (zai (v := (zac .i64 i7593)) rfl ?_)
          refine zaf (zai (v := (zac .u64 guess10721)) rfl ?_)
          refine zaf (zbp (x := guess10721) (z := (uw32 guess10721)) zbi zav rfl rfl ?_)
          obtain ⟨x11245, q11246, h⟩ := bind_some h
          obtain ⟨n11247, q11248, q11249⟩ := idx_some q11246
          have q11250 := (List.getElem?_eq_some_iff.1 q11249).1
          refine zaf (zci (r := (rInt .u32)) (b := b248) (o := 0) (n := n11247) (m := x242.length) (xs := q7589) (q := (0 + n11247 * (rInt .u32).sz)) zao ti89 rfl hl7592 rfl q11248 q11250 rfl ?_)
          obtain ⟨x11251, q11252, h⟩ := bind_some h
          obtain ⟨n11253, q11254, q11255, q11256⟩ := upd1_some q11252
          obtain rfl := Int.ofNat_inj.1 (q11248.symm.trans q11254)
          have f11257 := (((((hE7590.mono (K7644 None)).mono (K7748 None)).mono (K9774 None)).mono (K10195 None)).mono (K11244 None))
          refine zcb (zdh (pre := []) (r := (rInt .u32)) (vs := [(zac .u32 (uw32 guess10721))]) (a := (uw32 guess10721)) ti89 rfl rfl rfl rfl hL11243 2 rfl rfl f11257 q11250 rfl q11256 ?_)
          have hl11265 : x242.length = List.length x11251 := by rw [q11256, List.length_set]; exact hl7592
          intro w11258 cs11262 (hL11259 : vL w w11258 [ob124, ob135, some b248] [zab ([] ++ (cs10714 ++ sp127)), zab ([] ++ (cs153 ++ sp154)), zab ([] ++ (cs11262 ++ []))]) hS11261 hE11263 q11264
          have hc11266 : (cs11262 ++ []).length = m241 * (rInt .u32).sz := by have := hc7591; rw [List.length_append] at this ⊢; rw [q11264]; exact this
          have K11260 := ks w hS11261
          refine zap (zbs (zah rfl (zaf (zai (v := (zac .i64 i7593)) rfl ?_))))
          refine zaf (zdd (x := i7593) (y := 1) (z := (iw (i7593 - 1))) rfl rfl rfl ?_)
          refine zaf (zak (v := (zac .i64 (iw (i7593 - 1)))) rfl ?_)
          refine zap ?_
          have f11267 := (hE10716.mono (K11260 None))
          have f11268 := (hE11263.mono (K11260 None))
          obtain rfl := zag h
          refine zas ⟨(u10715, x11251, (iw (i7593 - 1))), rfl, ?_⟩
          exact ⟨cs10714, cs11262, _, (upds_sym ⟨rfl, rfl, rfl, rfl, rfl, rfl, trivial⟩), hL11259, (zaq (zaq (zaq (zaq (zaq (zaq K7617 K7644) K7748) K9774) K10195) K11244) K11260), f11267, hl10718, hc10717, f11268, hl11265, hc11266, trivial⟩
     ·
      replace h := ite_f hc7618 h
      refine zcs rfl ?_
      have hp11269 := hL7616.pick [0, 2] rfl rfl rfl
      have hL11271 : vL w w7615 [ob124, some b248] [zab ([] ++ (cs7581 ++ sp127)), zab ([] ++ (cs7588 ++ []))] := hp11269.1
      have K11270 := ks w hp11269.2
      have f11272 := (hE7583.mono (K11270 None))
      have f11273 := (hE7590.mono (K11270 None))
      obtain rfl := zag h
      obtain rfl := hd7609 _ rfl
      replace h := g7607
      try dsimp only at h
      skip
      refine zas ?_
      exact ⟨u7582, q7589, cs7581, cs7588, _, rfl, (upds_sym ⟨rfl, rfl, rfl, rfl, trivial⟩), hL11271, (zaq K7617 K11270), f11272, hl7585, hc7584, f11273, hl7592, hc7591, trivial⟩
    ·
     rintro _ w11274 ⟨u7596, q7602, cs7595, cs7601, u, rfl, rfl, hL11275, K11276, hE7597, hl7599, hc7598, hE7603, hl7605, hc7604, -⟩
     replace h := g7607
     try dsimp only at h
     refine zaj (zah rfl (zaf (zai (v := (zac .i64 (b.length : Int))) rfl ?_)))
     obtain ⟨x11278, q11279, h⟩ := bind_some h
     obtain ⟨m11277, q11280, q11281, q11282, q11283⟩ := mk1_some q11279
     refine zaf (OpY.mkRowX (r := (rInt .u32)) (H := (vH w None [ob124, some b248] w11274)) (zc := [(zac .u32 0)]) (x := 0) zao ti89 rfl rfl rfl rfl q11280 q11281 q11282 q11283 hL11275 ?_)
     intro b11284 w11289 cs11285 hE11286 hc11287 hL11290 hS11292
     have K11291 := ks w hS11292
     refine zaf (zak (v := (osv (some b11284) 0 x11278.length m11277)) rfl ?_)
     refine zap (zaj (zaj (zah rfl (zaf (zai (v := (osv (some b11284) 0 x11278.length m11277)) rfl ?_)))))
     have f11293 := (hE11286.mono (K11291 None))
     refine zaf (OpY.lenRow (pre := []) (r := (rInt .u32)) (xs := x11278) zao rfl (hL11290.at 0 rfl rfl) f11293 rfl rfl ?_)
     refine zaf (zai (v := (zac .i64 0)) rfl ?_)
     refine zap ?_
     obtain ⟨s11666, hl11668, g11667⟩ := bind_some h
     refine zbr (fun e w' => ∃ (x11662 : (List Int)) (cs11661 : List Value) (u : Env), x11662 = s11666 ∧ e = upds [(12, (osv (some b248) 0 x242.length m241)), (19, (osv (some b11284) 0 x11278.length m11277))] u ∧ vL w w' [some b248, some b11284] [zab ([] ++ (cs7601 ++ [])), zab ([] ++ (cs11661 ++ []))] ∧ Keep w.heap.size [some b11284, ob124, some b248] w11289 [some b248, some b11284] w' ∧ Els (rInt .u32) (vH w None [some b248, some b11284] w') cs11661 x11662 ∧ x11278.length = List.length x11662 ∧ (cs11661 ++ []).length = m11277 * (rInt .u32).sz ∧ True) ?_ ?_
     ·
      refine zbj ?_
      have hp11670 := hL11290.pick [1, 2, 0] rfl rfl rfl
      have hL11672 : vL w w11289 [ob124, some b248, some b11284] [zab ([] ++ (cs7595 ++ sp127)), zab ([] ++ (cs7601 ++ [])), zab ([] ++ (cs11285 ++ []))] := hp11670.1
      have K11671 := ks w hp11670.2
      have f11673 := (f11293.mono (K11671 None))
      refine zcg hl11668 (fun (ss : ((List Int) × Int)) (e : Env) (w' : World) => match ss with | (x11654, x11658) => ∃ (cs11653 : List Value) (u : Env), e = upds [(8, (zac .u64 (uw r115))), (9, (osv ob124 0 r122.length cap125)), (12, (osv (some b248) 0 x242.length m241)), (19, (osv (some b11284) 0 x11278.length m11277)), (203, (zac .i64 (x11278.length : Int))), (204, (zac .i64 x11658))] u ∧ vL w w' [ob124, some b248, some b11284] [zab ([] ++ (cs7595 ++ sp127)), zab ([] ++ (cs7601 ++ [])), zab ([] ++ (cs11653 ++ []))] ∧ Keep w.heap.size [some b11284, ob124, some b248] w11289 [ob124, some b248, some b11284] w' ∧ Els (rInt .u32) (vH w None [ob124, some b248, some b11284] w') cs11653 x11654 ∧ x11278.length = List.length x11654 ∧ (cs11653 ++ []).length = m11277 * (rInt .u32).sz ∧ True) ⟨cs11285, _, (upds_sym ⟨rfl, rfl, rfl, rfl, rfl, rfl, trivial⟩), hL11672, K11671, f11673, rfl, hc11287, trivial⟩ ?_
      rintro ⟨x11654, x11658⟩ oo _ w11674 ⟨cs11653, u, rfl, hL11675, K11676, hE11655, hl11657, hc11656, -⟩ h hd11669
      rw [bdivide_b5] at h
      refine zaj (zah rfl (zaf (zcr (x := x11658) (y := (x11278.length : Int)) ((x11658 : Int) < (x11278.length : Int)) rfl rfl zbk ?_)))
      refine zap (zaj ?_)
      refine zbe ((x11658 : Int) < (x11278.length : Int)) rfl (fun hc11677 => ?_) (fun hc11677 => ?_)
      ·
       replace h := ite_t hc11677 h
       refine zbg (zaj (zbj (zaj (zah rfl (zaf (zai (v := (zac .i64 x11658)) rfl ?_))))))
       refine zaf (zak (v := (zac .i64 x11658)) rfl ?_)
       refine zap ?_
       obtain ⟨x11678, q11679, h⟩ := bind_some h
       obtain ⟨n11680, q11681, q11682⟩ := idx_some q11679
       have q11683 := (List.getElem?_eq_some_iff.1 q11682).1
       have f11686 := ((hE7597.mono (K11291 None)).mono (K11676 None))
       obtain ⟨b11684, hb11685⟩ := hL11675.row_some 0 rfl rfl (row_pos (pre := []) f11686 q11682 (Nat.lt_of_sub_eq_succ rfl))
       obtain ⟨vs11687, q11688, q11689, q11690⟩ := row_elem (pre := []) (sp := sp127) f11686 q11682
       obtain rfl := q11689
       obtain ⟨x11691, q11692, h⟩ := bind_some h
       obtain ⟨n11693, q11694, q11695⟩ := idx_some q11692
       have q11696 := (List.getElem?_eq_some_iff.1 q11695).1
       obtain ⟨vs11697, q11698, q11699, q11700⟩ := row_elem (pre := []) (sp := sp127) f11686 q11695
       obtain rfl := q11699
       obtain ⟨u11701, q11702, h⟩ := bind_some h
       have q11703 := chk_some q11702
       refine zcc 18 [] [] (fun W1 => [.det (osv (some b11284) 0 x11278.length m11277), .det (zac .i64 x11658), .det (osv ob124 0 r122.length cap125), .det (zac .i64 x11658), .det (zac .i64 (iw (x11658 + 1))), .det (zam (some ⟨b11684, (0 + n11680 * (rInt .u32).sz), none⟩)), .det (zac .u32 x11678), .det (zac .u64 (uw x11678)), .det (zac .u64 (bshl .u64 (uw x11678) 32)), .det (osv ob124 0 r122.length cap125), .det (zac .i64 x11658), .det (zam (some ⟨b11684, (0 + n11693 * (rInt .u32).sz), none⟩)), .det (zac .u32 x11691), .det (zac .u64 (uw x11691)), .det (zac .u64 (bor .u64 (bshl .u64 (uw x11678) 32) (uw x11691))), .det (zac .u64 (uw r115)), .det (zac .u64 (bshr .u64 (bor .u64 (bshl .u64 (uw x11678) 32) (uw x11691)) (uw r115))), .det (zac .u32 (uw32 (bshr .u64 (bor .u64 (bshl .u64 (uw x11678) 32) (uw x11691)) (uw r115))))]) mixed rfl rfl rfl (fun _ => rfl) (fun _ => rfl) ?_ ?_
       ·
        intro W1 _
        exact trivial
       ·
        intro w11704 hE11705
        have hL11706 := hL11675.ext hE11705
        have K11707 := ke hL11675 hE11705
        refine zau (fun _ _ => zat (zai rfl (er rfl))) ?_
        refine zau (fun _ _ => zat (zai rfl (er rfl))) ?_
        refine zau (fun _ _ => zat (zai rfl (er rfl))) ?_
        refine zau (fun _ _ => zat (zai rfl (er rfl))) ?_
        refine zau (fun _ _ => zat (zcd rfl rfl rfl (er rfl))) ?_
        refine zau (fun _ _ => zat (zci (r := (rInt .u32)) (b := b11684) (o := 0) (n := n11680) (m := r122.length) (xs := u7596) (q := (0 + n11680 * (rInt .u32).sz)) zao ti89 (osv_some hb11685) hl7599 rfl q11681 q11683 rfl (er rfl))) ?_
        refine zau (fun _ hE11746 => zat (zde zav rfl rfl (own_some hb11685 ((hL11706.ext hE11746).at 0 rfl rfl)) q11690 (er rfl))) ?_
        refine zau (fun _ _ => zat (zbp zav zbi rfl rfl (er rfl))) ?_
        refine zau (fun _ _ => zat (OpY.ishl rfl rfl (by decide) (er rfl))) ?_
        refine zau (fun _ _ => zat (zai rfl (er rfl))) ?_
        refine zau (fun _ _ => zat (zai rfl (er rfl))) ?_
        refine zau (fun _ _ => zat (zci (r := (rInt .u32)) (b := b11684) (o := 0) (n := n11693) (m := r122.length) (xs := u7596) (q := (0 + n11693 * (rInt .u32).sz)) zao ti89 (osv_some hb11685) hl7599 rfl q11694 q11696 rfl (er rfl))) ?_
        refine zau (fun _ hE11782 => zat (zde zav rfl rfl (own_some hb11685 ((hL11706.ext hE11782).at 0 rfl rfl)) q11700 (er rfl))) ?_
        refine zau (fun _ _ => zat (zbp zav zbi rfl rfl (er rfl))) ?_
        refine zau (fun _ _ => zat (OpY.ior rfl rfl (er rfl))) ?_
        refine zau (fun _ _ => zat (zai rfl (er rfl))) ?_
        refine zau (fun _ _ => zat (OpY.ishr rfl rfl q11703 (er rfl))) ?_
        refine zau (fun _ _ => zat (zbp zbi zav rfl rfl (er rfl))) ?_
        refine zcn ?_
        rintro w11816 Z11817 hE11818 hZ11819 ⟨-⟩ ap11820
        have hB11821 : ∀ b, some b ∈ ([] : List (Option Nat)) → w11704.heap.size ≤ b ∧ ¬ Z11817 b := by
         intro b hb; cases hb
        have hL11822 := hL11706.ext hE11818
        have K11823 := ke hL11706 hE11818
        obtain ⟨x11824, q11825, h⟩ := bind_some h
        obtain ⟨n11826, q11827, q11828⟩ := idx_some q11825
        have q11829 := (List.getElem?_eq_some_iff.1 q11828).1
        refine zaf (zci (r := (rInt .u32)) (b := b11284) (o := 0) (n := n11826) (m := x11278.length) (xs := x11654) (q := (0 + n11826 * (rInt .u32).sz)) zao ti89 rfl hl11657 rfl q11827 q11829 rfl ?_)
        obtain ⟨x11830, q11831, h⟩ := bind_some h
        obtain ⟨n11832, q11833, q11834, q11835⟩ := upd1_some q11831
        obtain rfl := Int.ofNat_inj.1 (q11827.symm.trans q11833)
        have f11836 := ((hE11655.mono (K11707 None)).mono (K11823 None))
        refine zcb (zdh (pre := []) (r := (rInt .u32)) (vs := [(zac .u32 (uw32 (bshr .u64 (bor .u64 (bshl .u64 (uw x11678) 32) (uw x11691)) (uw r115))))]) (a := (uw32 (bshr .u64 (bor .u64 (bshl .u64 (uw x11678) 32) (uw x11691)) (uw r115)))) ti89 rfl rfl rfl rfl hL11822 2 rfl rfl f11836 q11829 rfl q11835 ?_)
        have hl11844 : x11278.length = List.length x11830 := by rw [q11835, List.length_set]; exact hl11657
        intro w11837 cs11841 (hL11838 : vL w w11837 [ob124, some b248, some b11284] [zab ([] ++ (cs7595 ++ sp127)), zab ([] ++ (cs7601 ++ [])), zab ([] ++ (cs11841 ++ []))]) hS11840 hE11842 q11843
        have hc11845 : (cs11841 ++ []).length = m11277 * (rInt .u32).sz := by have := hc11656; rw [List.length_append] at this ⊢; rw [q11843]; exact this
        have K11839 := ks w hS11840
        refine zap (zbs (zah rfl (zaf (zcd (x := x11658) (y := 1) (z := (iw (x11658 + 1))) rfl rfl rfl ?_))))
        refine zaf (zai (v := (zac .i64 (iw (x11658 + 1)))) rfl ?_)
        refine zap ?_
        have f11846 := (hE11842.mono (K11839 None))
        obtain rfl := zag h
        refine zas ⟨(x11830, (iw (x11658 + 1))), rfl, ?_⟩
        exact ⟨cs11841, _, (upds_sym ⟨rfl, rfl, rfl, rfl, rfl, rfl, trivial⟩), hL11838, (zaq (zaq (zaq K11676 K11707) K11823) K11839), f11846, hl11844, hc11845, trivial⟩
      ·
       replace h := ite_f hc11677 h
       refine zcs rfl ?_
       have hp11847 := hL11675.pick [1, 2] rfl rfl rfl
       have hL11849 : vL w w11674 [some b248, some b11284] [zab ([] ++ (cs7601 ++ [])), zab ([] ++ (cs11653 ++ []))] := hp11847.1
       have K11848 := ks w hp11847.2
       have f11850 := (hE11655.mono (K11848 None))
       obtain rfl := zag h
       obtain rfl := hd11669 _ rfl
       replace h := g11667
       try dsimp only at h
       skip
       refine zas ?_
       exact ⟨x11654, cs11653, _, rfl, (upds_sym ⟨rfl, rfl, trivial⟩), hL11849, (zaq K11676 K11848), f11850, hl11657, hc11656, trivial⟩
     ·
      rintro _ w11851 ⟨x11662, cs11661, u, rfl, rfl, hL11852, K11853, hE11663, hl11665, hc11664, -⟩
      replace h := g11667
      try dsimp only at h
      refine zaj (zah rfl (zaf (zai (v := (osv (some b248) 0 x242.length m241)) rfl ?_)))
      obtain ⟨r11854, q11855, h⟩ := bind_some h
      have f11864 := ((hE7603.mono (K11291 None)).mono (K11853 None))
      refine zaf (zaw en83 rfl rfl (btrim_w N q7602 (osv (some b248) 0 x242.length m241) _ Any (own_row_any (pre := []) (o := 0) (n := x242.length) (cap := m241) (hL11852.at 0 rfl rfl) f11864 vw_any rfl rfl hl7605 hc7604) r11854 q11855) ?_)
      rintro _ w11865 hE11868 ⟨ob11856, cap11857, cs11858, sp11859, rfl, hN11863, hE11860, hc11861, -⟩
      replace hE11860 := hE11860.mono (zbc (S := None) hL11852 [ob11856])
      have hp11869 := hL11852.adoptL hE11868 hN11863
      have hL11866 := hp11869.1
      have K11867 := ks w hp11869.2
      refine zaf (zai (v := (osv (some b11284) 0 x11278.length m11277)) rfl ?_)
      obtain ⟨r11870, q11871, h⟩ := bind_some h
      have f11880 := (hE11663.mono (K11867 None))
      refine zaf (zaw en83 rfl rfl (btrim_w N x11662 (osv (some b11284) 0 x11278.length m11277) _ Any (own_row_any (pre := []) (o := 0) (n := x11278.length) (cap := m11277) (hL11866.at 2 rfl rfl) f11880 vw_any rfl rfl hl11665 hc11664) r11870 q11871) ?_)
      rintro _ w11881 hE11884 ⟨ob11872, cap11873, cs11874, sp11875, rfl, hN11879, hE11876, hc11877, -⟩
      replace hE11876 := hE11876.mono (zbc (S := None) hL11866 [ob11872])
      have hp11885 := hL11866.adoptL hE11884 hN11879
      have hL11882 := hp11885.1
      have K11883 := ks w hp11885.2
      refine zaf (zak (v := (osv ob11856 0 r11854.length cap11857)) rfl ?_)
      refine zaf (zak (v := (osv ob11872 0 r11870.length cap11873)) rfl ?_)
      refine zap (zbl ?_)
      obtain rfl := zag h
      refine ⟨[(osv ob11856 0 r11854.length cap11857), (osv ob11872 0 r11870.length cap11873)], ⟨rfl, rfl, trivial⟩, ⟨_, rfl, hL11882.done, ?_⟩⟩
      have f11886 := (hE11860.mono (K11883 None))
      exact ⟨ob11856, cap11857, cs11858, sp11859, ob11872, cap11873, cs11874, sp11875, rfl, (hL11882.newOwn [1, 0] rfl rfl rfl), (f11886.mono (Hv.pick [1, 0] rfl)), hc11861, (hE11876.mono (Hv.pick [1, 0] rfl)), hc11877, trivial⟩
theorem bOf_w (N : Nat) (n : Int)  (w : World) (S : Nat → Prop)  (r : Big) (h : bOf N n = some r) :
  Calls Try.prog 58 #[(zac .i64 n)] w (Ret w (fun v w' => ∃ (v0_0 : Value), (zan #[(zaa r.Negative), v0_0]) = v ∧ Rs (rInt .u32) (vH w None [] w') v0_0 r.Digits ∧ True)) := by
 unfold bOf at h
 have hL : vL w w [] [] := Go.X.Loc.begin0 w
 refine calls_of (l := [(zac .i64 n)]) (rl := [.cell 2 26]) (n := 19) Try.func58 rfl rfl rfl (zae rfl) ?_
 refine zaj (zah rfl (zaf (zbw (cs := [(zaa false), (zad none 0 0)]) ti26 rfl hL ?_)))
 intro b1 w2 hL3 hS5
 refine zap (zaj (zah rfl (zaf (zai (v := (zac .i64 n)) rfl ?_))))
 refine zaf (zbp (x := n) (z := (uw n)) Try.underlying2 zbi rfl rfl ?_)
 refine zaf (zak (v := (zac .u64 (uw n))) rfl ?_)
 refine zap (zaj (zaj (zah rfl (zaf (zai (v := (zac .i64 n)) rfl ?_)))))
 refine zaf (zcr (x := n) (y := 0) ((n : Int) < 0) rfl rfl zbk ?_)
 refine zap ?_
 obtain ⟨s9, h, g10⟩ := bind_some h
 refine zbr (fun e w' => ∃ (u8 : Int) (u : Env), u8 = s9 ∧ e = upds [(0, (zac .i64 n)), (2, (zam (some ⟨b1, 0, none⟩))), (3, (zac .u64 u8))] u ∧ vL w w' [some b1] [zab [(zaa false), (zad none 0 0)]] ∧ Keep w.heap.size [some b1] w2 [some b1] w' ∧ True) ?_ ?_
 ·
  refine zbe ((n : Int) < 0) rfl (fun hc11 => ?_) (fun hc11 => ?_)
  ·
   replace h := ite_t hc11 h
   refine zah rfl (zaf (zai (v := (zac .u64 (uw n))) rfl ?_))
   refine zaf (OpY.neg (x := (uw n)) (z := (uw (0 - (uw n)))) rfl rfl ?_)
   refine zaf (zak (v := (zac .u64 (uw (0 - (uw n))))) rfl ?_)
   refine zap ?_
   obtain rfl := zag h
   refine zas ?_
   exact ⟨(uw (0 - (uw n))), _, rfl, (upds_sym ⟨rfl, rfl, rfl, trivial⟩), hL3, zbo, trivial⟩
  ·
   replace h := ite_f hc11 h
   refine zbg ?_
   obtain rfl := zag h
   refine zas ?_
   exact ⟨(uw n), _, rfl, (upds_sym ⟨rfl, rfl, rfl, trivial⟩), hL3, zbo, trivial⟩
 ·
  rintro _ w12 ⟨u8, u, rfl, rfl, hL13, K14, -⟩
  replace h := g10
  try dsimp only at h
  refine zaj (zah rfl (zaf (zai (v := (zac .i64 n)) rfl ?_)))
  refine zaf (zcr (x := n) (y := 0) ((n : Int) < 0) rfl rfl zbk ?_)
  refine zaf (zai (v := (zac .u64 u8)) rfl ?_)
  refine zaf (zbp (x := u8) (z := (uw32 u8)) zbi zav rfl rfl ?_)
  refine zaf (zai (v := (zac .u64 u8)) rfl ?_)
  refine zaf (OpY.ishr (x := u8) (y := 32) rfl rfl (by decide) ?_)
  refine zaf (zbp (x := (bshr .u64 u8 32)) (z := (uw32 (bshr .u64 u8 32))) zbi zav rfl rfl ?_)
  have hE16 : Els (rInt .u32) (vH w None [some b1] w12) [(zac .u32 (uw32 u8)), (zac .u32 (uw32 (bshr .u64 u8 32)))] [(uw32 u8), (uw32 (bshr .u64 u8 32))] := (zco (a := [(zac .u32 (uw32 u8))]) rfl (zco (a := [(zac .u32 (uw32 (bshr .u64 u8 32)))]) rfl zct))
  refine zaf (zcp (r := (rInt .u32)) (vs := [(zac .u32 (uw32 u8)), (zac .u32 (uw32 (bshr .u64 u8 32)))]) (css := [[(zac .u32 (uw32 u8))], [(zac .u32 (uw32 (bshr .u64 u8 32)))]]) (xs := [(uw32 u8), (uw32 (bshr .u64 u8 32))]) zao ti89 (zae rfl) rfl rfl ⟨rfl, rfl, ⟨rfl, rfl, trivial⟩⟩ (zae rfl) hE16 rfl hL13 ?_)
  intro b15 w19 hc17 hL20 hS22
  have K21 := ks w hS22
  obtain ⟨r23, q24, h⟩ := bind_some h
  have f28 := (hE16.mono (K21 None))
  refine zaf (zaw en73 rfl rfl (bnormal_w N (decide ((n : Int) < 0)) [(uw32 u8), (uw32 (bshr .u64 u8 32))] (osv (some b15) 0 2 2) _ Any (own_row_any (pre := []) (o := 0) (n := 2) (cap := 2) (hL20.at 0 rfl rfl) f28 vw_any rfl rfl rfl hc17) r23 q24) ?_)
  rintro _ w29 hE32 ⟨v25, rfl, k26, -⟩
  replace k26 := k26.mono (zbc (S := None) hL20 [])
  have hL30 := hL20.ext hE32
  refine zcb (zbh (vs := [(zaa r23.Negative), v25]) ti26 rfl rfl rfl rfl (ones_cons rfl (ones_cons k26.one ones_nil)) hL30 1 rfl rfl (zae rfl) ?_)
  intro w33 (hL34 : vL w w33 [some b15, some b1] [zab ([] ++ ([(zac .u32 (uw32 u8)), (zac .u32 (uw32 (bshr .u64 u8 32)))] ++ [])), zab [(zaa r23.Negative), v25]]) hS36
  have K35 := ks w hS36
  refine zap (zbl ?_)
  obtain rfl := zag h
  refine ⟨[(zan #[(zaa r23.Negative), v25])], ⟨⟨⟨b1, 0, none⟩, rfl, res_boxA zal rfl ti26 (hL34.at 1 rfl rfl) rfl⟩, trivial⟩, ⟨_, rfl, hL34.done, ?_⟩⟩
  have f37 := (k26.mono (K35 None))
  exact ⟨v25, rfl, (f37.mono zdf), trivial⟩
theorem bNormal_w (N : Nat) (x : Big) (x_v : Value) (w : World) (S : Nat → Prop) (x_h : Rs (rInt .u32) (vH w S [] w) x_v x.Digits) (r : Big) (h : bNormal N x = some r) :
  Calls Try.prog 63 #[(zan #[(zaa x.Negative), x_v])] w (Ret w (fun v w' => ∃ (v0_0 : Value), (zan #[(zaa r.Negative), v0_0]) = v ∧ Rs (rInt .u32) (vH w None [] w') v0_0 r.Digits ∧ True)) := by
 unfold bNormal at h
 have hL : vL w w [] [] := Go.X.Loc.begin0 w
 refine calls_of (l := [(zan #[(zaa x.Negative), x_v])]) (rl := [.cell 2 26]) (n := 8) Try.func63 rfl rfl rfl (zae rfl) ?_
 refine zaj (zah rfl (zaf (zdc (cs := [(zaa x.Negative), x_v]) rfl rfl hL ?_)))
 intro b1 w2 hL3 hS5
 have K4 := ks w hS5
 refine zaf (zbw (cs := [(zaa false), (zad none 0 0)]) ti26 rfl hL3 ?_)
 intro b6 w7 hL8 hS10
 have K9 := ks w hS10
 refine zap (zaj (zah rfl (zaf (zar (q := 0) zal rfl ti4 rfl rfl rfl ?_))))
 refine zaf (zbb (v := (zaa x.Negative)) zbn rfl rfl (hL8.at 1 rfl rfl) rfl ?_)
 refine zaf (zar (q := 1) zal rfl ti24 rfl rfl rfl ?_)
 refine zaf (zbb (v := x_v) zao rfl rfl (hL8.at 1 rfl rfl) rfl ?_)
 obtain ⟨r11, q12, h⟩ := bind_some h
 have f16 := ((x_h.mono (K4 S)).mono (K9 S))
 refine zaf (zaw en73 rfl rfl (bnormal_w N x.Negative x.Digits x_v _ Any (f16.mono vw_any) r11 q12) ?_)
 rintro _ w17 hE20 ⟨v13, rfl, k14, -⟩
 replace k14 := k14.mono (zbc (S := None) hL8 [])
 have hL18 := hL8.ext hE20
 refine zcb (zbh (vs := [(zaa r11.Negative), v13]) ti26 rfl rfl rfl rfl (ones_cons rfl (ones_cons k14.one ones_nil)) hL18 0 rfl rfl (zae rfl) ?_)
 intro w21 (hL22 : vL w w21 [some b6, some b1] [zab [(zaa r11.Negative), v13], zab [(zaa x.Negative), x_v]]) hS24
 have K23 := ks w hS24
 refine zap (zbl ?_)
 obtain rfl := zag h
 refine ⟨[(zan #[(zaa r11.Negative), v13])], ⟨⟨⟨b6, 0, none⟩, rfl, res_boxA zal rfl ti26 (hL22.at 0 rfl rfl) rfl⟩, trivial⟩, ⟨_, rfl, hL22.done, ?_⟩⟩
 have f25 := (k14.mono (K23 None))
 exact ⟨v13, rfl, (f25.mono zdf), trivial⟩
theorem bSign_w (N : Nat) (x : Big) (x_v : Value) (w : World) (S : Nat → Prop) (x_h : Rs (rInt .u32) (vH w S [] w) x_v x.Digits) (r : Int) (h : bSign N x = some r) :
  Calls Try.prog 45 #[(zan #[(zaa x.Negative), x_v])] w (Ret w (fun v w' => (zac .i64 r) = v ∧ True)) := by
 unfold bSign at h
 have hL : vL w w [] [] := Go.X.Loc.begin0 w
 refine calls_of (l := [(zan #[(zaa x.Negative), x_v])]) (rl := [.tmp 2]) (n := 13) Try.func45 rfl rfl rfl (zae rfl) ?_
 refine zaj (zah rfl (zaf (zdc (cs := [(zaa x.Negative), x_v]) rfl rfl hL ?_)))
 intro b1 w2 hL3 hS5
 have K4 := ks w hS5
 refine zaf (zak (v := (zac .i64 0)) rfl ?_)
 refine zap (zaj (zah rfl (zaf (zbd (vs := [(zaa x.Negative), x_v]) zal rfl ti26 rfl (hL3.at 0 rfl rfl) rfl rfl ?_))))
 obtain ⟨r6, q7, h⟩ := bind_some h
 have f11 := (x_h.mono (K4 S))
 refine zaf (zaw en63 rfl rfl (bNormal_w N x x_v _ Any (f11.mono vw_any) r6 q7) ?_)
 rintro _ w12 hE15 ⟨v8, rfl, k9, -⟩
 replace k9 := k9.mono (zbc (S := None) hL3 [])
 have hL13 := hL3.ext hE15
 refine zcb (zbh (vs := [(zaa r6.Negative), v8]) ti26 rfl rfl rfl rfl (ones_cons rfl (ones_cons k9.one ones_nil)) hL13 0 rfl rfl (zae rfl) ?_)
 intro w16 (hL17 : vL w w16 [some b1] [zab [(zaa r6.Negative), v8]]) hS19
 have K18 := ks w hS19
 refine zap (zaj (zbj (zaj (zah rfl (zaf (zar (q := 1) zal rfl ti24 rfl rfl rfl ?_))))))
 refine zaf (zbb (v := v8) zao rfl rfl (hL17.at 0 rfl rfl) rfl ?_)
 have f20 := (k9.mono (K18 None))
 refine zaf (zbf (v := v8) zao rfl f20 ?_)
 refine zaf (OpY.eql (x := (r6.Digits.length : Int)) (y := 0) (((r6.Digits.length : Int) : Int) = 0) rfl rfl zbk ?_)
 refine zaf (zak (v := (zaa (decide (((r6.Digits.length : Int) : Int) = 0)))) rfl ?_)
 refine zap ?_
 refine zbe (((r6.Digits.length : Int) : Int) = 0) rfl (fun hc21 => ?_) (fun hc21 => ?_)
 ·
  replace h := ite_t hc21 h
  refine zaj (zah rfl (zaf (zak (v := (zac .i64 0)) rfl ?_)))
  refine zap (zbl ?_)
  obtain rfl := zag h
  refine ⟨[(zac .i64 0)], ⟨rfl, trivial⟩, ⟨_, rfl, hL17.done, ?_⟩⟩
  exact ⟨rfl, trivial⟩
 ·
  replace h := ite_f hc21 h
  refine zaj (zah rfl (zaf (zar (q := 0) zal rfl ti4 rfl rfl rfl ?_)))
  refine zaf (zbb (v := (zaa r6.Negative)) zbn rfl rfl (hL17.at 0 rfl rfl) rfl ?_)
  refine zaf (zak (v := (zaa r6.Negative)) rfl ?_)
  refine zap ?_
  refine zcu r6.Negative rfl (fun hc22 => ?_) (fun hc22 => ?_)
  ·
   replace h := ite_t hc22 h
   refine zaj (zah rfl (zaf (zak (v := (zac .i64 (-1))) rfl ?_)))
   refine zap (zbl ?_)
   obtain rfl := zag h
   refine ⟨[(zac .i64 (-1))], ⟨rfl, trivial⟩, ⟨_, rfl, hL17.done, ?_⟩⟩
   exact ⟨rfl, trivial⟩
  ·
   replace h := ite_f hc22 h
   refine zbg (zbs (zaj (zah rfl (zaf (zak (v := (zac .i64 1)) rfl ?_)))))
   refine zap (zbl ?_)
   obtain rfl := zag h
   refine ⟨[(zac .i64 1)], ⟨rfl, trivial⟩, ⟨_, rfl, hL17.done, ?_⟩⟩
   exact ⟨rfl, trivial⟩
theorem bNeg_w (N : Nat) (x : Big) (x_v : Value) (w : World) (S : Nat → Prop) (x_h : Rs (rInt .u32) (vH w S [] w) x_v x.Digits) (r : Big) (h : bNeg N x = some r) :
  Calls Try.prog 57 #[(zan #[(zaa x.Negative), x_v])] w (Ret w (fun v w' => ∃ (v0_0 : Value), (zan #[(zaa r.Negative), v0_0]) = v ∧ Rs (rInt .u32) (vH w None [] w') v0_0 r.Digits ∧ True)) := by
 unfold bNeg at h
 have hL : vL w w [] [] := Go.X.Loc.begin0 w
 refine calls_of (l := [(zan #[(zaa x.Negative), x_v])]) (rl := [.cell 2 26]) (n := 9) Try.func57 rfl rfl rfl (zae rfl) ?_
 refine zaj (zah rfl (zaf (zdc (cs := [(zaa x.Negative), x_v]) rfl rfl hL ?_)))
 intro b1 w2 hL3 hS5
 have K4 := ks w hS5
 refine zaf (zbw (cs := [(zaa false), (zad none 0 0)]) ti26 rfl hL3 ?_)
 intro b6 w7 hL8 hS10
 have K9 := ks w hS10
 refine zap (zaj (zah rfl (zaf (zar (q := 0) zal rfl ti4 rfl rfl rfl ?_))))
 refine zaf (zbb (v := (zaa x.Negative)) zbn rfl rfl (hL8.at 1 rfl rfl) rfl ?_)
 refine zaf (OpY.not (x := x.Negative) rfl ?_)
 refine zaf (zar (q := 1) zal rfl ti24 rfl rfl rfl ?_)
 refine zaf (zbb (v := x_v) zao rfl rfl (hL8.at 1 rfl rfl) rfl ?_)
 obtain ⟨r11, q12, h⟩ := bind_some h
 have f16 := ((x_h.mono (K4 S)).mono (K9 S))
 refine zaf (zaw en73 rfl rfl (bnormal_w N (!x.Negative) x.Digits x_v _ Any (f16.mono vw_any) r11 q12) ?_)
 rintro _ w17 hE20 ⟨v13, rfl, k14, -⟩
 replace k14 := k14.mono (zbc (S := None) hL8 [])
 have hL18 := hL8.ext hE20
 refine zcb (zbh (vs := [(zaa r11.Negative), v13]) ti26 rfl rfl rfl rfl (ones_cons rfl (ones_cons k14.one ones_nil)) hL18 0 rfl rfl (zae rfl) ?_)
 intro w21 (hL22 : vL w w21 [some b6, some b1] [zab [(zaa r11.Negative), v13], zab [(zaa x.Negative), x_v]]) hS24
 have K23 := ks w hS24
 refine zap (zbl ?_)
 obtain rfl := zag h
 refine ⟨[(zan #[(zaa r11.Negative), v13])], ⟨⟨⟨b6, 0, none⟩, rfl, res_boxA zal rfl ti26 (hL22.at 0 rfl rfl) rfl⟩, trivial⟩, ⟨_, rfl, hL22.done, ?_⟩⟩
 have f25 := (k14.mono (K23 None))
 exact ⟨v13, rfl, (f25.mono zdf), trivial⟩
theorem bAdd_w (N : Nat) (a : Big) (b : Big) (a_v : Value) (b_v : Value) (w : World) (S : Nat → Prop) (a_h : Rs (rInt .u32) (vH w S [] w) a_v a.Digits) (b_h : Rs (rInt .u32) (vH w S [] w) b_v b.Digits) (r : Big) (h : bAdd N a b = some r) :
  Calls Try.prog 46 #[(zan #[(zaa a.Negative), a_v]), (zan #[(zaa b.Negative), b_v])] w (Ret w (fun v w' => ∃ (v0_0 : Value), (zan #[(zaa r.Negative), v0_0]) = v ∧ Rs (rInt .u32) (vH w None [] w') v0_0 r.Digits ∧ True)) := by
 unfold bAdd at h
 have hL : vL w w [] [] := Go.X.Loc.begin0 w
 refine calls_of (l := [(zan #[(zaa a.Negative), a_v]), (zan #[(zaa b.Negative), b_v])]) (rl := [.cell 4 26]) (n := 44) Try.func46 rfl rfl rfl (zae rfl) ?_
 refine zaj (zah rfl (zaf (zdc (cs := [(zaa a.Negative), a_v]) rfl rfl hL ?_)))
 intro b1 w2 hL3 hS5
 have K4 := ks w hS5
 refine zaf (zdc (cs := [(zaa b.Negative), b_v]) rfl rfl hL3 ?_)
 intro b6 w7 hL8 hS10
 have K9 := ks w hS10
 refine zaf (zbw (cs := [(zaa false), (zad none 0 0)]) ti26 rfl hL8 ?_)
 intro b11 w12 hL13 hS15
 have K14 := ks w hS15
 refine zap (zaj ?_)
 obtain ⟨r16, q17, h⟩ := bind_some h
 refine zcc 3 [] [] (fun W1 => [.det (zan #[(zaa a.Negative), a_v]), .rel (fun v Z w' => ∃ v18, (zan #[(zaa r16.Negative), v18]) = v ∧ Rs (rInt .u32) (vZ W1 w None [some b11, some b6, some b1] Z w') v18 r16.Digits ∧ True) (fun _ => []), .det (zan #[(zaa b.Negative), b_v])]) mixed rfl rfl rfl (fun _ => rfl) (fun _ => rfl) ?_ ?_
 ·
  intro W1 _
  exact ⟨fun v Z Z' w w' hΦ hz _ _ hs => by obtain ⟨v18, rfl, k19, -⟩ := hΦ; exact ⟨v18, rfl, (k19.mono (zcl hz hs)), trivial⟩, trivial⟩
 ·
  intro w21 hE22
  have hL23 := hL13.ext hE22
  have K24 := ke hL13 hE22
  refine zau (fun _ hE27 => zat (zbd (vs := [(zaa a.Negative), a_v]) zal rfl ti26 rfl ((hL23.ext hE27).at 2 rfl rfl) rfl rfl (er rfl))) ?_
  refine zcq ?_ ?_
  ·
   rintro w31 Z32 hE33 hZ34 ⟨-⟩
   have K36 := ke hL23 hE33
   refine zat (zaw en63 rfl rfl (bNormal_w N a a_v _ Any ((((((a_h.mono (K4 S)).mono (K9 S)).mono (K14 S)).mono (K24 S)).mono (K36 S)).mono vw_any) r16 q17) ?_)
   rintro _ w37 hE38 ⟨v18, rfl, k19, -⟩
   exact zcj hE38 hZ34 zca (fun _ h => h) ⟨v18, rfl, (k19.mono zda), trivial⟩
  intro z1
  refine zau (fun _ hE41 => zat (zbd (vs := [(zaa b.Negative), b_v]) zal rfl ti26 rfl ((hL23.ext hE41).at 1 rfl rfl) rfl rfl (er rfl))) ?_
  refine zcn ?_
  rintro w45 Z46 hE47 hZ48 ⟨⟨⟨v18, rfl, k19, -⟩, hB1⟩, -⟩ ap49
  have hB50 : ∀ b, some b ∈ ([] : List (Option Nat)) → w21.heap.size ≤ b ∧ ¬ Z46 b := by
   intro b hb; cases hb
  replace k19 := k19.mono (zcy hL23 hZ48 hB50)
  have hL51 := hL23.ext hE47
  have K52 := ke hL23 hE47
  obtain ⟨r53, q54, h⟩ := bind_some h
  have f58 := (((((b_h.mono (K4 S)).mono (K9 S)).mono (K14 S)).mono (K24 S)).mono (K52 S))
  refine zaf (zaw en63 rfl rfl (bNormal_w N b b_v _ Any (f58.mono vw_any) r53 q54) ?_)
  rintro _ w59 hE62 ⟨v55, rfl, k56, -⟩
  replace k56 := k56.mono (zbc (S := None) hL51 [])
  have hL60 := hL51.ext hE62
  have K61 := ke hL51 hE62
  have f63 := (k19.mono (K61 None))
  refine zcb (zbh (vs := [(zaa r16.Negative), v18]) ti26 rfl rfl rfl rfl (ones_cons rfl (ones_cons f63.one ones_nil)) hL60 2 rfl rfl (zae rfl) ?_)
  intro w64 (hL65 : vL w w64 [some b11, some b6, some b1] [zab [(zaa false), (zad none 0 0)], zab [(zaa b.Negative), b_v], zab [(zaa r16.Negative), v18]]) hS67
  have K66 := ks w hS67
  have f68 := (k56.mono (K66 None))
  refine zcb (zbh (vs := [(zaa r53.Negative), v55]) ti26 rfl rfl rfl rfl (ones_cons rfl (ones_cons f68.one ones_nil)) hL65 1 rfl rfl (zae rfl) ?_)
  intro w69 (hL70 : vL w w69 [some b11, some b6, some b1] [zab [(zaa false), (zad none 0 0)], zab [(zaa r53.Negative), v55], zab [(zaa r16.Negative), v18]]) hS72
  have K71 := ks w hS72
  refine zap (zaj (zaj (zah rfl (zaf (zar (q := 0) zal rfl ti4 rfl rfl rfl ?_)))))
  refine zaf (zbb (v := (zaa r16.Negative)) zbn rfl rfl (hL70.at 2 rfl rfl) rfl ?_)
  refine zaf (zar (q := 0) zal rfl ti4 rfl rfl rfl ?_)
  refine zaf (zbb (v := (zaa r53.Negative)) zbn rfl rfl (hL70.at 1 rfl rfl) rfl ?_)
  refine zaf (OpY.eqlBool (x := r16.Negative) (y := r53.Negative) zbn rfl rfl ?_)
  refine zap ?_
  refine zcu (r16.Negative == r53.Negative) rfl (fun hc73 => ?_) (fun hc73 => ?_)
  ·
   replace h := ite_t hc73 h
   refine zaj ?_
   obtain ⟨r74, q75, h⟩ := bind_some h
   refine zcc 7 [] [] (fun W1 => [.det (zam (some ⟨b1, 0, none⟩)), .det (zaa r16.Negative), .det (zam (some ⟨b1, 1, none⟩)), .det v18, .det (zam (some ⟨b6, 1, none⟩)), .det v55, .rel (fun v Z w' => ∃ ob76 cap77 cs78 sp79, (osv ob76 0 r74.length cap77) = v ∧ OwnC w' ob76 (zab ([] ++ (cs78 ++ sp79))) ∧ Els (rInt .u32) (vZ W1 w None [some b11, some b6, some b1] Z w') cs78 r74 ∧ (cs78 ++ sp79 : List Value).length = cap77 * (rInt .u32).sz ∧ True) footV]) mixed rfl rfl rfl (fun _ => rfl) (fun _ => rfl) ?_ ?_
   ·
    intro W1 _
    exact ⟨fun v Z Z' w w' hΦ hz _ _ hs => by obtain ⟨ob76, cap77, cs78, sp79, rfl, hO84, hE80, hc81, -⟩ := hΦ; exact ⟨ob76, cap77, cs78, sp79, rfl, (hO84.stay (fun b hb => (footV_osv (ob := ob76) (o := 0) (n := r74.length) (cap := cap77)).2 (by rw [hb]; exact zay)) hs), (hE80.mono (zcl hz hs)), hc81, trivial⟩, trivial⟩
   ·
    intro w85 hE86
    have hL87 := hL70.ext hE86
    have K88 := ke hL70 hE86
    refine zau (fun _ _ => zat (zar zal rfl ti4 rfl rfl rfl (er rfl))) ?_
    refine zau (fun _ hE97 => zat (zbb zbn rfl rfl ((hL87.ext hE97).at 2 rfl rfl) rfl (er rfl))) ?_
    refine zau (fun _ _ => zat (zar zal rfl ti24 rfl rfl rfl (er rfl))) ?_
    refine zau (fun _ hE109 => zat (zbb zao rfl rfl ((hL87.ext hE109).at 2 rfl rfl) rfl (er rfl))) ?_
    refine zau (fun _ _ => zat (zar zal rfl ti24 rfl rfl rfl (er rfl))) ?_
    refine zau (fun _ hE121 => zat (zbb zao rfl rfl ((hL87.ext hE121).at 1 rfl rfl) rfl (er rfl))) ?_
    refine zcq ?_ ?_
    ·
     rintro w125 Z126 hE127 hZ128 ⟨-⟩
     have K130 := ke hL87 hE127
     refine zat (zaw en74 rfl rfl (bplus_w N r16.Digits r53.Digits v18 v55 _ Any (((((f63.mono (K66 None)).mono (K71 None)).mono (K88 None)).mono (K130 None)).mono vw_any) ((((f68.mono (K71 None)).mono (K88 None)).mono (K130 None)).mono vw_any) r74 q75) ?_)
     rintro _ w131 hE132 ⟨ob76, cap77, cs78, sp79, rfl, hN83, hE80, hc81, -⟩
     exact zcj hE132 hZ128 hN83 (fun b hb => footV_osv.1 hb) ⟨ob76, cap77, cs78, sp79, rfl, hN83.2.2.1, (hE80.mono zda), hc81, trivial⟩
    intro z6
    refine zcn ?_
    rintro w133 Z134 hE135 hZ136 ⟨⟨⟨ob76, cap77, cs78, sp79, rfl, hO84, hE80, hc81, -⟩, hB6⟩, -⟩ ap137
    have hB138 : ∀ b, some b ∈ ([ob76] : List (Option Nat)) → w85.heap.size ≤ b ∧ ¬ Z134 b := by
     intro b hb
     rcases List.mem_cons.1 hb with hb' | hb
     ·
      have := hB6 b ((footV_osv (ob := ob76) (o := 0) (n := r74.length) (cap := cap77)).2 (by rw [hb']; exact zay)); exact ⟨this.1, this.2.2⟩
     cases hb
    replace hE80 := hE80.mono (zcy hL87 hZ136 hB138)
    have hN141 : NewOwn w85 w133 [ob76] [zab ([] ++ (cs78 ++ sp79))] := (zdb zca hO84 (fun b hb => (hB138 b (by rw [← hb]; simp)).1) (fun b _ hb => by cases hb))
    have hp142 := hL87.adoptL hE135 hN141
    have hL139 := hp142.1
    obtain ⟨r143, q144, h⟩ := bind_some h
    refine zaf (zaw en73 rfl rfl (bnormal_w N r16.Negative r74 (osv ob76 0 r74.length cap77) _ Any (own_row_any (pre := []) (o := 0) (n := r74.length) (cap := cap77) (hL139.at 0 rfl rfl) hE80 vw_any rfl rfl rfl hc81) r143 q144) ?_)
    rintro _ w148 hE151 ⟨v145, rfl, k146, -⟩
    replace k146 := k146.mono (zbc (S := None) hL139 [])
    have hL149 := hL139.ext hE151
    refine zcb (zbh (vs := [(zaa r143.Negative), v145]) ti26 rfl rfl rfl rfl (ones_cons rfl (ones_cons k146.one ones_nil)) hL149 1 rfl rfl (zae rfl) ?_)
    intro w152 (hL153 : vL w w152 [ob76, some b11, some b6, some b1] [zab ([] ++ (cs78 ++ sp79)), zab [(zaa r143.Negative), v145], zab [(zaa r53.Negative), v55], zab [(zaa r16.Negative), v18]]) hS155
    have K154 := ks w hS155
    refine zap (zbl ?_)
    obtain rfl := zag h
    refine ⟨[(zan #[(zaa r143.Negative), v145])], ⟨⟨⟨b11, 0, none⟩, rfl, res_boxA zal rfl ti26 (hL153.at 1 rfl rfl) rfl⟩, trivial⟩, ⟨_, rfl, hL153.done, ?_⟩⟩
    have f156 := (k146.mono (K154 None))
    exact ⟨v145, rfl, (f156.mono zdf), trivial⟩
  ·
   replace h := ite_f hc73 h
   refine zbg (zaj (zaj (zah rfl (zaf (zar (q := 1) zal rfl ti24 rfl rfl rfl ?_)))))
   refine zaf (zbb (v := v18) zao rfl rfl (hL70.at 2 rfl rfl) rfl ?_)
   refine zaf (zar (q := 1) zal rfl ti24 rfl rfl rfl ?_)
   refine zaf (zbb (v := v55) zao rfl rfl (hL70.at 1 rfl rfl) rfl ?_)
   obtain ⟨r157, q158, h⟩ := bind_some h
   have f160 := ((f63.mono (K66 None)).mono (K71 None))
   have f161 := (f68.mono (K71 None))
   refine zaf (zaw en75 rfl rfl (bcompare_w N r16.Digits r53.Digits v18 v55 _ Any (f160.mono vw_any) (f161.mono vw_any) r157 q158) ?_)
   rintro _ w162 hE165 ⟨rfl, -⟩
   have hL163 := hL70.ext hE165
   have K164 := ke hL70 hE165
   refine zaf (zcr (x := r157) (y := 0) ((r157 : Int) < 0) rfl rfl zbk ?_)
   refine zap ?_
   refine zbe ((r157 : Int) < 0) rfl (fun hc166 => ?_) (fun hc166 => ?_)
   ·
    replace h := ite_t hc166 h
    refine zaj ?_
    obtain ⟨r167, q168, h⟩ := bind_some h
    refine zcc 7 [] [] (fun W1 => [.det (zam (some ⟨b6, 0, none⟩)), .det (zaa r53.Negative), .det (zam (some ⟨b6, 1, none⟩)), .det v55, .det (zam (some ⟨b1, 1, none⟩)), .det v18, .rel (fun v Z w' => ∃ ob169 cap170 cs171 sp172, (osv ob169 0 r167.length cap170) = v ∧ OwnC w' ob169 (zab ([] ++ (cs171 ++ sp172))) ∧ Els (rInt .u32) (vZ W1 w None [some b11, some b6, some b1] Z w') cs171 r167 ∧ (cs171 ++ sp172 : List Value).length = cap170 * (rInt .u32).sz ∧ True) footV]) mixed rfl rfl rfl (fun _ => rfl) (fun _ => rfl) ?_ ?_
    ·
     intro W1 _
     exact ⟨fun v Z Z' w w' hΦ hz _ _ hs => by obtain ⟨ob169, cap170, cs171, sp172, rfl, hO177, hE173, hc174, -⟩ := hΦ; exact ⟨ob169, cap170, cs171, sp172, rfl, (hO177.stay (fun b hb => (footV_osv (ob := ob169) (o := 0) (n := r167.length) (cap := cap170)).2 (by rw [hb]; exact zay)) hs), (hE173.mono (zcl hz hs)), hc174, trivial⟩, trivial⟩
    ·
     intro w178 hE179
     have hL180 := hL163.ext hE179
     have K181 := ke hL163 hE179
     refine zau (fun _ _ => zat (zar zal rfl ti4 rfl rfl rfl (er rfl))) ?_
     refine zau (fun _ hE190 => zat (zbb zbn rfl rfl ((hL180.ext hE190).at 1 rfl rfl) rfl (er rfl))) ?_
     refine zau (fun _ _ => zat (zar zal rfl ti24 rfl rfl rfl (er rfl))) ?_
     refine zau (fun _ hE202 => zat (zbb zao rfl rfl ((hL180.ext hE202).at 1 rfl rfl) rfl (er rfl))) ?_
     refine zau (fun _ _ => zat (zar zal rfl ti24 rfl rfl rfl (er rfl))) ?_
     refine zau (fun _ hE214 => zat (zbb zao rfl rfl ((hL180.ext hE214).at 2 rfl rfl) rfl (er rfl))) ?_
     refine zcq ?_ ?_
     ·
      rintro w218 Z219 hE220 hZ221 ⟨-⟩
      have K223 := ke hL180 hE220
      refine zat (zaw en76 rfl rfl (bminus_w N r53.Digits r16.Digits v55 v18 _ Any ((((f161.mono (K164 None)).mono (K181 None)).mono (K223 None)).mono vw_any) ((((f160.mono (K164 None)).mono (K181 None)).mono (K223 None)).mono vw_any) r167 q168) ?_)
      rintro _ w224 hE225 ⟨ob169, cap170, cs171, sp172, rfl, hN176, hE173, hc174, -⟩
      exact zcj hE225 hZ221 hN176 (fun b hb => footV_osv.1 hb) ⟨ob169, cap170, cs171, sp172, rfl, hN176.2.2.1, (hE173.mono zda), hc174, trivial⟩
     intro z6
     refine zcn ?_
     rintro w226 Z227 hE228 hZ229 ⟨⟨⟨ob169, cap170, cs171, sp172, rfl, hO177, hE173, hc174, -⟩, hB6⟩, -⟩ ap230
     have hB231 : ∀ b, some b ∈ ([ob169] : List (Option Nat)) → w178.heap.size ≤ b ∧ ¬ Z227 b := by
      intro b hb
      rcases List.mem_cons.1 hb with hb' | hb
      ·
       have := hB6 b ((footV_osv (ob := ob169) (o := 0) (n := r167.length) (cap := cap170)).2 (by rw [hb']; exact zay)); exact ⟨this.1, this.2.2⟩
      cases hb
     replace hE173 := hE173.mono (zcy hL180 hZ229 hB231)
     have hN234 : NewOwn w178 w226 [ob169] [zab ([] ++ (cs171 ++ sp172))] := (zdb zca hO177 (fun b hb => (hB231 b (by rw [← hb]; simp)).1) (fun b _ hb => by cases hb))
     have hp235 := hL180.adoptL hE228 hN234
     have hL232 := hp235.1
     obtain ⟨r236, q237, h⟩ := bind_some h
     refine zaf (zaw en73 rfl rfl (bnormal_w N r53.Negative r167 (osv ob169 0 r167.length cap170) _ Any (own_row_any (pre := []) (o := 0) (n := r167.length) (cap := cap170) (hL232.at 0 rfl rfl) hE173 vw_any rfl rfl rfl hc174) r236 q237) ?_)
     rintro _ w241 hE244 ⟨v238, rfl, k239, -⟩
     replace k239 := k239.mono (zbc (S := None) hL232 [])
     have hL242 := hL232.ext hE244
     refine zcb (zbh (vs := [(zaa r236.Negative), v238]) ti26 rfl rfl rfl rfl (ones_cons rfl (ones_cons k239.one ones_nil)) hL242 1 rfl rfl (zae rfl) ?_)
     intro w245 (hL246 : vL w w245 [ob169, some b11, some b6, some b1] [zab ([] ++ (cs171 ++ sp172)), zab [(zaa r236.Negative), v238], zab [(zaa r53.Negative), v55], zab [(zaa r16.Negative), v18]]) hS248
     have K247 := ks w hS248
     refine zap (zbl ?_)
     obtain rfl := zag h
     refine ⟨[(zan #[(zaa r236.Negative), v238])], ⟨⟨⟨b11, 0, none⟩, rfl, res_boxA zal rfl ti26 (hL246.at 1 rfl rfl) rfl⟩, trivial⟩, ⟨_, rfl, hL246.done, ?_⟩⟩
     have f249 := (k239.mono (K247 None))
     exact ⟨v238, rfl, (f249.mono zdf), trivial⟩
   ·
    replace h := ite_f hc166 h
    refine zbg (zaj ?_)
    obtain ⟨r250, q251, h⟩ := bind_some h
    refine zcc 7 [] [] (fun W1 => [.det (zam (some ⟨b1, 0, none⟩)), .det (zaa r16.Negative), .det (zam (some ⟨b1, 1, none⟩)), .det v18, .det (zam (some ⟨b6, 1, none⟩)), .det v55, .rel (fun v Z w' => ∃ ob252 cap253 cs254 sp255, (osv ob252 0 r250.length cap253) = v ∧ OwnC w' ob252 (zab ([] ++ (cs254 ++ sp255))) ∧ Els (rInt .u32) (vZ W1 w None [some b11, some b6, some b1] Z w') cs254 r250 ∧ (cs254 ++ sp255 : List Value).length = cap253 * (rInt .u32).sz ∧ True) footV]) mixed rfl rfl rfl (fun _ => rfl) (fun _ => rfl) ?_ ?_
    ·
     intro W1 _
     exact ⟨fun v Z Z' w w' hΦ hz _ _ hs => by obtain ⟨ob252, cap253, cs254, sp255, rfl, hO260, hE256, hc257, -⟩ := hΦ; exact ⟨ob252, cap253, cs254, sp255, rfl, (hO260.stay (fun b hb => (footV_osv (ob := ob252) (o := 0) (n := r250.length) (cap := cap253)).2 (by rw [hb]; exact zay)) hs), (hE256.mono (zcl hz hs)), hc257, trivial⟩, trivial⟩
    ·
     intro w261 hE262
     have hL263 := hL163.ext hE262
     have K264 := ke hL163 hE262
     refine zau (fun _ _ => zat (zar zal rfl ti4 rfl rfl rfl (er rfl))) ?_
     refine zau (fun _ hE273 => zat (zbb zbn rfl rfl ((hL263.ext hE273).at 2 rfl rfl) rfl (er rfl))) ?_
     refine zau (fun _ _ => zat (zar zal rfl ti24 rfl rfl rfl (er rfl))) ?_
     refine zau (fun _ hE285 => zat (zbb zao rfl rfl ((hL263.ext hE285).at 2 rfl rfl) rfl (er rfl))) ?_
     refine zau (fun _ _ => zat (zar zal rfl ti24 rfl rfl rfl (er rfl))) ?_
     refine zau (fun _ hE297 => zat (zbb zao rfl rfl ((hL263.ext hE297).at 1 rfl rfl) rfl (er rfl))) ?_
     refine zcq ?_ ?_
     ·
      rintro w301 Z302 hE303 hZ304 ⟨-⟩
      have K306 := ke hL263 hE303
      refine zat (zaw en76 rfl rfl (bminus_w N r16.Digits r53.Digits v18 v55 _ Any ((((f160.mono (K164 None)).mono (K264 None)).mono (K306 None)).mono vw_any) ((((f161.mono (K164 None)).mono (K264 None)).mono (K306 None)).mono vw_any) r250 q251) ?_)
      rintro _ w307 hE308 ⟨ob252, cap253, cs254, sp255, rfl, hN259, hE256, hc257, -⟩
      exact zcj hE308 hZ304 hN259 (fun b hb => footV_osv.1 hb) ⟨ob252, cap253, cs254, sp255, rfl, hN259.2.2.1, (hE256.mono zda), hc257, trivial⟩
     intro z6
     refine zcn ?_
     rintro w309 Z310 hE311 hZ312 ⟨⟨⟨ob252, cap253, cs254, sp255, rfl, hO260, hE256, hc257, -⟩, hB6⟩, -⟩ ap313
     have hB314 : ∀ b, some b ∈ ([ob252] : List (Option Nat)) → w261.heap.size ≤ b ∧ ¬ Z310 b := by
      intro b hb
      rcases List.mem_cons.1 hb with hb' | hb
      ·
       have := hB6 b ((footV_osv (ob := ob252) (o := 0) (n := r250.length) (cap := cap253)).2 (by rw [hb']; exact zay)); exact ⟨this.1, this.2.2⟩
      cases hb
     replace hE256 := hE256.mono (zcy hL263 hZ312 hB314)
     have hN317 : NewOwn w261 w309 [ob252] [zab ([] ++ (cs254 ++ sp255))] := (zdb zca hO260 (fun b hb => (hB314 b (by rw [← hb]; simp)).1) (fun b _ hb => by cases hb))
     have hp318 := hL263.adoptL hE311 hN317
     have hL315 := hp318.1
     obtain ⟨r319, q320, h⟩ := bind_some h
     refine zaf (zaw en73 rfl rfl (bnormal_w N r16.Negative r250 (osv ob252 0 r250.length cap253) _ Any (own_row_any (pre := []) (o := 0) (n := r250.length) (cap := cap253) (hL315.at 0 rfl rfl) hE256 vw_any rfl rfl rfl hc257) r319 q320) ?_)
     rintro _ w324 hE327 ⟨v321, rfl, k322, -⟩
     replace k322 := k322.mono (zbc (S := None) hL315 [])
     have hL325 := hL315.ext hE327
     refine zcb (zbh (vs := [(zaa r319.Negative), v321]) ti26 rfl rfl rfl rfl (ones_cons rfl (ones_cons k322.one ones_nil)) hL325 1 rfl rfl (zae rfl) ?_)
     intro w328 (hL329 : vL w w328 [ob252, some b11, some b6, some b1] [zab ([] ++ (cs254 ++ sp255)), zab [(zaa r319.Negative), v321], zab [(zaa r53.Negative), v55], zab [(zaa r16.Negative), v18]]) hS331
     have K330 := ks w hS331
     refine zap (zbl ?_)
     obtain rfl := zag h
     refine ⟨[(zan #[(zaa r319.Negative), v321])], ⟨⟨⟨b11, 0, none⟩, rfl, res_boxA zal rfl ti26 (hL329.at 1 rfl rfl) rfl⟩, trivial⟩, ⟨_, rfl, hL329.done, ?_⟩⟩
     have f332 := (k322.mono (K330 None))
     exact ⟨v321, rfl, (f332.mono zdf), trivial⟩
theorem bSub_w (N : Nat) (a : Big) (b : Big) (a_v : Value) (b_v : Value) (w : World) (S : Nat → Prop) (a_h : Rs (rInt .u32) (vH w S [] w) a_v a.Digits) (b_h : Rs (rInt .u32) (vH w S [] w) b_v b.Digits) (r : Big) (h : bSub N a b = some r) :
  Calls Try.prog 56 #[(zan #[(zaa a.Negative), a_v]), (zan #[(zaa b.Negative), b_v])] w (Ret w (fun v w' => ∃ (v0_0 : Value), (zan #[(zaa r.Negative), v0_0]) = v ∧ Rs (rInt .u32) (vH w None [] w') v0_0 r.Digits ∧ True)) := by
 unfold bSub at h
 have hL : vL w w [] [] := Go.X.Loc.begin0 w
 refine calls_of (l := [(zan #[(zaa a.Negative), a_v]), (zan #[(zaa b.Negative), b_v])]) (rl := [.cell 4 26]) (n := 9) Try.func56 rfl rfl rfl (zae rfl) ?_
 refine zaj (zah rfl (zaf (zdc (cs := [(zaa a.Negative), a_v]) rfl rfl hL ?_)))
 intro b1 w2 hL3 hS5
 have K4 := ks w hS5
 refine zaf (zdc (cs := [(zaa b.Negative), b_v]) rfl rfl hL3 ?_)
 intro b6 w7 hL8 hS10
 have K9 := ks w hS10
 refine zaf (zbw (cs := [(zaa false), (zad none 0 0)]) ti26 rfl hL8 ?_)
 intro b11 w12 hL13 hS15
 have K14 := ks w hS15
 refine zap (zaj ?_)
 obtain ⟨r16, q17, h⟩ := bind_some h
 refine zcc 3 [] [] (fun W1 => [.det (zan #[(zaa a.Negative), a_v]), .det (zan #[(zaa b.Negative), b_v]), .rel (fun v Z w' => ∃ v18, (zan #[(zaa r16.Negative), v18]) = v ∧ Rs (rInt .u32) (vZ W1 w None [some b11, some b6, some b1] Z w') v18 r16.Digits ∧ True) (fun _ => [])]) mixed rfl rfl rfl (fun _ => rfl) (fun _ => rfl) ?_ ?_
 ·
  intro W1 _
  exact ⟨fun v Z Z' w w' hΦ hz _ _ hs => by obtain ⟨v18, rfl, k19, -⟩ := hΦ; exact ⟨v18, rfl, (k19.mono (zcl hz hs)), trivial⟩, trivial⟩
 ·
  intro w21 hE22
  have hL23 := hL13.ext hE22
  have K24 := ke hL13 hE22
  refine zau (fun _ hE27 => zat (zbd (vs := [(zaa a.Negative), a_v]) zal rfl ti26 rfl ((hL23.ext hE27).at 2 rfl rfl) rfl rfl (er rfl))) ?_
  refine zau (fun _ hE33 => zat (zbd (vs := [(zaa b.Negative), b_v]) zal rfl ti26 rfl ((hL23.ext hE33).at 1 rfl rfl) rfl rfl (er rfl))) ?_
  refine zcq ?_ ?_
  ·
   rintro w37 Z38 hE39 hZ40 ⟨-⟩
   have K42 := ke hL23 hE39
   refine zat (zaw en57 rfl rfl (bNeg_w N b b_v _ Any ((((((b_h.mono (K4 S)).mono (K9 S)).mono (K14 S)).mono (K24 S)).mono (K42 S)).mono vw_any) r16 q17) ?_)
   rintro _ w43 hE44 ⟨v18, rfl, k19, -⟩
   exact zcj hE44 hZ40 zca (fun _ h => h) ⟨v18, rfl, (k19.mono zda), trivial⟩
  intro z2
  refine zcn ?_
  rintro w45 Z46 hE47 hZ48 ⟨⟨⟨v18, rfl, k19, -⟩, hB2⟩, -⟩ ap49
  have hB50 : ∀ b, some b ∈ ([] : List (Option Nat)) → w21.heap.size ≤ b ∧ ¬ Z46 b := by
   intro b hb; cases hb
  replace k19 := k19.mono (zcy hL23 hZ48 hB50)
  have hL51 := hL23.ext hE47
  have K52 := ke hL23 hE47
  obtain ⟨r53, q54, h⟩ := bind_some h
  have f58 := (((((a_h.mono (K4 S)).mono (K9 S)).mono (K14 S)).mono (K24 S)).mono (K52 S))
  refine zaf (zaw en46 rfl rfl (bAdd_w N a r16 a_v v18 _ Any (f58.mono vw_any) (k19.mono vw_any) r53 q54) ?_)
  rintro _ w59 hE62 ⟨v55, rfl, k56, -⟩
  replace k56 := k56.mono (zbc (S := None) hL51 [])
  have hL60 := hL51.ext hE62
  refine zcb (zbh (vs := [(zaa r53.Negative), v55]) ti26 rfl rfl rfl rfl (ones_cons rfl (ones_cons k56.one ones_nil)) hL60 0 rfl rfl (zae rfl) ?_)
  intro w63 (hL64 : vL w w63 [some b11, some b6, some b1] [zab [(zaa r53.Negative), v55], zab [(zaa b.Negative), b_v], zab [(zaa a.Negative), a_v]]) hS66
  have K65 := ks w hS66
  refine zap (zbl ?_)
  obtain rfl := zag h
  refine ⟨[(zan #[(zaa r53.Negative), v55])], ⟨⟨⟨b11, 0, none⟩, rfl, res_boxA zal rfl ti26 (hL64.at 0 rfl rfl) rfl⟩, trivial⟩, ⟨_, rfl, hL64.done, ?_⟩⟩
  have f67 := (k56.mono (K65 None))
  exact ⟨v55, rfl, (f67.mono zdf), trivial⟩
theorem bMul_w (N : Nat) (a : Big) (b : Big) (a_v : Value) (b_v : Value) (w : World) (S : Nat → Prop) (a_h : Rs (rInt .u32) (vH w S [] w) a_v a.Digits) (b_h : Rs (rInt .u32) (vH w S [] w) b_v b.Digits) (r : Big) (h : bMul N a b = some r) :
  Calls Try.prog 47 #[(zan #[(zaa a.Negative), a_v]), (zan #[(zaa b.Negative), b_v])] w (Ret w (fun v w' => ∃ (v0_0 : Value), (zan #[(zaa r.Negative), v0_0]) = v ∧ Rs (rInt .u32) (vH w None [] w') v0_0 r.Digits ∧ True)) := by
 unfold bMul at h
 have hL : vL w w [] [] := Go.X.Loc.begin0 w
 refine calls_of (l := [(zan #[(zaa a.Negative), a_v]), (zan #[(zaa b.Negative), b_v])]) (rl := [.cell 4 26]) (n := 16) Try.func47 rfl rfl rfl (zae rfl) ?_
 refine zaj (zah rfl (zaf (zdc (cs := [(zaa a.Negative), a_v]) rfl rfl hL ?_)))
 intro b1 w2 hL3 hS5
 have K4 := ks w hS5
 refine zaf (zdc (cs := [(zaa b.Negative), b_v]) rfl rfl hL3 ?_)
 intro b6 w7 hL8 hS10
 have K9 := ks w hS10
 refine zaf (zbw (cs := [(zaa false), (zad none 0 0)]) ti26 rfl hL8 ?_)
 intro b11 w12 hL13 hS15
 have K14 := ks w hS15
 refine zap (zaj ?_)
 obtain ⟨r16, q17, h⟩ := bind_some h
 refine zcc 10 [] [] (fun W1 => [.det (zam (some ⟨b1, 0, none⟩)), .det (zaa a.Negative), .det (zam (some ⟨b6, 0, none⟩)), .det (zaa b.Negative), .det (zaa (!(a.Negative == b.Negative))), .det (zam (some ⟨b1, 1, none⟩)), .det a_v, .det (zam (some ⟨b6, 1, none⟩)), .det b_v, .rel (fun v Z w' => ∃ ob18 cap19 cs20 sp21, (osv ob18 0 r16.length cap19) = v ∧ OwnC w' ob18 (zab ([] ++ (cs20 ++ sp21))) ∧ Els (rInt .u32) (vZ W1 w None [some b11, some b6, some b1] Z w') cs20 r16 ∧ (cs20 ++ sp21 : List Value).length = cap19 * (rInt .u32).sz ∧ True) footV]) mixed rfl rfl rfl (fun _ => rfl) (fun _ => rfl) ?_ ?_
 ·
  intro W1 _
  exact ⟨fun v Z Z' w w' hΦ hz _ _ hs => by obtain ⟨ob18, cap19, cs20, sp21, rfl, hO26, hE22, hc23, -⟩ := hΦ; exact ⟨ob18, cap19, cs20, sp21, rfl, (hO26.stay (fun b hb => (footV_osv (ob := ob18) (o := 0) (n := r16.length) (cap := cap19)).2 (by rw [hb]; exact zay)) hs), (hE22.mono (zcl hz hs)), hc23, trivial⟩, trivial⟩
 ·
  intro w27 hE28
  have hL29 := hL13.ext hE28
  have K30 := ke hL13 hE28
  refine zau (fun _ _ => zat (zar zal rfl ti4 rfl rfl rfl (er rfl))) ?_
  refine zau (fun _ hE39 => zat (zbb zbn rfl rfl ((hL29.ext hE39).at 2 rfl rfl) rfl (er rfl))) ?_
  refine zau (fun _ _ => zat (zar zal rfl ti4 rfl rfl rfl (er rfl))) ?_
  refine zau (fun _ hE51 => zat (zbb zbn rfl rfl ((hL29.ext hE51).at 1 rfl rfl) rfl (er rfl))) ?_
  refine zau (fun _ _ => zat (OpY.neqBool zbn rfl rfl (er rfl))) ?_
  refine zau (fun _ _ => zat (zar zal rfl ti24 rfl rfl rfl (er rfl))) ?_
  refine zau (fun _ hE69 => zat (zbb zao rfl rfl ((hL29.ext hE69).at 2 rfl rfl) rfl (er rfl))) ?_
  refine zau (fun _ _ => zat (zar zal rfl ti24 rfl rfl rfl (er rfl))) ?_
  refine zau (fun _ hE81 => zat (zbb zao rfl rfl ((hL29.ext hE81).at 1 rfl rfl) rfl (er rfl))) ?_
  refine zcq ?_ ?_
  ·
   rintro w85 Z86 hE87 hZ88 ⟨-⟩
   have K90 := ke hL29 hE87
   refine zat (zaw en77 rfl rfl (btimes_w N a.Digits b.Digits a_v b_v _ Any ((((((a_h.mono (K4 S)).mono (K9 S)).mono (K14 S)).mono (K30 S)).mono (K90 S)).mono vw_any) ((((((b_h.mono (K4 S)).mono (K9 S)).mono (K14 S)).mono (K30 S)).mono (K90 S)).mono vw_any) r16 q17) ?_)
   rintro _ w91 hE92 ⟨ob18, cap19, cs20, sp21, rfl, hN25, hE22, hc23, -⟩
   exact zcj hE92 hZ88 hN25 (fun b hb => footV_osv.1 hb) ⟨ob18, cap19, cs20, sp21, rfl, hN25.2.2.1, (hE22.mono zda), hc23, trivial⟩
  intro z9
  refine zcn ?_
  rintro w93 Z94 hE95 hZ96 ⟨⟨⟨ob18, cap19, cs20, sp21, rfl, hO26, hE22, hc23, -⟩, hB9⟩, -⟩ ap97
  have hB98 : ∀ b, some b ∈ ([ob18] : List (Option Nat)) → w27.heap.size ≤ b ∧ ¬ Z94 b := by
   intro b hb
   rcases List.mem_cons.1 hb with hb' | hb
   ·
    have := hB9 b ((footV_osv (ob := ob18) (o := 0) (n := r16.length) (cap := cap19)).2 (by rw [hb']; exact zay)); exact ⟨this.1, this.2.2⟩
   cases hb
  replace hE22 := hE22.mono (zcy hL29 hZ96 hB98)
  have hN101 : NewOwn w27 w93 [ob18] [zab ([] ++ (cs20 ++ sp21))] := (zdb zca hO26 (fun b hb => (hB98 b (by rw [← hb]; simp)).1) (fun b _ hb => by cases hb))
  have hp102 := hL29.adoptL hE95 hN101
  have hL99 := hp102.1
  obtain ⟨r103, q104, h⟩ := bind_some h
  refine zaf (zaw en73 rfl rfl (bnormal_w N (!(a.Negative == b.Negative)) r16 (osv ob18 0 r16.length cap19) _ Any (own_row_any (pre := []) (o := 0) (n := r16.length) (cap := cap19) (hL99.at 0 rfl rfl) hE22 vw_any rfl rfl rfl hc23) r103 q104) ?_)
  rintro _ w108 hE111 ⟨v105, rfl, k106, -⟩
  replace k106 := k106.mono (zbc (S := None) hL99 [])
  have hL109 := hL99.ext hE111
  refine zcb (zbh (vs := [(zaa r103.Negative), v105]) ti26 rfl rfl rfl rfl (ones_cons rfl (ones_cons k106.one ones_nil)) hL109 1 rfl rfl (zae rfl) ?_)
  intro w112 (hL113 : vL w w112 [ob18, some b11, some b6, some b1] [zab ([] ++ (cs20 ++ sp21)), zab [(zaa r103.Negative), v105], zab [(zaa b.Negative), b_v], zab [(zaa a.Negative), a_v]]) hS115
  have K114 := ks w hS115
  refine zap (zbl ?_)
  obtain rfl := zag h
  refine ⟨[(zan #[(zaa r103.Negative), v105])], ⟨⟨⟨b11, 0, none⟩, rfl, res_boxA zal rfl ti26 (hL113.at 1 rfl rfl) rfl⟩, trivial⟩, ⟨_, rfl, hL113.done, ?_⟩⟩
  have f116 := (k106.mono (K114 None))
  exact ⟨v105, rfl, (f116.mono zdf), trivial⟩
theorem bDivFloor_w (N : Nat) (a : Big) (b : Big) (a_v : Value) (b_v : Value) (w : World) (S : Nat → Prop) (a_h : Rs (rInt .u32) (vH w S [] w) a_v a.Digits) (b_h : Rs (rInt .u32) (vH w S [] w) b_v b.Digits) (r : (Big × Big × Bool)) (h : bDivFloor N a b = some r) :
  Calls Try.prog 48 #[(zan #[(zaa a.Negative), a_v]), (zan #[(zaa b.Negative), b_v])] w (Ret w (fun v w' => ∃ (v0_0 : Value) (v1_0 : Value), .tuple #[(zan #[(zaa r.1.Negative), v0_0]), (zan #[(zaa r.2.1.Negative), v1_0]), (zaa r.2.2)] = v ∧ Rs (rInt .u32) (vH w None [] w') v0_0 r.1.Digits ∧ Rs (rInt .u32) (vH w None [] w') v1_0 r.2.1.Digits ∧ True)) := by
 unfold bDivFloor at h
 have hL : vL w w [] [] := Go.X.Loc.begin0 w
 refine calls_of (l := [(zan #[(zaa a.Negative), a_v]), (zan #[(zaa b.Negative), b_v])]) (rl := [.cell 4 26, .cell 5 26, .tmp 6]) (n := 54) Try.func48 rfl rfl rfl (zae rfl) ?_
 refine zaj (zah rfl (zaf (zdc (cs := [(zaa a.Negative), a_v]) rfl rfl hL ?_)))
 intro b1 w2 hL3 hS5
 have K4 := ks w hS5
 refine zaf (zdc (cs := [(zaa b.Negative), b_v]) rfl rfl hL3 ?_)
 intro b6 w7 hL8 hS10
 have K9 := ks w hS10
 refine zaf (zbw (cs := [(zaa false), (zad none 0 0)]) ti26 rfl hL8 ?_)
 intro b11 w12 hL13 hS15
 have K14 := ks w hS15
 refine zaf (zbw (cs := [(zaa false), (zad none 0 0)]) ti26 rfl hL13 ?_)
 intro b16 w17 hL18 hS20
 have K19 := ks w hS20
 refine zaf (zak (v := (zaa false)) rfl ?_)
 refine zap (zaj ?_)
 obtain ⟨r21, q22, h⟩ := bind_some h
 refine zcc 3 [] [] (fun W1 => [.det (zan #[(zaa a.Negative), a_v]), .rel (fun v Z w' => ∃ v23, (zan #[(zaa r21.Negative), v23]) = v ∧ Rs (rInt .u32) (vZ W1 w None [some b16, some b11, some b6, some b1] Z w') v23 r21.Digits ∧ True) (fun _ => []), .det (zan #[(zaa b.Negative), b_v])]) mixed rfl rfl rfl (fun _ => rfl) (fun _ => rfl) ?_ ?_
 ·
  intro W1 _
  exact ⟨fun v Z Z' w w' hΦ hz _ _ hs => by obtain ⟨v23, rfl, k24, -⟩ := hΦ; exact ⟨v23, rfl, (k24.mono (zcl hz hs)), trivial⟩, trivial⟩
 ·
  intro w26 hE27
  have hL28 := hL18.ext hE27
  have K29 := ke hL18 hE27
  refine zau (fun _ hE32 => zat (zbd (vs := [(zaa a.Negative), a_v]) zal rfl ti26 rfl ((hL28.ext hE32).at 3 rfl rfl) rfl rfl (er rfl))) ?_
  refine zcq ?_ ?_
  ·
   rintro w36 Z37 hE38 hZ39 ⟨-⟩
   have K41 := ke hL28 hE38
   refine zat (zaw en63 rfl rfl (bNormal_w N a a_v _ Any (((((((a_h.mono (K4 S)).mono (K9 S)).mono (K14 S)).mono (K19 S)).mono (K29 S)).mono (K41 S)).mono vw_any) r21 q22) ?_)
   rintro _ w42 hE43 ⟨v23, rfl, k24, -⟩
   exact zcj hE43 hZ39 zca (fun _ h => h) ⟨v23, rfl, (k24.mono zda), trivial⟩
  intro z1
  refine zau (fun _ hE46 => zat (zbd (vs := [(zaa b.Negative), b_v]) zal rfl ti26 rfl ((hL28.ext hE46).at 2 rfl rfl) rfl rfl (er rfl))) ?_
  refine zcn ?_
  rintro w50 Z51 hE52 hZ53 ⟨⟨⟨v23, rfl, k24, -⟩, hB1⟩, -⟩ ap54
  have hB55 : ∀ b, some b ∈ ([] : List (Option Nat)) → w26.heap.size ≤ b ∧ ¬ Z51 b := by
   intro b hb; cases hb
  replace k24 := k24.mono (zcy hL28 hZ53 hB55)
  have hL56 := hL28.ext hE52
  have K57 := ke hL28 hE52
  obtain ⟨r58, q59, h⟩ := bind_some h
  have f63 := ((((((b_h.mono (K4 S)).mono (K9 S)).mono (K14 S)).mono (K19 S)).mono (K29 S)).mono (K57 S))
  refine zaf (zaw en63 rfl rfl (bNormal_w N b b_v _ Any (f63.mono vw_any) r58 q59) ?_)
  rintro _ w64 hE67 ⟨v60, rfl, k61, -⟩
  replace k61 := k61.mono (zbc (S := None) hL56 [])
  have hL65 := hL56.ext hE67
  have K66 := ke hL56 hE67
  have f68 := (k24.mono (K66 None))
  refine zcb (zbh (vs := [(zaa r21.Negative), v23]) ti26 rfl rfl rfl rfl (ones_cons rfl (ones_cons f68.one ones_nil)) hL65 3 rfl rfl (zae rfl) ?_)
  intro w69 (hL70 : vL w w69 [some b16, some b11, some b6, some b1] [zab [(zaa false), (zad none 0 0)], zab [(zaa false), (zad none 0 0)], zab [(zaa b.Negative), b_v], zab [(zaa r21.Negative), v23]]) hS72
  have K71 := ks w hS72
  have f73 := (k61.mono (K71 None))
  refine zcb (zbh (vs := [(zaa r58.Negative), v60]) ti26 rfl rfl rfl rfl (ones_cons rfl (ones_cons f73.one ones_nil)) hL70 2 rfl rfl (zae rfl) ?_)
  intro w74 (hL75 : vL w w74 [some b16, some b11, some b6, some b1] [zab [(zaa false), (zad none 0 0)], zab [(zaa false), (zad none 0 0)], zab [(zaa r58.Negative), v60], zab [(zaa r21.Negative), v23]]) hS77
  have K76 := ks w hS77
  refine zap (zaj (zaj (zah rfl (zaf (zar (q := 1) zal rfl ti24 rfl rfl rfl ?_)))))
  refine zaf (zbb (v := v60) zao rfl rfl (hL75.at 2 rfl rfl) rfl ?_)
  have f78 := (f73.mono (K76 None))
  refine zaf (zbf (v := v60) zao rfl f78 ?_)
  refine zaf (OpY.eql (x := (r58.Digits.length : Int)) (y := 0) (((r58.Digits.length : Int) : Int) = 0) rfl rfl zbk ?_)
  refine zap ?_
  refine zbe (((r58.Digits.length : Int) : Int) = 0) rfl (fun hc79 => ?_) (fun hc79 => ?_)
  ·
   replace h := ite_t hc79 h
   refine zaj (zah rfl (zaf (zcx (zc := [(zaa false), (zad none 0 0)]) (cs := [(zaa false), (zad none 0 0)]) (is := []) (vs := []) (css := []) pl26 ti26 rfl rfl rfl trivial rfl ?_)))
   refine zaf (zcx (zc := [(zaa false), (zad none 0 0)]) (cs := [(zaa false), (zad none 0 0)]) (is := []) (vs := []) (css := []) pl26 ti26 rfl rfl rfl trivial rfl ?_)
   refine zcb (zbh (vs := [(zaa false), (zad none 0 0)]) ti26 rfl rfl rfl rfl (ones_cons rfl (ones_cons rfl ones_nil)) hL75 1 rfl rfl (zae rfl) ?_)
   intro w80 (hL81 : vL w w80 [some b16, some b11, some b6, some b1] [zab [(zaa false), (zad none 0 0)], zab [(zaa false), (zad none 0 0)], zab [(zaa r58.Negative), v60], zab [(zaa r21.Negative), v23]]) hS83
   refine zcb (zbh (vs := [(zaa false), (zad none 0 0)]) ti26 rfl rfl rfl rfl (ones_cons rfl (ones_cons rfl ones_nil)) hL81 0 rfl rfl (zae rfl) ?_)
   intro w84 (hL85 : vL w w84 [some b16, some b11, some b6, some b1] [zab [(zaa false), (zad none 0 0)], zab [(zaa false), (zad none 0 0)], zab [(zaa r58.Negative), v60], zab [(zaa r21.Negative), v23]]) hS87
   refine zaf (zak (v := (zaa false)) rfl ?_)
   refine zap (zbl ?_)
   obtain rfl := zag h
   refine ⟨[(zan #[(zaa false), (zad none 0 0)]), (zan #[(zaa false), (zad none 0 0)]), (zaa false)], ⟨⟨⟨b11, 0, none⟩, rfl, res_boxA zal rfl ti26 (hL85.at 1 rfl rfl) rfl⟩, ⟨⟨⟨b16, 0, none⟩, rfl, res_boxA zal rfl ti26 (hL85.at 0 rfl rfl) rfl⟩, ⟨rfl, trivial⟩⟩⟩, ⟨_, rfl, hL85.done, ?_⟩⟩
   exact ⟨(zad none 0 0), (zad none 0 0), rfl, zdj, zdj, trivial⟩
  ·
   replace h := ite_f hc79 h
   refine zbg (zaj (zah rfl (zaf (zar (q := 1) zal rfl ti24 rfl rfl rfl ?_))))
   refine zaf (zbb (v := v23) zao rfl rfl (hL75.at 3 rfl rfl) rfl ?_)
   refine zaf (zar (q := 1) zal rfl ti24 rfl rfl rfl ?_)
   refine zaf (zbb (v := v60) zao rfl rfl (hL75.at 2 rfl rfl) rfl ?_)
   obtain ⟨r88, q89, h⟩ := bind_some h
   have f105 := ((f68.mono (K71 None)).mono (K76 None))
   refine zaf (zaw en78 rfl rfl (bdivide_w N r21.Digits r58.Digits v23 v60 _ Any (f105.mono vw_any) (f78.mono vw_any) r88 q89) ?_)
   rintro _ w106 hE109 ⟨ob90, cap91, cs92, sp93, ob97, cap98, cs99, sp100, rfl, hN104, hE94, hc95, hE101, hc102, -⟩
   replace hE94 := hE94.mono (zbc (S := None) hL75 [ob90, ob97])
   replace hE101 := hE101.mono (zbc (S := None) hL75 [ob90, ob97])
   have hp110 := hL75.adoptL hE109 hN104
   have hL107 := hp110.1
   have K108 := ks w hp110.2
   refine zaf (zai (v := (Value.tuple #[(osv ob90 0 r88.1.length cap91), (osv ob97 0 r88.2.length cap98)])) rfl ?_)
   refine zaf (zcf (vs := [(osv ob90 0 r88.1.length cap91), (osv ob97 0 r88.2.length cap98)]) (v := (osv ob90 0 r88.1.length cap91)) rfl rfl ?_)
   refine zaf (zcf (vs := [(osv ob90 0 r88.1.length cap91), (osv ob97 0 r88.2.length cap98)]) (v := (osv ob97 0 r88.2.length cap98)) rfl rfl ?_)
   refine zaf (zak (v := (osv ob90 0 r88.1.length cap91)) rfl ?_)
   refine zaf (zak (v := (osv ob97 0 r88.2.length cap98)) rfl ?_)
   refine zap (zaj (zaj (zah rfl (zaf (zar (q := 0) zal rfl ti4 rfl rfl rfl ?_)))))
   refine zaf (zbb (v := (zaa r21.Negative)) zbn rfl rfl (hL107.at 5 rfl rfl) rfl ?_)
   refine zaf (zar (q := 0) zal rfl ti4 rfl rfl rfl ?_)
   refine zaf (zbb (v := (zaa r58.Negative)) zbn rfl rfl (hL107.at 4 rfl rfl) rfl ?_)
   refine zaf (OpY.neqBool (x := r21.Negative) (y := r58.Negative) zbn rfl rfl ?_)
   refine zap ?_
   refine zcu (!(r21.Negative == r58.Negative)) rfl (fun hc111 => ?_) (fun hc111 => ?_)
   ·
    replace h := ite_t hc111 h
    refine zaj (zaj (zah rfl (zaf (zai (v := (osv ob97 0 r88.2.length cap98)) rfl ?_))))
    refine zaf (OpY.lenRow (pre := []) (r := (rInt .u32)) (xs := r88.2) zao rfl (hL107.at 1 rfl rfl) hE101 rfl rfl ?_)
    refine zaf (zdm (x := (r88.2.length : Int)) (y := 0) (((r88.2.length : Int) : Int) > 0) rfl rfl zbk ?_)
    refine zap ?_
    obtain ⟨s176, h, g177⟩ := bind_some h
    refine zbr (fun e w' => ∃ (q163 : (List Int)) (x172 : (List Int)) (ob159 : Option Nat) (cap160 : Nat) (sp161 : List Value) (cs162 : List Value) (ln166 : Nat) (ob168 : Option Nat) (cap169 : Nat) (sp170 : List Value) (cs171 : List Value) (ln175 : Nat) (u : Env), (q163, x172) = s176 ∧ e = upds [(3, (zam (some ⟨b6, 0, none⟩))), (4, (zam (some ⟨b11, 0, none⟩))), (5, (zam (some ⟨b16, 0, none⟩))), (7, (osv ob159 0 ln166 cap160)), (8, (osv ob168 0 ln175 cap169))] u ∧ vL w w' [some b6, some b11, some b16, ob159, ob168] [zab [(zaa r58.Negative), v60], zab [(zaa false), (zad none 0 0)], zab [(zaa false), (zad none 0 0)], zab ([] ++ (cs162 ++ sp161)), zab ([] ++ (cs171 ++ sp170))] ∧ Keep w.heap.size [ob90, ob97, some b16, some b11, some b6, some b1] w106 [some b6, some b11, some b16, ob159, ob168] w' ∧ Els (rInt .u32) (vH w None [some b6, some b11, some b16, ob159, ob168] w') cs162 q163 ∧ ln166 = List.length q163 ∧ (cs162 ++ sp161).length = cap160 * (rInt .u32).sz ∧ Els (rInt .u32) (vH w None [some b6, some b11, some b16, ob159, ob168] w') cs171 x172 ∧ ln175 = List.length x172 ∧ (cs171 ++ sp170).length = cap169 * (rInt .u32).sz ∧ True) ?_ ?_
    ·
     refine zbe (((r88.2.length : Int) : Int) > 0) rfl (fun hc178 => ?_) (fun hc178 => ?_)
     ·
      replace h := ite_t hc178 h
      refine zaj (zah rfl (zaf (zai (v := (osv ob90 0 r88.1.length cap91)) rfl ?_)))
      have hE180 : Els (rInt .u32) (vH w None [ob90, ob97, some b16, some b11, some b6, some b1] w106) [(zac .u32 1)] [1] := (zco (a := [(zac .u32 1)]) rfl zct)
      refine zaf (zcp (r := (rInt .u32)) (vs := [(zac .u32 1)]) (css := [[(zac .u32 1)]]) (xs := [1]) zao ti89 (zae rfl) rfl rfl ⟨rfl, rfl, trivial⟩ (zae rfl) hE180 rfl hL107 ?_)
      intro b179 w183 hc181 hL184 hS186
      have K185 := ks w hS186
      obtain ⟨r187, q188, h⟩ := bind_some h
      have f197 := (hE94.mono (K185 None))
      have f198 := (hE180.mono (K185 None))
      refine zaf (zaw en74 rfl rfl (bplus_w N r88.1 [1] (osv ob90 0 r88.1.length cap91) (osv (some b179) 0 1 1) _ Any (own_row_any (pre := []) (o := 0) (n := r88.1.length) (cap := cap91) (hL184.at 1 rfl rfl) f197 vw_any rfl rfl rfl hc95) (own_row_any (pre := []) (o := 0) (n := 1) (cap := 1) (hL184.at 0 rfl rfl) f198 vw_any rfl rfl rfl hc181) r187 q188) ?_)
      rintro _ w199 hE202 ⟨ob189, cap190, cs191, sp192, rfl, hN196, hE193, hc194, -⟩
      replace hE193 := hE193.mono (zbc (S := None) hL184 [ob189])
      have hp203 := hL184.adoptL hE202 hN196
      have hL200 := hp203.1
      have K201 := ks w hp203.2
      refine zaf (zak (v := (osv ob189 0 r187.length cap190)) rfl ?_)
      refine zap (zah rfl (zaf (zar (q := 1) zal rfl ti24 rfl rfl rfl ?_)))
      refine zaf (zbb (v := v60) zao rfl rfl (hL200.at 6 rfl rfl) rfl ?_)
      refine zaf (zai (v := (osv ob97 0 r88.2.length cap98)) rfl ?_)
      obtain ⟨r204, q205, h⟩ := bind_some h
      have f214 := (((f78.mono (K108 None)).mono (K185 None)).mono (K201 None))
      have f215 := ((hE101.mono (K185 None)).mono (K201 None))
      refine zaf (zaw en76 rfl rfl (bminus_w N r58.Digits r88.2 v60 (osv ob97 0 r88.2.length cap98) _ Any (f214.mono vw_any) (own_row_any (pre := []) (o := 0) (n := r88.2.length) (cap := cap98) (hL200.at 3 rfl rfl) f215 vw_any rfl rfl rfl hc102) r204 q205) ?_)
      rintro _ w216 hE219 ⟨ob206, cap207, cs208, sp209, rfl, hN213, hE210, hc211, -⟩
      replace hE210 := hE210.mono (zbc (S := None) hL200 [ob206])
      have hp220 := hL200.adoptL hE219 hN213
      have hL217 := hp220.1
      have K218 := ks w hp220.2
      refine zaf (zak (v := (osv ob206 0 r204.length cap207)) rfl ?_)
      refine zap ?_
      have hp221 := hL217.pick [7, 6, 5, 1, 0] rfl rfl rfl
      have hL223 : vL w w216 [some b6, some b11, some b16, ob189, ob206] [zab [(zaa r58.Negative), v60], zab [(zaa false), (zad none 0 0)], zab [(zaa false), (zad none 0 0)], zab ([] ++ (cs191 ++ sp192)), zab ([] ++ (cs208 ++ sp209))] := hp221.1
      have K222 := ks w hp221.2
      have f224 := ((hE193.mono (K218 None)).mono (K222 None))
      have f225 := (hE210.mono (K222 None))
      obtain rfl := zag h
      refine zas ?_
      exact ⟨r187, r204, ob189, cap190, sp192, cs191, r187.length, ob206, cap207, sp209, cs208, r204.length, _, rfl, (upds_sym ⟨rfl, rfl, rfl, rfl, rfl, trivial⟩), hL223, (zaq (zaq (zaq K185 K201) K218) K222), f224, rfl, hc194, f225, rfl, hc211, trivial⟩
     ·
      replace h := ite_f hc178 h
      refine zbg ?_
      have hp226 := hL107.pick [4, 3, 2, 0, 1] rfl rfl rfl
      have hL228 : vL w w106 [some b6, some b11, some b16, ob90, ob97] [zab [(zaa r58.Negative), v60], zab [(zaa false), (zad none 0 0)], zab [(zaa false), (zad none 0 0)], zab ([] ++ (cs92 ++ sp93)), zab ([] ++ (cs99 ++ sp100))] := hp226.1
      have K227 := ks w hp226.2
      have f229 := (hE94.mono (K227 None))
      have f230 := (hE101.mono (K227 None))
      obtain rfl := zag h
      refine zas ?_
      exact ⟨r88.1, r88.2, ob90, cap91, sp93, cs92, r88.1.length, ob97, cap98, sp100, cs99, r88.2.length, _, rfl, (upds_sym ⟨rfl, rfl, rfl, rfl, rfl, trivial⟩), hL228, K227, f229, rfl, hc95, f230, rfl, hc102, trivial⟩
    ·
     rintro _ w231 ⟨q163, x172, ob159, cap160, sp161, cs162, ln166, ob168, cap169, sp170, cs171, ln175, u, rfl, rfl, hL232, K233, hE164, rfl, hc165, hE173, rfl, hc174, -⟩
     replace h := g177
     try dsimp only at h
     refine zaj ?_
     obtain ⟨r234, q235, h⟩ := bind_some h
     refine zcc 5 [] [] (fun W1 => [.det (osv ob159 0 q163.length cap160), .rel (fun v Z w' => ∃ v236, (zan #[(zaa r234.Negative), v236]) = v ∧ Rs (rInt .u32) (vZ W1 w None [some b6, some b11, some b16, ob159, ob168] Z w') v236 r234.Digits ∧ True) (fun _ => []), .det (zam (some ⟨b6, 0, none⟩)), .det (zaa r58.Negative), .det (osv ob168 0 x172.length cap169)]) mixed rfl rfl rfl (fun _ => rfl) (fun _ => rfl) ?_ ?_
     ·
      intro W1 _
      exact ⟨fun v Z Z' w w' hΦ hz _ _ hs => by obtain ⟨v236, rfl, k237, -⟩ := hΦ; exact ⟨v236, rfl, (k237.mono (zcl hz hs)), trivial⟩, trivial⟩
     ·
      intro w239 hE240
      have hL241 := hL232.ext hE240
      have K242 := ke hL232 hE240
      refine zau (fun _ _ => zat (zai rfl (er rfl))) ?_
      refine zcq ?_ ?_
      ·
       rintro w249 Z250 hE251 hZ252 ⟨-⟩
       have hL253 := hL241.ext hE251
       have K254 := ke hL241 hE251
       refine zat (zaw en73 rfl rfl (bnormal_w N true q163 (osv ob159 0 q163.length cap160) _ Any (own_row_any (pre := []) (o := 0) (n := q163.length) (cap := cap160) (hL253.at 3 rfl rfl) ((hE164.mono (K242 None)).mono (K254 None)) vw_any rfl rfl rfl hc165) r234 q235) ?_)
       rintro _ w255 hE256 ⟨v236, rfl, k237, -⟩
       exact zcj hE256 hZ252 zca (fun _ h => h) ⟨v236, rfl, (k237.mono zda), trivial⟩
      intro z1
      refine zau (fun _ _ => zat (zar zal rfl ti4 rfl rfl rfl (er rfl))) ?_
      refine zau (fun _ hE265 => zat (zbb zbn rfl rfl ((hL241.ext hE265).at 0 rfl rfl) rfl (er rfl))) ?_
      refine zau (fun _ _ => zat (zai rfl (er rfl))) ?_
      refine zcn ?_
      rintro w275 Z276 hE277 hZ278 ⟨⟨⟨v236, rfl, k237, -⟩, hB1⟩, -⟩ ap279
      have hB280 : ∀ b, some b ∈ ([] : List (Option Nat)) → w239.heap.size ≤ b ∧ ¬ Z276 b := by
       intro b hb; cases hb
      replace k237 := k237.mono (zcy hL241 hZ278 hB280)
      have hL281 := hL241.ext hE277
      have K282 := ke hL241 hE277
      obtain ⟨r283, q284, h⟩ := bind_some h
      have f288 := ((hE173.mono (K242 None)).mono (K282 None))
      refine zaf (zaw en73 rfl rfl (bnormal_w N r58.Negative x172 (osv ob168 0 x172.length cap169) _ Any (own_row_any (pre := []) (o := 0) (n := x172.length) (cap := cap169) (hL281.at 4 rfl rfl) f288 vw_any rfl rfl rfl hc174) r283 q284) ?_)
      rintro _ w289 hE292 ⟨v285, rfl, k286, -⟩
      replace k286 := k286.mono (zbc (S := None) hL281 [])
      have hL290 := hL281.ext hE292
      have K291 := ke hL281 hE292
      have f293 := (k237.mono (K291 None))
      refine zcb (zbh (vs := [(zaa r234.Negative), v236]) ti26 rfl rfl rfl rfl (ones_cons rfl (ones_cons f293.one ones_nil)) hL290 1 rfl rfl (zae rfl) ?_)
      intro w294 (hL295 : vL w w294 [some b6, some b11, some b16, ob159, ob168] [zab [(zaa r58.Negative), v60], zab [(zaa r234.Negative), v236], zab [(zaa false), (zad none 0 0)], zab ([] ++ (cs162 ++ sp161)), zab ([] ++ (cs171 ++ sp170))]) hS297
      have K296 := ks w hS297
      have f298 := (k286.mono (K296 None))
      refine zcb (zbh (vs := [(zaa r283.Negative), v285]) ti26 rfl rfl rfl rfl (ones_cons rfl (ones_cons f298.one ones_nil)) hL295 2 rfl rfl (zae rfl) ?_)
      intro w299 (hL300 : vL w w299 [some b6, some b11, some b16, ob159, ob168] [zab [(zaa r58.Negative), v60], zab [(zaa r234.Negative), v236], zab [(zaa r283.Negative), v285], zab ([] ++ (cs162 ++ sp161)), zab ([] ++ (cs171 ++ sp170))]) hS302
      have K301 := ks w hS302
      refine zaf (zak (v := (zaa true)) rfl ?_)
      refine zap (zbl ?_)
      obtain rfl := zag h
      refine ⟨[(zan #[(zaa r234.Negative), v236]), (zan #[(zaa r283.Negative), v285]), (zaa true)], ⟨⟨⟨b11, 0, none⟩, rfl, res_boxA zal rfl ti26 (hL300.at 1 rfl rfl) rfl⟩, ⟨⟨⟨b16, 0, none⟩, rfl, res_boxA zal rfl ti26 (hL300.at 2 rfl rfl) rfl⟩, ⟨rfl, trivial⟩⟩⟩, ⟨_, rfl, hL300.done, ?_⟩⟩
      have f303 := ((f293.mono (K296 None)).mono (K301 None))
      have f304 := (f298.mono (K301 None))
      exact ⟨v236, v285, rfl, (f303.mono zdf), (f304.mono zdf), trivial⟩
   ·
    replace h := ite_f hc111 h
    refine zbg (zaj ?_)
    obtain ⟨r305, q306, h⟩ := bind_some h
    refine zcc 5 [] [] (fun W1 => [.det (osv ob90 0 r88.1.length cap91), .rel (fun v Z w' => ∃ v307, (zan #[(zaa r305.Negative), v307]) = v ∧ Rs (rInt .u32) (vZ W1 w None [ob90, ob97, some b16, some b11, some b6, some b1] Z w') v307 r305.Digits ∧ True) (fun _ => []), .det (zam (some ⟨b6, 0, none⟩)), .det (zaa r58.Negative), .det (osv ob97 0 r88.2.length cap98)]) mixed rfl rfl rfl (fun _ => rfl) (fun _ => rfl) ?_ ?_
    ·
     intro W1 _
     exact ⟨fun v Z Z' w w' hΦ hz _ _ hs => by obtain ⟨v307, rfl, k308, -⟩ := hΦ; exact ⟨v307, rfl, (k308.mono (zcl hz hs)), trivial⟩, trivial⟩
    ·
     intro w310 hE311
     have hL312 := hL107.ext hE311
     have K313 := ke hL107 hE311
     refine zau (fun _ _ => zat (zai rfl (er rfl))) ?_
     refine zcq ?_ ?_
     ·
      rintro w320 Z321 hE322 hZ323 ⟨-⟩
      have hL324 := hL312.ext hE322
      have K325 := ke hL312 hE322
      refine zat (zaw en73 rfl rfl (bnormal_w N false r88.1 (osv ob90 0 r88.1.length cap91) _ Any (own_row_any (pre := []) (o := 0) (n := r88.1.length) (cap := cap91) (hL324.at 0 rfl rfl) ((hE94.mono (K313 None)).mono (K325 None)) vw_any rfl rfl rfl hc95) r305 q306) ?_)
      rintro _ w326 hE327 ⟨v307, rfl, k308, -⟩
      exact zcj hE327 hZ323 zca (fun _ h => h) ⟨v307, rfl, (k308.mono zda), trivial⟩
     intro z1
     refine zau (fun _ _ => zat (zar zal rfl ti4 rfl rfl rfl (er rfl))) ?_
     refine zau (fun _ hE336 => zat (zbb zbn rfl rfl ((hL312.ext hE336).at 4 rfl rfl) rfl (er rfl))) ?_
     refine zau (fun _ _ => zat (zai rfl (er rfl))) ?_
     refine zcn ?_
     rintro w346 Z347 hE348 hZ349 ⟨⟨⟨v307, rfl, k308, -⟩, hB1⟩, -⟩ ap350
     have hB351 : ∀ b, some b ∈ ([] : List (Option Nat)) → w310.heap.size ≤ b ∧ ¬ Z347 b := by
      intro b hb; cases hb
     replace k308 := k308.mono (zcy hL312 hZ349 hB351)
     have hL352 := hL312.ext hE348
     have K353 := ke hL312 hE348
     obtain ⟨r354, q355, h⟩ := bind_some h
     have f359 := ((hE101.mono (K313 None)).mono (K353 None))
     refine zaf (zaw en73 rfl rfl (bnormal_w N r58.Negative r88.2 (osv ob97 0 r88.2.length cap98) _ Any (own_row_any (pre := []) (o := 0) (n := r88.2.length) (cap := cap98) (hL352.at 1 rfl rfl) f359 vw_any rfl rfl rfl hc102) r354 q355) ?_)
     rintro _ w360 hE363 ⟨v356, rfl, k357, -⟩
     replace k357 := k357.mono (zbc (S := None) hL352 [])
     have hL361 := hL352.ext hE363
     have K362 := ke hL352 hE363
     have f364 := (k308.mono (K362 None))
     refine zcb (zbh (vs := [(zaa r305.Negative), v307]) ti26 rfl rfl rfl rfl (ones_cons rfl (ones_cons f364.one ones_nil)) hL361 3 rfl rfl (zae rfl) ?_)
     intro w365 (hL366 : vL w w365 [ob90, ob97, some b16, some b11, some b6, some b1] [zab ([] ++ (cs92 ++ sp93)), zab ([] ++ (cs99 ++ sp100)), zab [(zaa false), (zad none 0 0)], zab [(zaa r305.Negative), v307], zab [(zaa r58.Negative), v60], zab [(zaa r21.Negative), v23]]) hS368
     have K367 := ks w hS368
     have f369 := (k357.mono (K367 None))
     refine zcb (zbh (vs := [(zaa r354.Negative), v356]) ti26 rfl rfl rfl rfl (ones_cons rfl (ones_cons f369.one ones_nil)) hL366 2 rfl rfl (zae rfl) ?_)
     intro w370 (hL371 : vL w w370 [ob90, ob97, some b16, some b11, some b6, some b1] [zab ([] ++ (cs92 ++ sp93)), zab ([] ++ (cs99 ++ sp100)), zab [(zaa r354.Negative), v356], zab [(zaa r305.Negative), v307], zab [(zaa r58.Negative), v60], zab [(zaa r21.Negative), v23]]) hS373
     have K372 := ks w hS373
     refine zaf (zak (v := (zaa true)) rfl ?_)
     refine zap (zbl ?_)
     obtain rfl := zag h
     refine ⟨[(zan #[(zaa r305.Negative), v307]), (zan #[(zaa r354.Negative), v356]), (zaa true)], ⟨⟨⟨b11, 0, none⟩, rfl, res_boxA zal rfl ti26 (hL371.at 3 rfl rfl) rfl⟩, ⟨⟨⟨b16, 0, none⟩, rfl, res_boxA zal rfl ti26 (hL371.at 2 rfl rfl) rfl⟩, ⟨rfl, trivial⟩⟩⟩, ⟨_, rfl, hL371.done, ?_⟩⟩
     have f374 := ((f364.mono (K367 None)).mono (K372 None))
     have f375 := (f369.mono (K372 None))
     exact ⟨v307, v356, rfl, (f374.mono zdf), (f375.mono zdf), trivial⟩
end Go.Proofs.Ytakkacdhlocckaa.WB

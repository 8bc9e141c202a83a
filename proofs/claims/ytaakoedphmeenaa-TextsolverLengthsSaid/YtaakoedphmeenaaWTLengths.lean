/- Walks, written by a program of mine (wip/tool); the kernel checks them. -/
import Derived.Test.YtaakoedphmeenaaWTLengthsx0
set_option maxRecDepth 100000
set_option maxHeartbeats 40000000
set_option linter.unusedVariables false
set_option linter.unusedSimpArgs false
namespace Go.Proofs.Ytaakoedphmeenaa.WT
open Go Go.RowKit Go.X Go.D Go.Proofs.Ytaakoedphmeenaa.WA Go.Proofs.Ytaakoedphmeenaa.WR
theorem revInt_w (N : Nat) (s : (List Int)) (s_ob : Option Nat) (s_cap : Nat) (s_cs : List Value) (s_sp : List Value) (X : List (Option Nat)) (w : World) (S : Nat → Prop) (hL : Go.X.Loc X [] w w [s_ob] [zab ([] ++ (s_cs ++ s_sp))]) (s_hE : Els rI (vH w S [s_ob] w) s_cs s) (s_hc : (s_cs ++ s_sp).length = s_cap * rI.sz) (r : (List Int)) (h : revInt N s = some r) :
  Calls Try.prog 35 #[(osv s_ob 0 s.length s_cap)] w (fun e w' => ∃ (o0_cs : List Value) (o0_sp : List Value), e = Ending.returned (Value.tuple #[]) ∧ Go.X.Loc X [] w w' [s_ob] [zab ([] ++ (o0_cs ++ o0_sp))] ∧ Keep w.heap.size [s_ob] w [s_ob] w' ∧ List.length s = List.length r ∧ Els rI (vH w S [s_ob] w') o0_cs r ∧ (o0_cs ++ o0_sp).length = s_cap * rI.sz ∧ True) := by
 unfold revInt at h
 refine calls_of (l := [(osv s_ob 0 s.length s_cap)]) (rl := []) (n := 28) Try.func35 rfl rfl rfl (zai rfl) ?_
 refine zal (zah rfl (zag (zae (v := (osv s_ob 0 s.length s_cap)) rfl ?_)))
 refine zag (zcj (pre := []) (r := rI) (xs := s) zao rfl (hL.at 0 rfl rfl) s_hE rfl rfl ?_)
 refine zag (OpY.sub (x := (s.length : Int)) (y := 1) (z := (iw ((s.length : Int) - 1))) rfl rfl rfl ?_)
 refine zag (zaj (v := (zI 0)) rfl ?_)
 refine zag (zaj (v := (zI (iw ((s.length : Int) - 1)))) rfl (zaq ?_))
 obtain ⟨s10, hl10, g10⟩ := zee h
 refine zbs (fun e w' => ∃ (s11 : (List Int)) (cs10 : List Value) (u : Env), s11 = s10 ∧ e = upds [(0, (osv s_ob 0 s.length s_cap))] u ∧ Go.X.Loc X [] w w' [s_ob] [zab ([] ++ (cs10 ++ s_sp))] ∧ Keep w.heap.size [s_ob] w [s_ob] w' ∧ Els rI (vH w S [s_ob] w') cs10 s11 ∧ s.length = List.length s11 ∧ (cs10 ++ s_sp).length = s_cap * rI.sz ∧ True) ?_ ?_
 ·
  refine zbc ?_
  refine zbw hl10 (fun (ss : ((List Int) × Int × Int)) (e : Env) (w' : World) => match ss with | (s12, i10, j10) => ∃ (cs11 : List Value) (u : Env), e = upds [(0, (osv s_ob 0 s.length s_cap)), (2, (zI i10)), (3, (zI j10))] u ∧ Go.X.Loc X [] w w' [s_ob] [zab ([] ++ (cs11 ++ s_sp))] ∧ Keep w.heap.size [s_ob] w [s_ob] w' ∧ Els rI (vH w S [s_ob] w') cs11 s12 ∧ s.length = List.length s12 ∧ (cs11 ++ s_sp).length = s_cap * rI.sz ∧ True) ⟨s_cs, _, (zef ⟨rfl, rfl, rfl, trivial⟩), hL, zbp, s_hE, rfl, s_hc, trivial⟩ ?_
  rintro ⟨s12, i10, j10⟩ oo _ w10 ⟨cs11, u, rfl, hL10, K10, hE10, hl11, hc10, -⟩ h hd10
  rw [revInt_b1] at h
  refine zal (zal (zah rfl (zag (zae (v := (zI i10)) rfl ?_))))
  refine zag (zae (v := (zI j10)) rfl ?_)
  refine zag (zcg (x := i10) (y := j10) ((i10 : Int) < j10) rfl rfl zbi (zaq ?_))
  refine zbj ((i10 : Int) < j10) rfl (fun hc11 => ?_) (fun hc11 => ?_)
  ·
   replace h := ite_t hc11 h
   refine zbl (zal (zbc ?_))
   obtain ⟨x10, n10, q11, q12, q13, h⟩ := zix h
   obtain ⟨b10, hb10⟩ := hL10.row_some 0 rfl rfl (zev (pre := []) hE10 q12 (Nat.lt_of_sub_eq_succ rfl))
   obtain ⟨vs10, q14, q15, q16⟩ := zeo (pre := []) (sp := s_sp) hE10 q12
   obtain rfl := q15
   obtain ⟨x11, n11, q18, q19, q20, h⟩ := zix h
   obtain ⟨vs11, q21, q22, q23⟩ := zeo (pre := []) (sp := s_sp) hE10 q19
   obtain rfl := q22
   refine zcy 12 [] [2, 3] (fun W1 => [.det (osv s_ob 0 s.length s_cap), .det (zI i10), .det (osv s_ob 0 s.length s_cap), .det (zI j10), .det (osv s_ob 0 s.length s_cap), .det (zI j10), .det (zam (some ⟨b10, (0 + n10 * rI.sz), none⟩)), .det (zI x10), .det (osv s_ob 0 s.length s_cap), .det (zI i10), .det (zam (some ⟨b10, (0 + n11 * rI.sz), none⟩)), .det (zI x11)]) mixed rfl rfl rfl (fun _ => rfl) (fun _ => rfl) ?_ ?_
   ·
    intro W1 _
    exact trivial
   intro w11 hE11
   obtain ⟨hL11, K11⟩ := zl hL10 hE11
   refine zay (fun _ _ => zar (zae rfl (er rfl))) ?_
   refine zay (fun _ _ => zar (zae rfl (er rfl))) ?_
   refine zay (fun _ _ => zar (zae rfl (er rfl))) ?_
   refine zay (fun _ _ => zar (zae rfl (er rfl))) ?_
   refine zay (fun _ _ => zar (zae rfl (er rfl))) ?_
   refine zay (fun _ _ => zar (zae rfl (er rfl))) ?_
   refine zay (fun _ _ => zar (zbe (r := rI) (b := b10) (o := 0) (n := n10) (m := s.length) (xs := s12) (q := (0 + n10 * rI.sz)) zao ti3 (zem hb10) hl11 rfl q11 q13 rfl (er rfl))) ?_
   refine zay (fun _ hE19 => zar (zbu zaw rfl rfl (zeq hb10 ((hL11.ext hE19).at 0 rfl rfl)) q16 (er rfl))) ?_
   refine zay (fun _ _ => zar (zae rfl (er rfl))) ?_
   refine zay (fun _ _ => zar (zae rfl (er rfl))) ?_
   refine zay (fun _ _ => zar (zbe (r := rI) (b := b10) (o := 0) (n := n11) (m := s.length) (xs := s12) (q := (0 + n11 * rI.sz)) zao ti3 (zem hb10) hl11 rfl q18 q20 rfl (er rfl))) ?_
   refine zay (fun _ hE23 => zar (zbu zaw rfl rfl (zeq hb10 ((hL11.ext hE23).at 0 rfl rfl)) q23 (er rfl))) ?_
   refine DrH.fin ?_
   rintro w24 Z31 hE24 hZ22 ⟨-⟩ ap10
   have hB10 := @zhb w11 Z31
   obtain ⟨hL14, K12⟩ := zl hL11 hE24
   obtain ⟨x12, n12, q25, q26, q27, h⟩ := zix h
   refine RlL.op (zbe (r := rI) (b := b10) (o := 0) (n := n12) (m := s.length) (xs := s12) (q := (0 + n12 * rI.sz)) zao ti3 (zem hb10) hl11 rfl q25 q27 rfl ?_)
   refine ⟨?_, ?_⟩
   ·
    refine zan (i := 2) rfl rfl (zar (zae (v := (osv s_ob 0 s.length s_cap)) rfl zrr)) ?_
    refine zan (i := 3) rfl rfl (zar (zae (v := (zI j10)) rfl zrr)) ?_
    exact zcd
   obtain ⟨x13, n13, q29, q30, q31, h⟩ := zux h
   obtain rfl := zin q25 q29
   have f10 := ((hE10.mono (K11 S)).mono (K12 S))
   refine RlL.op0 (zdd (pre := []) (r := rI) (vs := [(zI x10)]) (a := x10) ti3 rfl rfl rfl rfl hL14 0 (congrArg some hb10) rfl f10 q27 rfl q31 ?_)
   have hl12 : s.length = List.length x13 := by rw [q31, List.length_set]; exact hl11
   intro w25 cs12 (hL15 : Go.X.Loc X [] w w25 [s_ob] [zab ([] ++ (cs12 ++ s_sp))]) hS10 hE25 q32
   have hc12 : (cs12 ++ s_sp).length = s_cap * rI.sz := zhc hc10 q32
   have K13 := ks w hS10
   refine ⟨?_, ?_⟩
   ·
    refine zan (i := 2) rfl rfl (zar (zae (v := (osv s_ob 0 s.length s_cap)) rfl zrr)) ?_
    refine zan (i := 3) rfl rfl (zar (zae (v := (zI j10)) rfl zrr)) ?_
    exact zcd
   obtain ⟨x14, n14, q34, q35, q36, h⟩ := zix h
   refine RlL.op (zbe (r := rI) (b := b10) (o := 0) (n := n14) (m := s.length) (xs := x13) (q := (0 + n14 * rI.sz)) zao ti3 (zem hb10) hl12 rfl q34 q36 rfl ?_)
   refine ⟨?_, ?_⟩
   ·
    exact zcd
   refine RlL_nil ?_
   obtain ⟨x15, n15, q38, q39, q40, h⟩ := zux h
   obtain rfl := zin q34 q38
   have f11 := (hE25.mono (K13 S))
   refine zdj (zdd (pre := []) (r := rI) (vs := [(zI x11)]) (a := x11) ti3 rfl rfl rfl rfl hL15 0 (congrArg some hb10) rfl f11 q36 rfl q40 ?_)
   have hl13 : s.length = List.length x15 := by rw [q40, List.length_set]; exact hl12
   intro w26 cs13 (hL16 : Go.X.Loc X [] w w26 [s_ob] [zab ([] ++ (cs13 ++ s_sp))]) hS11 hE26 q41
   have hc13 : (cs13 ++ s_sp).length = s_cap * rI.sz := zhc hc12 q41
   have K14 := ks w hS11
   refine zaq (zbf (zah rfl (zag (zae (v := (zI i10)) rfl ?_))))
   refine zag (zbx (x := i10) (y := 1) (z := (iw (i10 + 1))) rfl rfl rfl ?_)
   refine zag (zae (v := (zI j10)) rfl ?_)
   refine zag (OpY.sub (x := j10) (y := 1) (z := (iw (j10 - 1))) rfl rfl rfl ?_)
   refine zag (zaj (v := (zI (iw (i10 + 1)))) rfl ?_)
   refine zag (zaj (v := (zI (iw (j10 - 1)))) rfl (zaq ?_))
   have f12 := (hE26.mono (K14 S))
   obtain rfl := zad h
   refine zap ⟨(x15, (iw (i10 + 1)), (iw (j10 - 1))), rfl, ?_⟩
   exact ⟨cs13, _, (zef ⟨rfl, rfl, rfl, trivial⟩), hL16, (zak (zak (zak (zak K10 K11) K12) K13) K14), f12, hl13, hc13, trivial⟩
  replace h := ite_f hc11 h
  refine zca rfl ?_
  obtain rfl := zad h
  obtain rfl := hd10 _ rfl
  replace h := g10
  try dsimp only at h
  refine zap ?_
  exact ⟨s12, cs11, _, rfl, (zef zrt), hL10, K10, hE10, hl11, hc10, trivial⟩
 rintro _ w27 ⟨s11, cs10, u, rfl, rfl, hL17, K15, hE27, hl14, hc14, -⟩
 replace h := g10
 try dsimp only at h
 refine Swp.nil ?_
 obtain rfl := zad h
 refine ⟨[], trivial, ?_⟩
 exact ⟨cs10, s_sp, rfl, (by have h9 := hL17; (try rw [hl14] at h9); exact h9), K15, hl14, hE27, hc14, trivial⟩
theorem tchoose1_w (N : Nat) (other : Int) (ca : (List Bool)) (cb : (List (List UInt8))) (cc : (List UInt8)) (ca_b : Nat) (ca_v : Value) (cb_b : Nat) (cb_v : Value) (cc_b : Nat) (w : World) (S : Nat → Prop) (ca_at : At (vH w S [] w) ca_b 0 [ca_v]) (ca_h : Rs rBool (vH w S [] w) ca_v ca) (cb_at : At (vH w S [] w) cb_b 0 [cb_v]) (cb_h : Rs rStr (vH w S [] w) cb_v cb) (cc_at : At (vH w S [] w) cc_b 0 [(zS cc)]) (r : Bool) (h : tchoose1 N other ca cb cc = some r) :
  Calls Try.prog 62 #[(zI other), (zam (some ⟨ca_b, 0, none⟩)), (zam (some ⟨cb_b, 0, none⟩)), (zam (some ⟨cc_b, 0, none⟩))] w (Ret w (fun v w' => (zac r) = v ∧ True)) := by
 unfold tchoose1 at h
 have hL : vL w w [] [] := Go.X.Loc.begin0 w
 refine calls_of (l := [(zI other), (zam (some ⟨ca_b, 0, none⟩)), (zam (some ⟨cb_b, 0, none⟩)), (zam (some ⟨cc_b, 0, none⟩))]) (rl := [.tmp 5]) (n := 18) Try.func62 rfl rfl rfl (zai rfl) ?_
 refine zal (zah rfl (zag (zaj (v := zF) rfl ?_)))
 refine zaq (zal ?_)
 obtain ⟨x1, n3, q4, q5, -, h⟩ := zix h
 obtain ⟨b6, o7, c8, vs9, q10, q11, f10, q12⟩ := zdc ca_h q5
 obtain rfl := q12
 by_cases hc10 : x1 = true
 ·
  replace h := ite_t hc10 h
  obtain ⟨x10, n10, q14, q15, -, h⟩ := zix h
  obtain ⟨b10, o10, c10, vs10, q16, q17, f11, q18⟩ := zdc cb_h q15
  obtain rfl := q18
  refine zcy 10 [] [] (fun W1 => [.det ca_v, .det (zI other), .det (zam (some ⟨b6, (o7 + n3 * rBool.sz), none⟩)), .det (zac x1), .det (zac x1), .det cb_v, .det (zI other), .det (zam (some ⟨b10, (o10 + n10 * rStr.sz), none⟩)), .det (zS x10), .det (zS cc)]) mixed rfl rfl rfl (fun _ => rfl) (fun _ => rfl) ?_ ?_
  ·
   intro W1 _
   exact trivial
  intro w10 hE10
  obtain ⟨hL10, K10⟩ := zl hL hE10
  refine zay (fun _ hE11 => zar (zce zcn rfl rfl zel (zcw ((ke hL10 hE11) S) (zcw (K10 S) ca_at)) (er rfl))) ?_
  refine zay (fun _ _ => zar (zae rfl (er rfl))) ?_
  refine zay (fun _ _ => zar (zby (r := rBool) (v := ca_v) (n := n3) (m := (o7 + n3 * rBool.sz)) zcn ti4 rfl q10 rfl q4 q5 rfl (er rfl))) ?_
  refine zay (fun _ hE14 => zar (zce zdr rfl rfl zel (zcw ((ke hL10 hE14) S) (zcw (K10 S) f10)) (er rfl))) ?_
  refine zay (fun _ _ => zar (zae rfl (er rfl))) ?_
  refine zay (fun _ hE16 => zde rfl rfl hc10 (zce zba rfl rfl zel (zcw ((ke hL10 hE16) S) (zcw (K10 S) cb_at)) (er rfl))) ?_
  refine zay (fun _ _ => zde rfl rfl hc10 (zae rfl (er rfl))) ?_
  refine zay (fun _ _ => zde rfl rfl hc10 (zby (r := rStr) (v := cb_v) (n := n10) (m := (o10 + n10 * rStr.sz)) zba ti9 rfl q16 rfl q14 q15 rfl (er rfl))) ?_
  refine zay (fun _ hE19 => zde rfl rfl hc10 (zce zax rfl rfl zel (zcw ((ke hL10 hE19) S) (zcw (K10 S) f11)) (er rfl))) ?_
  refine zay (fun _ hE20 => zde rfl rfl hc10 (zce zax rfl rfl zel (zcw ((ke hL10 hE20) S) (zcw (K10 S) cc_at)) (er rfl))) ?_
  refine zdh ?_
  rintro w21 Z29 hE21 hZ20 ⟨-⟩ ap10
  have hB10 := @zhb w10 Z29
  have hL11 := hL10.ext hE21
  refine zaz rfl rfl hc10 (OpY.sEql (x := x10) (y := cc) rfl rfl ?_)
  refine zag (zbn (t := x1) (v := (zac (decide (x10 = cc)))) rfl hc10 rfl ?_)
  refine zag (zaj (v := (zac (decide (x10 = cc)))) rfl ?_)
  refine zaq (zbt ?_)
  obtain rfl := zad h
  refine ⟨[(zac (decide (x10 = cc)))], zrt, ⟨_, rfl, hL11.done, ?_⟩⟩
  exact zrt
 replace h := ite_f hc10 h
 refine zcy 10 [] [] (fun W1 => [.det ca_v, .det (zI other), .det (zam (some ⟨b6, (o7 + n3 * rBool.sz), none⟩)), .det (zac x1), .det (zac x1), .det undef, .det undef, .det undef, .det undef, .det undef]) mixed rfl rfl rfl (fun _ => rfl) (fun _ => rfl) ?_ ?_
 ·
  intro W1 _
  exact trivial
 intro w22 hE22
 obtain ⟨hL12, K16⟩ := zl hL hE22
 refine zay (fun _ hE23 => zar (zce zcn rfl rfl zel (zcw ((ke hL12 hE23) S) (zcw (K16 S) ca_at)) (er rfl))) ?_
 refine zay (fun _ _ => zar (zae rfl (er rfl))) ?_
 refine zay (fun _ _ => zar (zby (r := rBool) (v := ca_v) (n := n3) (m := (o7 + n3 * rBool.sz)) zcn ti4 rfl q10 rfl q4 q5 rfl (er rfl))) ?_
 refine zay (fun _ hE26 => zar (zce zdr rfl rfl zel (zcw ((ke hL12 hE26) S) (zcw (K16 S) f10)) (er rfl))) ?_
 refine zay (fun _ _ => zar (zae rfl (er rfl))) ?_
 refine zay (fun _ _ => zdn rfl rfl (zeg hc10) (er rfl)) ?_
 refine zay (fun _ _ => zdn rfl rfl (zeg hc10) (er rfl)) ?_
 refine zay (fun _ _ => zdn rfl rfl (zeg hc10) (er rfl)) ?_
 refine zay (fun _ _ => zdn rfl rfl (zeg hc10) (er rfl)) ?_
 refine zay (fun _ _ => zdn rfl rfl (zeg hc10) (er rfl)) ?_
 refine zdh ?_
 rintro w33 Z40 hE33 hZ31 ⟨-⟩ ap11
 have hB11 := @zhb w22 Z40
 have hL13 := hL12.ext hE33
 refine zbg rfl rfl (zeg hc10) ?_
 refine zag (zbh (t := x1) (v := zF) rfl (zeg hc10) rfl ?_)
 refine zag (zaj (v := zF) rfl ?_)
 refine zaq (zbt ?_)
 obtain rfl := zad h
 refine ⟨[zF], zrt, ⟨_, rfl, hL13.done, ?_⟩⟩
 exact zrt
theorem tchoose_w (N : Nat) : ∀ (l : (List TClass)) (order : (List Int)) (words : (List (List UInt8))) (known : (List Bool)) (l_v : Value) (order_v : Value) (words_ob : Option Nat) (words_cap : Nat) (words_cs : List Value) (words_sp : List Value) (known_ob : Option Nat) (known_cap : Nat) (known_cs : List Value) (known_sp : List Value) (X : List (Option Nat)) (w : World) (S : Nat → Prop) (hL : Go.X.Loc X [] w w [words_ob, known_ob] [zab ([] ++ (words_cs ++ words_sp)), zab ([] ++ (known_cs ++ known_sp))]) (l_h : Rs rTClass (vH w S [words_ob, known_ob] w) l_v l) (order_h : Rs rI (vH w S [words_ob, known_ob] w) order_v order) (words_hE : Els rStr (vH w S [words_ob, known_ob] w) words_cs words) (words_hc : (words_cs ++ words_sp).length = words_cap * rStr.sz) (known_hE : Els rBool (vH w S [words_ob, known_ob] w) known_cs known) (known_hc : (known_cs ++ known_sp).length = known_cap * rBool.sz) (r : (Bool × Bool × (List (List UInt8)) × (List Bool))) (h : tchoose N l order words known = some r), Calls Try.prog 36 #[l_v, order_v, (osv words_ob 0 words.length words_cap), (osv known_ob 0 known.length known_cap)] w (fun e w' => ∃ (o2_cs : List Value) (o2_sp : List Value) (o3_cs : List Value) (o3_sp : List Value), e = Ending.returned (Value.tuple #[(bif r.1 then (osv words_ob 0 words.length words_cap) else zat none 0 0), (zac r.2.1)]) ∧ Go.X.Loc X [] w w' [words_ob, known_ob] [zab ([] ++ (o2_cs ++ o2_sp)), zab ([] ++ (o3_cs ++ o3_sp))] ∧ Keep w.heap.size [words_ob, known_ob] w [words_ob, known_ob] w' ∧ List.length words = List.length r.2.2.1 ∧ Els rStr (vH w S [words_ob, known_ob] w') o2_cs r.2.2.1 ∧ (o2_cs ++ o2_sp).length = words_cap * rStr.sz ∧ List.length known = List.length r.2.2.2 ∧ Els rBool (vH w S [words_ob, known_ob] w') o3_cs r.2.2.2 ∧ (o3_cs ++ o3_sp).length = known_cap * rBool.sz ∧ True) := by
 induction N with
 | zero => intro l order words known l_v order_v words_ob words_cap words_cs words_sp known_ob known_cap known_cs known_sp X w S hL l_h order_h words_hE words_hc known_hE known_hc r h; cases (show (none : Option (Bool × Bool × (List (List UInt8)) × (List Bool))) = some r from h)
 | succ N ih =>
  intro l order words known l_v order_v words_ob words_cap words_cs words_sp known_ob known_cap known_cs known_sp X w S hL l_h order_h words_hE words_hc known_hE known_hc r h
  replace h : tchoose_step N (tchoose N) l order words known = some r := h
  unfold tchoose_step at h
  refine calls_of (l := [l_v, order_v, (osv words_ob 0 words.length words_cap), (osv known_ob 0 known.length known_cap)]) (rl := [.tmp 8, .tmp 9]) (n := 61) Try.func36 rfl rfl rfl (zai rfl) ?_
  refine zal (zah rfl (zag (zdp (cs := [(osv words_ob 0 words.length words_cap)]) rfl (zes (zen words_ob 0 words.length words_cap)) hL ?_)))
  intro b3 w4 hL5 hS7
  have K6 := ks w hS7
  refine zag (zdp (cs := [(osv known_ob 0 known.length known_cap)]) rfl (zes (zen known_ob 0 known.length known_cap)) hL5 ?_)
  intro b8 w9 hL10 hS10
  have K10 := ks w hS10
  refine zag (zaj (v := zN) rfl ?_)
  refine zag (zaj (v := zF) rfl ?_)
  refine zaq (zal (zal (zah rfl (zag (zae (v := order_v) rfl ?_)))))
  have f10 := ((order_h.mono (K6 S)).mono (K10 S))
  refine zag (zcf (v := order_v) zao rfl f10 ?_)
  refine zag (zcv (x := (order.length : Int)) (y := 0) (((order.length : Int) : Int) = 0) rfl rfl zbi (zaq ?_))
  refine zbj (((order.length : Int) : Int) = 0) rfl (fun hc10 => ?_) (fun hc10 => ?_)
  ·
   replace h := ite_t hc10 h
   refine zal (zah rfl (zag (zav (v := (osv words_ob 0 words.length words_cap)) zba rfl rfl (hL10.at 1 rfl rfl) rfl ?_)))
   refine zag (zaj (v := (osv words_ob 0 words.length words_cap)) rfl ?_)
   refine zag (zaj (v := zT) rfl (zaq ?_))
   have hp10 := hL10.pick [2, 3] rfl rfl rfl
   have hL11 : Go.X.Loc X [] w w9 [words_ob, known_ob] [zab ([] ++ (words_cs ++ words_sp)), zab ([] ++ (known_cs ++ known_sp))] := hp10.1
   have K11 := ks w hp10.2
   refine zbt ?_
   obtain rfl := zad h
   refine ⟨[(osv words_ob 0 words.length words_cap), zT], ⟨rfl, rfl, trivial⟩, ?_⟩
   have f11 := (((words_hE.mono (K6 S)).mono (K10 S)).mono (K11 S))
   have f12 := (((known_hE.mono (K6 S)).mono (K10 S)).mono (K11 S))
   exact ⟨words_cs, words_sp, known_cs, known_sp, rfl, hL11, (zak (zak K6 K10) K11), rfl, f11, words_hc, rfl, f12, known_hc, trivial⟩
  replace h := ite_f hc10 h
  refine zbl (zal (zah rfl (zag (zae (v := order_v) rfl ?_))))
  obtain ⟨x10, n10, q11, q12, -, h⟩ := zix h
  obtain ⟨b10, o10, c10, vs10, q13, q14, f13, q15⟩ := zdc f10 q12
  obtain rfl := q15
  refine zag (zby (r := rI) (v := order_v) (n := n10) (m := (o10 + n10 * rI.sz)) zao ti3 rfl q13 rfl q11 q12 rfl ?_)
  refine zag (zce (v := (zI x10)) zaw rfl rfl zel f13 ?_)
  refine zag (zaj (v := (zI x10)) rfl ?_)
  refine zaq (zal (zah rfl (zag (zav (v := (osv known_ob 0 known.length known_cap)) zcn rfl rfl (hL10.at 0 rfl rfl) rfl ?_))))
  refine zag (zae (v := (zI x10)) rfl ?_)
  obtain ⟨x11, n11, q17, q18, q19, h⟩ := zix h
  have f14 := ((known_hE.mono (K6 S)).mono (K10 S))
  obtain ⟨b11, hb10⟩ := hL10.row_some 3 rfl rfl (zev (pre := []) f14 q18 (Nat.lt_of_sub_eq_succ rfl))
  refine zag (zbe (r := rBool) (b := b11) (o := 0) (n := n11) (m := known.length) (xs := known) (q := (0 + n11 * rBool.sz)) zcn ti4 (zem hb10) rfl rfl q17 q19 rfl ?_)
  obtain ⟨x12, n12, q21, q22, q23, h⟩ := zux h
  obtain rfl := zin q17 q21
  refine zdj (zdd (pre := []) (r := rBool) (vs := [zT]) (a := true) ti4 rfl rfl rfl rfl hL10 3 (congrArg some hb10) rfl f14 q19 rfl q23 ?_)
  have hl10 : known.length = List.length x12 := by rw [q23, List.length_set]
  intro w10 cs10 (hL12 : Go.X.Loc X [] w w10 [some b8, some b3, words_ob, known_ob] [zab [(osv known_ob 0 known.length known_cap)], zab [(osv words_ob 0 words.length words_cap)], zab ([] ++ (words_cs ++ words_sp)), zab ([] ++ (cs10 ++ known_sp))]) hS11 hE10 q24
  have hc11 : (cs10 ++ known_sp).length = known_cap * rBool.sz := by have := known_hc; rw [List.length_append] at this ⊢; rw [q24]; exact this
  have K12 := ks w hS11
  refine zaq (zal (zal (zah rfl (zag (zae (v := l_v) rfl ?_)))))
  refine zag (zae (v := (zI x10)) rfl ?_)
  obtain ⟨x13, n13, q26, q27, -, h⟩ := zix h
  have f15 := (((l_h.mono (K6 S)).mono (K10 S)).mono (K12 S))
  obtain ⟨b12, o11, c11, vs11, q28, q29, f16, q30⟩ := zdc f15 q27
  obtain ⟨v10, v11, v12, rfl, k10, k11, k12, -⟩ := rTClass_open q30
  refine zag (zby (r := rTClass) (v := l_v) (n := n13) (m := (o11 + n13 * rTClass.sz)) zas ti56 rfl q28 rfl q26 q27 rfl ?_)
  have f17 := (f16.part (us := [v11]) 3 rfl)
  refine zag (zau (q := (o11 + n13 * rTClass.sz) + 3) zbo rfl ti27 rfl rfl rfl ?_)
  refine zag (zce (v := v11) zba rfl rfl zel f17 ?_)
  refine zag (zcf (v := v11) zba rfl k11 ?_)
  refine zag (zae (v := (zI 0)) rfl (zaq ?_))
  obtain ⟨s10, hl11, g10⟩ := zee h
  refine zbs (fun e w' => ∃ (words10 : (List (List UInt8))) (known10 : (List Bool)) (sp10 : List Value) (cs11 : List Value) (sp11 : List Value) (cs12 : List Value) (u : Env), (Sum.inl (words10, known10)) = s10 ∧ e = upds [(2, (osv words_ob 0 words.length words_cap)), (3, (osv known_ob 0 known.length known_cap)), (7, (zam (some ⟨b8, 0, none⟩))), (10, (zI x10))] u ∧ Go.X.Loc X [] w w' [words_ob, known_ob, some b8] [zab ([] ++ (cs11 ++ sp10)), zab ([] ++ (cs12 ++ sp11)), zab [(osv known_ob 0 known.length known_cap)]] ∧ Keep w.heap.size [some b8, some b3, words_ob, known_ob] w10 [words_ob, known_ob, some b8] w' ∧ Els rStr (vH w S [words_ob, known_ob, some b8] w') cs11 words10 ∧ words.length = List.length words10 ∧ (cs11 ++ sp10).length = words_cap * rStr.sz ∧ Els rBool (vH w S [words_ob, known_ob, some b8] w') cs12 known10 ∧ known.length = List.length known10 ∧ (cs12 ++ sp11).length = known_cap * rBool.sz ∧ True) ?_ ?_
  ·
   refine zbc ?_
   have hp11 := hL12.pick [2, 3, 1, 0] rfl rfl rfl
   have hL13 : Go.X.Loc X [] w w10 [words_ob, known_ob, some b3, some b8] [zab ([] ++ (words_cs ++ words_sp)), zab ([] ++ (cs10 ++ known_sp)), zab [(osv words_ob 0 words.length words_cap)], zab [(osv known_ob 0 known.length known_cap)]] := hp11.1
   have K13 := ks w hp11.2
   have f18 := ((((words_hE.mono (K6 S)).mono (K10 S)).mono (K12 S)).mono (K13 S))
   have f19 := ((hE10.mono (K12 S)).mono (K13 S))
   refine zbw hl11 (fun (ss : ((List (List UInt8)) × (List Bool) × Int)) (e : Env) (w' : World) => match ss with | (words11, known11, x14) => ∃ (sp12 : List Value) (cs13 : List Value) (sp13 : List Value) (cs14 : List Value) (u : Env), e = upds [(0, l_v), (1, order_v), (2, (osv words_ob 0 words.length words_cap)), (3, (osv known_ob 0 known.length known_cap)), (6, (zam (some ⟨b3, 0, none⟩))), (7, (zam (some ⟨b8, 0, none⟩))), (10, (zI x10)), (29, v11), (30, (zI (x13.words.length : Int))), (31, (zI x14))] u ∧ Go.X.Loc X [] w w' [words_ob, known_ob, some b3, some b8] [zab ([] ++ (cs13 ++ sp12)), zab ([] ++ (cs14 ++ sp13)), zab [(osv words_ob 0 words.length words_cap)], zab [(osv known_ob 0 known.length known_cap)]] ∧ Keep w.heap.size [some b8, some b3, words_ob, known_ob] w10 [words_ob, known_ob, some b3, some b8] w' ∧ Els rStr (vH w S [words_ob, known_ob, some b3, some b8] w') cs13 words11 ∧ words.length = List.length words11 ∧ (cs13 ++ sp12).length = words_cap * rStr.sz ∧ Els rBool (vH w S [words_ob, known_ob, some b3, some b8] w') cs14 known11 ∧ known.length = List.length known11 ∧ (cs14 ++ sp13).length = known_cap * rBool.sz ∧ True) ⟨words_sp, words_cs, known_sp, cs10, _, (zef ⟨rfl, rfl, rfl, rfl, rfl, rfl, rfl, rfl, rfl, rfl, trivial⟩), hL13, K13, f18, rfl, words_hc, f19, hl10, hc11, trivial⟩ ?_
   rintro ⟨words11, known11, x14⟩ oo _ w11 ⟨sp12, cs13, sp13, cs14, u, rfl, hL14, K14, hE11, hl12, hc12, hE12, hl13, hc13, -⟩ h hd10
   rw [tchoose_b1] at h
   refine zal (zah rfl (zag (zcg (x := x14) (y := (x13.words.length : Int)) ((x14 : Int) < (x13.words.length : Int)) rfl rfl zbi ?_)))
   refine zaq (zal ?_)
   refine zbj ((x14 : Int) < (x13.words.length : Int)) rfl (fun hc14 => ?_) (fun hc14 => ?_)
   ·
    replace h := ite_t hc14 h
    refine zbl (zal (zbc (zal (zah rfl ?_))))
    obtain ⟨x15, n14, q32, q33, -, h⟩ := zix h
    have f20 := (k11.mono (K14 S))
    obtain ⟨b13, o12, c12, vs12, q34, q35, f21, q36⟩ := zdc f20 q33
    obtain rfl := q36
    refine zag (zby (r := rStr) (v := v11) (n := n14) (m := (o12 + n14 * rStr.sz)) zba ti9 rfl q34 rfl q32 q33 rfl ?_)
    refine zag (zce (v := (zS x15)) zax rfl rfl zel f21 ?_)
    refine zag (zdu (cs := [(zaf (s8 []))]) ti9 rfl hL14 ?_)
    intro b14 w12 hL15 hS12
    have K15 := ks w hS12
    refine zdj (zdg (vs := [(zS x15)]) ti9 rfl rfl rfl rfl (zei rfl zeu) hL15 0 rfl rfl (zai rfl) ?_)
    intro w13 (hL16 : Go.X.Loc X [] w w13 [some b14, words_ob, known_ob, some b3, some b8] [zab [(zS x15)], zab ([] ++ (cs13 ++ sp12)), zab ([] ++ (cs14 ++ sp13)), zab [(osv words_ob 0 words.length words_cap)], zab [(osv known_ob 0 known.length known_cap)]]) hS13
    have K16 := ks w hS13
    refine zaq (zal (zal (zah rfl (zag (zae (v := l_v) rfl ?_)))))
    refine zag (zae (v := (zI x10)) rfl ?_)
    obtain ⟨x16, n15, q38, q39, -, h⟩ := zix h
    have f22 := (((f15.mono (K14 S)).mono (K15 S)).mono (K16 S))
    obtain ⟨b15, o13, c13, vs13, q40, q41, f23, q42⟩ := zdc f22 q39
    obtain ⟨v13, v14, v15, rfl, k13, k14, k15, -⟩ := rTClass_open q42
    refine zag (zby (r := rTClass) (v := l_v) (n := n15) (m := (o13 + n15 * rTClass.sz)) zas ti56 rfl q40 rfl q38 q39 rfl ?_)
    have f24 := (f23.part (us := [v15]) 4 rfl)
    refine zag (zau (q := (o13 + n15 * rTClass.sz) + 4) zbo rfl ti22 rfl rfl rfl ?_)
    refine zag (zce (v := v15) zao rfl rfl zel f24 ?_)
    refine zag (OpY.makeFunc (vs := [(zam (some ⟨b8, 0, none⟩)), (zam (some ⟨b3, 0, none⟩)), (zam (some ⟨b14, 0, none⟩))]) rfl ?_)
    obtain ⟨r10, q43, h⟩ := zee h
    have f25 := ((hE12.mono (K15 S)).mono (K16 S))
    have f26 := ((hE11.mono (K15 S)).mono (K16 S))
    refine zag (zbz en50 rfl rfl (containsInt_w N x16.apart (fun y10 => tchoose1 N y10 known11 words11 x15) v15 (Value.func (.func 62) #[] #[(zam (some ⟨b8, 0, none⟩)), (zam (some ⟨b3, 0, none⟩)), (zam (some ⟨b14, 0, none⟩))]) _ Any (k15.mono vw_any) (fun w9 hE9 y11 z9 hz9 => ⟨62, [(zam (some ⟨b8, 0, none⟩)), (zam (some ⟨b3, 0, none⟩)), (zam (some ⟨b14, 0, none⟩))], rfl, en62, (tchoose1_w N y11 known11 words11 x15 b8 (osv known_ob 0 known.length known_cap) b3 (osv words_ob 0 words.length words_cap) b14 _ Any (own_any ((hL16.at 4 rfl rfl).ext hE9)) ((zej (pre := []) (o := 0) (n := known.length) (cap := known_cap) (hL16.at 2 rfl rfl) f25 vw_any rfl rfl hl13 hc13).mono (any_ext hE9)) (own_any ((hL16.at 3 rfl rfl).ext hE9)) ((zej (pre := []) (o := 0) (n := words.length) (cap := words_cap) (hL16.at 1 rfl rfl) f26 vw_any rfl rfl hl12 hc12).mono (any_ext hE9)) (own_any ((hL16.at 0 rfl rfl).ext hE9)) z9 hz9)⟩) r10 q43) ?_)
    rintro _ w14 hE13 ⟨rfl, -⟩
    obtain ⟨hL17, K17⟩ := zl hL16 hE13
    refine zaq ?_
    refine zch r10 rfl (fun hc15 => ?_) (fun hc15 => ?_)
    ·
     replace h := ite_t hc15 h
     refine zca rfl (zah rfl (zag (zbx (x := x14) (y := 1) (z := (iw (x14 + 1))) rfl rfl rfl ?_)))
     refine zag (zae (v := (zI (iw (x14 + 1)))) rfl (zaq ?_))
     have hp12 := hL17.pick [1, 2, 3, 4] rfl rfl rfl
     have hL18 : Go.X.Loc X [] w w14 [words_ob, known_ob, some b3, some b8] [zab ([] ++ (cs13 ++ sp12)), zab ([] ++ (cs14 ++ sp13)), zab [(osv words_ob 0 words.length words_cap)], zab [(osv known_ob 0 known.length known_cap)]] := hp12.1
     have K18 := ks w hp12.2
     have f27 := ((f26.mono (K17 S)).mono (K18 S))
     have f28 := ((f25.mono (K17 S)).mono (K18 S))
     obtain rfl := zad h
     refine zap ⟨(words11, known11, (iw (x14 + 1))), rfl, ?_⟩
     exact ⟨sp12, cs13, sp13, cs14, _, (zef ⟨rfl, rfl, rfl, rfl, rfl, rfl, rfl, rfl, rfl, rfl, trivial⟩), hL18, (zak (zak (zak (zak K14 K15) K16) K17) K18), f27, hl12, hc12, f28, hl13, hc13, trivial⟩
    replace h := ite_f hc15 h
    refine zbl (zal (zah rfl (zag (zav (v := (osv words_ob 0 words.length words_cap)) zba rfl rfl (hL17.at 3 rfl rfl) rfl ?_))))
    refine zag (zae (v := (zI x10)) rfl ?_)
    refine zag (zav (v := (zS x15)) zax rfl rfl (hL17.at 0 rfl rfl) rfl ?_)
    obtain ⟨x17, n16, q45, q46, q47, h⟩ := zix h
    have f29 := (f26.mono (K17 S))
    obtain ⟨b16, hb11⟩ := hL17.row_some 1 rfl rfl (zev (pre := []) f29 q46 (Nat.lt_of_sub_eq_succ rfl))
    refine zag (zbe (r := rStr) (b := b16) (o := 0) (n := n16) (m := words.length) (xs := words11) (q := (0 + n16 * rStr.sz)) zba ti9 (zem hb11) hl12 rfl q45 q47 rfl ?_)
    obtain ⟨x18, n17, q49, q50, q51, h⟩ := zux h
    obtain rfl := zin q45 q49
    refine zdj (zdd (pre := []) (r := rStr) (vs := [(zS x15)]) (a := x15) ti9 rfl rfl rfl rfl hL17 1 (congrArg some hb11) rfl f29 q47 rfl q51 ?_)
    have hl14 : words.length = List.length x18 := by rw [q51, List.length_set]; exact hl12
    intro w15 cs15 (hL19 : Go.X.Loc X [] w w15 [some b14, words_ob, known_ob, some b3, some b8] [zab [(zS x15)], zab ([] ++ (cs15 ++ sp12)), zab ([] ++ (cs14 ++ sp13)), zab [(osv words_ob 0 words.length words_cap)], zab [(osv known_ob 0 known.length known_cap)]]) hS14 hE14 q52
    have hc16 : (cs15 ++ sp12).length = words_cap * rStr.sz := zhc hc12 q52
    have K19 := ks w hS14
    refine zaq (zal ?_)
    obtain ⟨x19, q53, h⟩ := zee h
    obtain ⟨m10, n18, q54, q55, q56, q57, q58⟩ := cut_some q53
    refine Swp.drawF (O := [some b14, words_ob, known_ob, some b3, some b8]) [5] [0, 1, 3, 4, 6, 7, 8, 9, 10] [0, 1, 3, 4] [(2, 49)] [(47, l_v), (48, order_v), (50, (osv words_ob 0 words.length words_cap)), (51, (osv known_ob 0 known.length known_cap))] (fun f v O w' => Rs rI (vH w S O w') v (bif Nat.beq f 2 then x19 else [])) w.heap.size mixed rfl rfl rfl rfl (fun b hb => hL19.own.lt b hb) hL19.size (fun _ _ _ _ _ _ h hs => h.mono (hs _)) (FloatP.cons rfl (fun w1 O1 hK hs hO => zar (OpY.cutRoX (l := m10) (h' := n18) zao ti3 rfl (((((((f10.mono (K12 S)).mono (K14 S)).mono (K15 S)).mono (K16 S)).mono (K17 S)).mono (K19 S)).mono (hK S)) (.inr ⟨_, _, rfl, by rw [← q54]; rfl⟩) (.inl ⟨rfl, by omega⟩) q56 q57 q58 (fun v kf => ⟨Ext.refl _, kf⟩))) FloatP.nil) ?_
    intro w16 hE15
    obtain ⟨hL20, K20⟩ := zl hL19 hE15
    refine ⟨?_, ?_⟩
    ·
     intro w17 hE16
     have hL21 := hL20.ext hE16
     refine zan (i := 0) rfl rfl (zar (zae (v := l_v) rfl zrr)) ?_
     refine zan (i := 1) rfl rfl (zar (zae (v := order_v) rfl zrr)) ?_
     refine zan (i := 3) rfl rfl (zar (zav (v := (osv words_ob 0 words.length words_cap)) zba rfl rfl (hL21.at 3 rfl rfl) rfl zrr)) ?_
     refine zan (i := 4) rfl rfl (zar (zav (v := (osv known_ob 0 known.length known_cap)) zcn rfl rfl (hL21.at 4 rfl rfl) rfl zrr)) ?_
     exact zcd
    refine zdm (m := 0) [5] rfl rfl (fun q hq => ?_)
    obtain rfl := List.mem_singleton.1 hq
    refine zdt rfl ?_
    intro w18 V10 hE17 hp13
    obtain ⟨hL22, K21⟩ := zl hL20 hE17
    have f30 : Rs rI (vH w S [some b14, words_ob, known_ob, some b3, some b8] w18) (V10 2) x19 := hp13 (2, 49) (by decide) rfl
    obtain ⟨r11, q59, h⟩ := zee h
    have hL23 := hL22.lendW [1, 2] rfl rfl rfl
    have f31 := ((((f22.mono (K17 S)).mono (K19 S)).mono (K20 S)).mono (K21 S))
    have f32 := (((hE14.mono (K19 S)).mono (K20 S)).mono (K21 S))
    have f33 := ((((f25.mono (K17 S)).mono (K19 S)).mono (K20 S)).mono (K21 S))
    refine zds en36 rfl rfl (calls_args (by rw [← hl14, ← hl13]; first | done | rfl) (ih l x19 x18 known11 l_v (V10 2) words_ob words_cap cs15 sp12 known_ob known_cap cs14 sp13 [words_ob, known_ob] _ Any (by have h9 := hL23; (try rw [hl14] at h9); (try rw [hl13] at h9); exact h9) (f31.mono (zcr [1, 2] rfl)) (f30.mono (zcr [1, 2] rfl)) (f32.mono (zcr [1, 2] rfl)) hc16 (f33.mono (zcr [1, 2] rfl)) hc13 r11 q59)) ?_
    rintro _ w19 ⟨cs16, sp14, cs17, sp15, rfl, hL24, K22, hl15, hE18, hc17, hl16, hE19, hc18, -⟩
    try rw [← hl14]
    refine ⟨_, rfl, ?_⟩
    have hp14 := hL22.backW [1, 2] [0, 3, 4] rfl rfl rfl rfl hL24
    have hL25 : Go.X.Loc X [] w w19 [words_ob, known_ob, some b14, some b3, some b8] [zab ([] ++ (cs16 ++ sp14)), zab ([] ++ (cs17 ++ sp15)), zab [(zS x15)], zab [(osv words_ob 0 words.length words_cap)], zab [(osv known_ob 0 known.length known_cap)]] := (by have h9 := hp14.1; (try rw [← (hl14.trans hl15)] at h9); (try rw [← (hl13.trans hl16)] at h9); exact h9)
    have K23 := ks w hp14.2
    have hE20 : Els rStr (vH w S [words_ob, known_ob, some b14, some b3, some b8] w19) cs16 r11.2.2.1 := zci (fun _ _ _ _ h => h) hE18
    have hE21 : Els rBool (vH w S [words_ob, known_ob, some b14, some b3, some b8] w19) cs17 r11.2.2.2 := zci (fun _ _ _ _ h => h) hE19
    refine ⟨_, [6, 7, 8, 9, 10], [(46, (Value.tuple #[(bif r11.1 then (osv words_ob 0 words.length words_cap) else zat none 0 0), (zac r11.2.1)])), (53, (bif r11.1 then (osv words_ob 0 words.length words_cap) else zat none 0 0)), (54, (zac r11.2.1)), (13, (bif r11.1 then (osv words_ob 0 words.length words_cap) else zat none 0 0)), (14, (zac r11.2.1))], K23, (fun b hb => hL25.own.lt b hb), hL25.size, rfl, rfl, ?_⟩
    refine ⟨?_, ?_⟩
    ·
     intro w20 hE22
     refine zan (i := 1) rfl rfl (zar (zae (v := order_v) rfl zrr)) ?_
     refine zan (i := 6) rfl rfl (zar (zae (v := (Value.tuple #[(bif r11.1 then (osv words_ob 0 words.length words_cap) else zat none 0 0), (zac r11.2.1)])) rfl zrr)) ?_
     refine zan (i := 7) rfl rfl (zar (zck (vs := [(bif r11.1 then (osv words_ob 0 words.length words_cap) else zat none 0 0), (zac r11.2.1)]) (v := (bif r11.1 then (osv words_ob 0 words.length words_cap) else zat none 0 0)) rfl rfl zrr)) ?_
     refine zan (i := 8) rfl rfl (zar (zck (vs := [(bif r11.1 then (osv words_ob 0 words.length words_cap) else zat none 0 0), (zac r11.2.1)]) (v := (zac r11.2.1)) rfl rfl zrr)) ?_
     refine zan (i := 9) rfl rfl (zar (zaj (v := (bif r11.1 then (osv words_ob 0 words.length words_cap) else zat none 0 0)) rfl zrr)) ?_
     refine zan (i := 10) rfl rfl (zar (zaj (v := (zac r11.2.1)) rfl zrr)) ?_
     exact zcd
    refine RlF.fin ?_
    intro w21 V11 hE23
    obtain ⟨hL26, K24⟩ := zl hL25 hE23
    refine zal (zah rfl (zag (zae (v := (zac r11.2.1)) rfl (zaq ?_))))
    refine zch r11.2.1 rfl (fun hc19 => ?_) (fun hc19 => ?_)
    ·
     replace h := ite_t hc19 h
     refine zal (zah rfl (zag (zae (v := (bif r11.1 then (osv words_ob 0 words.length words_cap) else zat none 0 0)) rfl ?_)))
     refine zag (zaj (v := (bif r11.1 then (osv words_ob 0 words.length words_cap) else zat none 0 0)) rfl ?_)
     refine zag (zaj (v := zT) rfl (zaq ?_))
     have hp15 := hL26.pick [0, 1] rfl rfl rfl
     have hL27 : Go.X.Loc X [] w w21 [words_ob, known_ob] [zab ([] ++ (cs16 ++ sp14)), zab ([] ++ (cs17 ++ sp15))] := hp15.1
     have K25 := ks w hp15.2
     refine zbt ?_
     obtain rfl := zad h
     obtain rfl := hd10 _ rfl
     replace h := g10
     try dsimp only at h
     obtain rfl := zad h
     refine ⟨[(bif r11.1 then (osv words_ob 0 words.length words_cap) else zat none 0 0), zT], ⟨rfl, rfl, trivial⟩, ?_⟩
     have f34 := ((hE20.mono (K24 S)).mono (K25 S))
     have f35 := ((hE21.mono (K24 S)).mono (K25 S))
     exact ⟨cs16, sp14, cs17, sp15, rfl, (by have h9 := hL27; (try rw [(hl14.trans hl15)] at h9); (try rw [(hl13.trans hl16)] at h9); exact h9), (zak (zak (zak (zak (zak (zak (zak (zak (zak (zak (zak (zak K6 K10) K12) K14) K15) K16) K17) K19) K20) K21) K23) K24) K25), (hl14.trans hl15), f34, hc17, (hl13.trans hl16), f35, hc18, trivial⟩
    replace h := ite_f hc19 h
    refine zbl (zbf (zah rfl (zag (zbx (x := x14) (y := 1) (z := (iw (x14 + 1))) rfl rfl rfl ?_))))
    refine zag (zae (v := (zI (iw (x14 + 1)))) rfl (zaq ?_))
    have hp16 := hL26.pick [0, 1, 3, 4] rfl rfl rfl
    have hL28 : Go.X.Loc X [] w w21 [words_ob, known_ob, some b3, some b8] [zab ([] ++ (cs16 ++ sp14)), zab ([] ++ (cs17 ++ sp15)), zab [(osv words_ob 0 words.length words_cap)], zab [(osv known_ob 0 known.length known_cap)]] := hp16.1
    have K26 := ks w hp16.2
    have f36 := ((hE20.mono (K24 S)).mono (K26 S))
    have f37 := ((hE21.mono (K24 S)).mono (K26 S))
    obtain rfl := zad h
    refine zap ⟨(r11.2.2.1, r11.2.2.2, (iw (x14 + 1))), rfl, ?_⟩
    exact ⟨sp14, cs16, sp15, cs17, _, (zef ⟨rfl, rfl, rfl, rfl, rfl, rfl, rfl, rfl, rfl, rfl, trivial⟩), hL28, (zak (zak (zak (zak (zak (zak (zak (zak (zak K14 K15) K16) K17) K19) K20) K21) K23) K24) K26), f36, (hl14.trans hl15), hc17, f37, (hl13.trans hl16), hc18, trivial⟩
   replace h := ite_f hc14 h
   refine zca rfl ?_
   have hp17 := hL14.pick [0, 1, 3] rfl rfl rfl
   have hL29 : Go.X.Loc X [] w w11 [words_ob, known_ob, some b8] [zab ([] ++ (cs13 ++ sp12)), zab ([] ++ (cs14 ++ sp13)), zab [(osv known_ob 0 known.length known_cap)]] := hp17.1
   have K27 := ks w hp17.2
   have f38 := (hE11.mono (K27 S))
   have f39 := (hE12.mono (K27 S))
   obtain rfl := zad h
   obtain rfl := hd10 _ rfl
   replace h := g10
   try dsimp only at h
   refine zap ?_
   exact ⟨words11, known11, sp12, cs13, sp13, cs14, _, rfl, (zef ⟨rfl, rfl, rfl, rfl, trivial⟩), hL29, (zak K14 K27), f38, hl12, hc12, f39, hl13, hc13, trivial⟩
  rintro _ w22 ⟨words10, known10, sp10, cs11, sp11, cs12, u, rfl, rfl, hL30, K28, hE24, hl17, hc20, hE25, hl18, hc21, -⟩
  replace h := g10
  try dsimp only at h
  refine zal (zah rfl (zag (zav (v := (osv known_ob 0 known.length known_cap)) zcn rfl rfl (hL30.at 2 rfl rfl) rfl ?_)))
  refine zag (zae (v := (zI x10)) rfl ?_)
  obtain ⟨x20, n19, q61, q62, q63, h⟩ := zix h
  obtain ⟨b17, hb12⟩ := hL30.row_some 1 rfl rfl (zev (pre := []) hE25 q62 (Nat.lt_of_sub_eq_succ rfl))
  refine zag (zbe (r := rBool) (b := b17) (o := 0) (n := n19) (m := known.length) (xs := known10) (q := (0 + n19 * rBool.sz)) zcn ti4 (zem hb12) hl18 rfl q61 q63 rfl ?_)
  obtain ⟨x21, n20, q65, q66, q67, h⟩ := zux h
  obtain rfl := zin q61 q65
  refine zdj (zdd (pre := []) (r := rBool) (vs := [zF]) (a := false) ti4 rfl rfl rfl rfl hL30 1 (congrArg some hb12) rfl hE25 q63 rfl q67 ?_)
  have hl19 : known.length = List.length x21 := by rw [q67, List.length_set]; exact hl18
  intro w23 cs18 (hL31 : Go.X.Loc X [] w w23 [words_ob, known_ob, some b8] [zab ([] ++ (cs11 ++ sp10)), zab ([] ++ (cs18 ++ sp11)), zab [(osv known_ob 0 known.length known_cap)]]) hS15 hE26 q68
  have hc22 : (cs18 ++ sp11).length = known_cap * rBool.sz := zhc hc21 q68
  have K29 := ks w hS15
  refine zaq (zal (zah rfl (zag (zaj (v := zN) rfl ?_))))
  refine zag (zaj (v := zF) rfl (zaq ?_))
  have hp18 := hL31.pick [0, 1] rfl rfl rfl
  have hL32 : Go.X.Loc X [] w w23 [words_ob, known_ob] [zab ([] ++ (cs11 ++ sp10)), zab ([] ++ (cs18 ++ sp11))] := hp18.1
  have K30 := ks w hp18.2
  refine zbt ?_
  obtain rfl := zad h
  refine ⟨[zN, zF], ⟨rfl, rfl, trivial⟩, ?_⟩
  have f40 := ((hE24.mono (K29 S)).mono (K30 S))
  have f41 := ((hE26.mono (K29 S)).mono (K30 S))
  exact ⟨cs11, sp10, cs18, sp11, rfl, (by have h9 := hL32; (try rw [hl17] at h9); (try rw [hl19] at h9); exact h9), (zak (zak (zak (zak (zak K6 K10) K12) K28) K29) K30), hl17, f40, hc20, hl19, f41, hc22, trivial⟩
theorem insSort_w (N : Nat) (data : (List Int)) (a : Int) (b : Int) (cmp : (Int → Int → Option Int)) (data_ob : Option Nat) (data_cap : Nat) (data_cs : List Value) (data_sp : List Value) (cmp_v : Value) (X : List (Option Nat)) (w : World) (S : Nat → Prop) (hL : Go.X.Loc X [] w w [data_ob] [zab ([] ++ (data_cs ++ data_sp))]) (data_hE : Els rI (vH w S [data_ob] w) data_cs data) (data_hc : (data_cs ++ data_sp).length = data_cap * rI.sz) (cmp_h : ∀ w' : World, Xte X w w' → ∀ (xa_ : Int) (xb_ : Int), ∀ z, cmp xa_ xb_ = some z → FunOk Try.prog cmp_v [(zI xa_), (zI xb_)] w' (fun v w'' => zI z = v ∧ True)) (r : (List Int)) (h : insSort N data a b cmp = some r) :
  Calls Try.prog 72 #[(osv data_ob 0 data.length data_cap), (zI a), (zI b), cmp_v] w (fun e w' => ∃ (o0_cs : List Value) (o0_sp : List Value), e = Ending.returned (Value.tuple #[]) ∧ Go.X.Loc X [] w w' [data_ob] [zab ([] ++ (o0_cs ++ o0_sp))] ∧ Keep w.heap.size [data_ob] w [data_ob] w' ∧ List.length data = List.length r ∧ Els rI (vH w S [data_ob] w') o0_cs r ∧ (o0_cs ++ o0_sp).length = data_cap * rI.sz ∧ True) := by
 unfold insSort at h
 refine calls_of (l := [(osv data_ob 0 data.length data_cap), (zI a), (zI b), cmp_v]) (rl := []) (n := 53) Try.func72 rfl rfl rfl (zai rfl) ?_
 refine zal (zah rfl (zag (zae (v := (zI a)) rfl ?_)))
 refine zag (zbx (x := a) (y := 1) (z := (iw (a + 1))) rfl rfl rfl ?_)
 refine zag (zaj (v := (zI (iw (a + 1)))) rfl (zaq ?_))
 obtain ⟨s10, hl10, g10⟩ := zee h
 refine zbs (fun e w' => ∃ (data10 : (List Int)) (cs10 : List Value) (u : Env), data10 = s10 ∧ e = upds [(0, (osv data_ob 0 data.length data_cap))] u ∧ Go.X.Loc X [] w w' [data_ob] [zab ([] ++ (cs10 ++ data_sp))] ∧ Keep w.heap.size [data_ob] w [data_ob] w' ∧ Els rI (vH w S [data_ob] w') cs10 data10 ∧ data.length = List.length data10 ∧ (cs10 ++ data_sp).length = data_cap * rI.sz ∧ True) ?_ ?_
 ·
  refine zbc ?_
  refine zbw hl10 (fun (ss : ((List Int) × Int)) (e : Env) (w' : World) => match ss with | (data11, i10) => ∃ (cs11 : List Value) (u : Env), e = upds [(0, (osv data_ob 0 data.length data_cap)), (1, (zI a)), (2, (zI b)), (3, cmp_v), (8, (zI i10))] u ∧ Go.X.Loc X [] w w' [data_ob] [zab ([] ++ (cs11 ++ data_sp))] ∧ Keep w.heap.size [data_ob] w [data_ob] w' ∧ Els rI (vH w S [data_ob] w') cs11 data11 ∧ data.length = List.length data11 ∧ (cs11 ++ data_sp).length = data_cap * rI.sz ∧ True) ⟨data_cs, _, (zef ⟨rfl, rfl, rfl, rfl, rfl, trivial⟩), hL, zbp, data_hE, rfl, data_hc, trivial⟩ ?_
  rintro ⟨data11, i10⟩ oo _ w10 ⟨cs11, u, rfl, hL10, K10, hE10, hl11, hc10, -⟩ h hd10
  rw [insSort_b1] at h
  refine zal (zal (zah rfl (zag (zae (v := (zI i10)) rfl ?_))))
  refine zag (zae (v := (zI b)) rfl ?_)
  refine zag (zcg (x := i10) (y := b) ((i10 : Int) < b) rfl rfl zbi (zaq ?_))
  refine zbj ((i10 : Int) < b) rfl (fun hc11 => ?_) (fun hc11 => ?_)
  ·
   replace h := ite_t hc11 h
   refine zbl (zal (zbc (zal (zah rfl (zag (zae (v := (zI i10)) rfl ?_))))))
   refine zag (zaj (v := (zI i10)) rfl (zaq ?_))
   obtain ⟨s11, hl12, g11⟩ := zee h
   refine zbs (fun e w' => ∃ (data12 : (List Int)) (cs12 : List Value) (u : Env), data12 = s11 ∧ e = upds [(0, (osv data_ob 0 data.length data_cap)), (1, (zI a)), (2, (zI b)), (3, cmp_v), (8, (zI i10))] u ∧ Go.X.Loc X [] w w' [data_ob] [zab ([] ++ (cs12 ++ data_sp))] ∧ Keep w.heap.size [data_ob] w10 [data_ob] w' ∧ Els rI (vH w S [data_ob] w') cs12 data12 ∧ data.length = List.length data12 ∧ (cs12 ++ data_sp).length = data_cap * rI.sz ∧ True) ?_ ?_
   ·
    refine zbc ?_
    refine zbw hl12 (fun (ss : ((List Int) × Int)) (e : Env) (w' : World) => match ss with | (data13, j10) => ∃ (cs13 : List Value) (u : Env), e = upds [(0, (osv data_ob 0 data.length data_cap)), (1, (zI a)), (2, (zI b)), (3, cmp_v), (8, (zI i10)), (9, (zI j10))] u ∧ Go.X.Loc X [] w w' [data_ob] [zab ([] ++ (cs13 ++ data_sp))] ∧ Keep w.heap.size [data_ob] w10 [data_ob] w' ∧ Els rI (vH w S [data_ob] w') cs13 data13 ∧ data.length = List.length data13 ∧ (cs13 ++ data_sp).length = data_cap * rI.sz ∧ True) ⟨cs11, _, (zef ⟨rfl, rfl, rfl, rfl, rfl, rfl, trivial⟩), hL10, zbp, hE10, hl11, hc10, trivial⟩ ?_
    rintro ⟨data13, j10⟩ oo _ w11 ⟨cs13, u, rfl, hL11, K11, hE11, hl13, hc12, -⟩ h hd11
    rw [insSort_b2] at h
    refine zal (zal ?_)
    obtain ⟨s12, h, g12⟩ := zee h
    refine zbs (fun e w' => ∃ (x10 : Bool) (u : Env), x10 = s12 ∧ e = upds [(0, (osv data_ob 0 data.length data_cap)), (1, (zI a)), (2, (zI b)), (3, cmp_v), (8, (zI i10)), (9, (zI j10)), (34, (zac x10))] u ∧ Go.X.Loc X [] w w' [data_ob] [zab ([] ++ (cs13 ++ data_sp))] ∧ Keep w.heap.size [data_ob] w11 [data_ob] w' ∧ True) ?_ ?_
    ·
     by_cases hc13 : (j10 : Int) > a
     ·
      replace h := ite_t hc13 h
      obtain ⟨x11, n10, q11, q12, q13, h⟩ := zix h
      obtain ⟨b10, hb10⟩ := hL11.row_some 0 rfl rfl (zev (pre := []) hE11 q12 (Nat.lt_of_sub_eq_succ rfl))
      obtain ⟨vs10, q14, q15, q16⟩ := zeo (pre := []) (sp := data_sp) hE11 q12
      obtain rfl := q15
      obtain ⟨x12, n11, q18, q19, q20, h⟩ := zix h
      obtain ⟨vs11, q21, q22, q23⟩ := zeo (pre := []) (sp := data_sp) hE11 q19
      obtain rfl := q22
      refine zcy 14 [] [] (fun W1 => [.det (zI j10), .det (zI a), .det (zac (decide ((j10 : Int) > a))), .det (zac (decide ((j10 : Int) > a))), .det cmp_v, .det (osv data_ob 0 data.length data_cap), .det (zI j10), .det (zam (some ⟨b10, (0 + n10 * rI.sz), none⟩)), .det (zI x11), .det (osv data_ob 0 data.length data_cap), .det (zI j10), .det (zI (iw (j10 - 1))), .det (zam (some ⟨b10, (0 + n11 * rI.sz), none⟩)), .det (zI x12)]) mixed rfl rfl rfl (fun _ => rfl) (fun _ => rfl) ?_ ?_
      ·
       intro W1 _
       exact trivial
      intro w12 hE12
      obtain ⟨hL12, K12⟩ := zl hL11 hE12
      refine zay (fun _ _ => zar (zae rfl (er rfl))) ?_
      refine zay (fun _ _ => zar (zae rfl (er rfl))) ?_
      refine zay (fun _ _ => zar (OpY.gtr ((j10 : Int) > a) rfl rfl zbi (er rfl))) ?_
      refine zay (fun _ _ => zar (zae rfl (er rfl))) ?_
      refine zay (fun _ _ => zde rfl rfl (zed hc13) (zae rfl (er rfl))) ?_
      refine zay (fun _ _ => zde rfl rfl (zed hc13) (zae rfl (er rfl))) ?_
      refine zay (fun _ _ => zde rfl rfl (zed hc13) (zae rfl (er rfl))) ?_
      refine zay (fun _ _ => zde rfl rfl (zed hc13) (zbe (r := rI) (b := b10) (o := 0) (n := n10) (m := data.length) (xs := data13) (q := (0 + n10 * rI.sz)) zao ti3 (zem hb10) hl13 rfl q11 q13 rfl (er rfl))) ?_
      refine zay (fun _ hE21 => zde rfl rfl (zed hc13) (zbu zaw rfl rfl (zeq hb10 ((hL12.ext hE21).at 0 rfl rfl)) q16 (er rfl))) ?_
      refine zay (fun _ _ => zde rfl rfl (zed hc13) (zae rfl (er rfl))) ?_
      refine zay (fun _ _ => zde rfl rfl (zed hc13) (zae rfl (er rfl))) ?_
      refine zay (fun _ _ => zde rfl rfl (zed hc13) (OpY.sub rfl rfl rfl (er rfl))) ?_
      refine zay (fun _ _ => zde rfl rfl (zed hc13) (zbe (r := rI) (b := b10) (o := 0) (n := n11) (m := data.length) (xs := data13) (q := (0 + n11 * rI.sz)) zao ti3 (zem hb10) hl13 rfl q18 q20 rfl (er rfl))) ?_
      refine zay (fun _ hE26 => zde rfl rfl (zed hc13) (zbu zaw rfl rfl (zeq hb10 ((hL12.ext hE26).at 0 rfl rfl)) q23 (er rfl))) ?_
      refine zdh ?_
      rintro w27 Z33 hE27 hZ24 ⟨-⟩ ap10
      have hB10 := @zhb w12 Z33
      obtain ⟨hL15, K13⟩ := zl hL12 hE27
      obtain ⟨r10, q24, h⟩ := zee h
      refine zaz rfl rfl (zed hc13) (OpY.callF rfl rfl (cmp_h _ hL15.xte x11 x12  r10 q24) ?_)
      rintro _ w28 hE28 ⟨rfl, -⟩
      obtain ⟨hL16, K14⟩ := zl hL15 hE28
      refine zaz rfl rfl (zed hc13) (zcg (x := r10) (y := 0) ((r10 : Int) < 0) rfl rfl zbi ?_)
      refine zag (zbn (t := (decide ((j10 : Int) > a))) (v := (zac (decide ((r10 : Int) < 0)))) rfl (zed hc13) rfl (zaq ?_))
      obtain rfl := zad h
      refine zap ?_
      exact ⟨(decide ((r10 : Int) < 0)), _, rfl, (zef ⟨rfl, rfl, rfl, rfl, rfl, rfl, rfl, trivial⟩), hL16, (zak (zak K12 K13) K14), trivial⟩
     replace h := ite_f hc13 h
     refine zcy 14 [] [] (fun W1 => [.det (zI j10), .det (zI a), .det (zac (decide ((j10 : Int) > a))), .det (zac (decide ((j10 : Int) > a))), .det undef, .det undef, .det undef, .det undef, .det undef, .det undef, .det undef, .det undef, .det undef, .det undef]) mixed rfl rfl rfl (fun _ => rfl) (fun _ => rfl) ?_ ?_
     ·
      intro W1 _
      exact trivial
     intro w29 hE29
     obtain ⟨hL17, K15⟩ := zl hL11 hE29
     refine zay (fun _ _ => zar (zae rfl (er rfl))) ?_
     refine zay (fun _ _ => zar (zae rfl (er rfl))) ?_
     refine zay (fun _ _ => zar (OpY.gtr ((j10 : Int) > a) rfl rfl zbi (er rfl))) ?_
     refine zay (fun _ _ => zar (zae rfl (er rfl))) ?_
     refine zay (fun _ _ => zdn rfl rfl (zec hc13) (er rfl)) ?_
     refine zay (fun _ _ => zdn rfl rfl (zec hc13) (er rfl)) ?_
     refine zay (fun _ _ => zdn rfl rfl (zec hc13) (er rfl)) ?_
     refine zay (fun _ _ => zdn rfl rfl (zec hc13) (er rfl)) ?_
     refine zay (fun _ _ => zdn rfl rfl (zec hc13) (er rfl)) ?_
     refine zay (fun _ _ => zdn rfl rfl (zec hc13) (er rfl)) ?_
     refine zay (fun _ _ => zdn rfl rfl (zec hc13) (er rfl)) ?_
     refine zay (fun _ _ => zdn rfl rfl (zec hc13) (er rfl)) ?_
     refine zay (fun _ _ => zdn rfl rfl (zec hc13) (er rfl)) ?_
     refine zay (fun _ _ => zdn rfl rfl (zec hc13) (er rfl)) ?_
     refine zdh ?_
     rintro w44 Z48 hE44 hZ39 ⟨-⟩ ap11
     have hB11 := @zhb w29 Z48
     obtain ⟨hL18, K16⟩ := zl hL17 hE44
     refine zbg rfl rfl (zec hc13) (zbg rfl rfl (zec hc13) ?_)
     refine zag (zbh (t := (decide ((j10 : Int) > a))) (v := zF) rfl (zec hc13) rfl (zaq ?_))
     obtain rfl := zad h
     refine zap ?_
     exact ⟨false, _, rfl, (zef ⟨rfl, rfl, rfl, rfl, rfl, rfl, rfl, trivial⟩), hL18, (zak K15 K16), trivial⟩
    rintro _ w45 ⟨x10, u, rfl, rfl, hL19, K17, -⟩
    replace h := g12
    try dsimp only at h
    refine zch x10 rfl (fun hc14 => ?_) (fun hc14 => ?_)
    ·
     replace h := ite_t hc14 h
     refine zbl (zal (zbc ?_))
     obtain ⟨x13, n12, q26, q27, q28, h⟩ := zix h
     have f10 := (hE11.mono (K17 S))
     obtain ⟨b11, hb11⟩ := hL19.row_some 0 rfl rfl (zev (pre := []) f10 q27 (Nat.lt_of_sub_eq_succ rfl))
     obtain ⟨vs12, q29, q30, q31⟩ := zeo (pre := []) (sp := data_sp) f10 q27
     obtain rfl := q30
     obtain ⟨x14, n13, q33, q34, q35, h⟩ := zix h
     obtain ⟨vs13, q36, q37, q38⟩ := zeo (pre := []) (sp := data_sp) f10 q34
     obtain rfl := q37
     obtain ⟨x15, n14, q40, q41, q42, h⟩ := zix h
     obtain ⟨x16, n15, q44, q45, q46, h⟩ := zix h
     refine Swp.drawP [15, 17] [0, 1, 2, 3, 4, 5, 6, 7, 8, 9, 10, 11, 12, 13, 14, 16] [(37, (osv data_ob 0 data.length data_cap)), (38, (zI j10)), (39, (osv data_ob 0 data.length data_cap)), (40, (zI j10)), (41, (zI (iw (j10 - 1)))), (42, (osv data_ob 0 data.length data_cap)), (43, (zI j10)), (44, (zI (iw (j10 - 1)))), (45, (zam (some ⟨b11, (0 + n12 * rI.sz), none⟩))), (46, (zI x13)), (47, (osv data_ob 0 data.length data_cap)), (48, (zI j10)), (49, (zam (some ⟨b11, (0 + n13 * rI.sz), none⟩))), (50, (zI x14)), (51, (zam (some ⟨b11, (0 + n14 * rI.sz), none⟩))), (52, (zam (some ⟨b11, (0 + n15 * rI.sz), none⟩)))] mixed rfl rfl rfl rfl ?_
     intro w46 hE45
     obtain ⟨hL20, K18⟩ := zl hL19 hE45
     refine ⟨?_, ?_⟩
     ·
      refine zan (i := 0) rfl rfl (zar (zae (v := (osv data_ob 0 data.length data_cap)) rfl zrr)) ?_
      refine zan (i := 1) rfl rfl (zar (zae (v := (zI j10)) rfl zrr)) ?_
      refine zan (i := 2) rfl rfl (zar (zae (v := (osv data_ob 0 data.length data_cap)) rfl zrr)) ?_
      refine zan (i := 3) rfl rfl (zar (zae (v := (zI j10)) rfl zrr)) ?_
      refine zan (i := 4) rfl rfl (zar (OpY.sub (x := j10) (y := 1) (z := (iw (j10 - 1))) rfl rfl rfl zrr)) ?_
      refine zan (i := 5) rfl rfl (zar (zae (v := (osv data_ob 0 data.length data_cap)) rfl zrr)) ?_
      refine zan (i := 6) rfl rfl (zar (zae (v := (zI j10)) rfl zrr)) ?_
      refine zan (i := 7) rfl rfl (zar (OpY.sub (x := j10) (y := 1) (z := (iw (j10 - 1))) rfl rfl rfl zrr)) ?_
      refine zan (i := 8) rfl rfl (zar (zbe (r := rI) (b := b11) (o := 0) (n := n12) (m := data.length) (xs := data13) (q := (0 + n12 * rI.sz)) zao ti3 (zem hb11) hl13 rfl q26 q28 rfl zrr)) ?_
      refine zan (i := 9) rfl rfl (zar (zbu (v := (zI x13)) zaw rfl rfl (zeq hb11 (hL20.at 0 rfl rfl)) q31 zrr)) ?_
      refine zan (i := 10) rfl rfl (zar (zae (v := (osv data_ob 0 data.length data_cap)) rfl zrr)) ?_
      refine zan (i := 11) rfl rfl (zar (zae (v := (zI j10)) rfl zrr)) ?_
      refine zan (i := 12) rfl rfl (zar (zbe (r := rI) (b := b11) (o := 0) (n := n13) (m := data.length) (xs := data13) (q := (0 + n13 * rI.sz)) zao ti3 (zem hb11) hl13 rfl q33 q35 rfl zrr)) ?_
      refine zan (i := 13) rfl rfl (zar (zbu (v := (zI x14)) zaw rfl rfl (zeq hb11 (hL20.at 0 rfl rfl)) q38 zrr)) ?_
      refine zan (i := 14) rfl rfl (zar (zbe (r := rI) (b := b11) (o := 0) (n := n14) (m := data.length) (xs := data13) (q := (0 + n14 * rI.sz)) zao ti3 (zem hb11) hl13 rfl q40 q42 rfl zrr)) ?_
      refine zan (i := 16) rfl rfl (zar (zbe (r := rI) (b := b11) (o := 0) (n := n15) (m := data.length) (xs := data13) (q := (0 + n15 * rI.sz)) zao ti3 (zem hb11) hl13 rfl q44 q46 rfl zrr)) ?_
      exact zcd
     obtain ⟨x17, n16, q48, q49, q50, h⟩ := zux h
     obtain rfl := zin q40 q48
     have f11 := (f10.mono (K18 S))
     refine RlL.op0 (zdd (pre := []) (r := rI) (vs := [(zI x13)]) (a := x13) ti3 rfl rfl rfl rfl hL20 0 (congrArg some hb11) rfl f11 q42 rfl q50 ?_)
     have hl14 : data.length = List.length x17 := by rw [q50, List.length_set]; exact hl13
     intro w47 cs14 (hL21 : Go.X.Loc X [] w w47 [data_ob] [zab ([] ++ (cs14 ++ data_sp))]) hS10 hE46 q51
     have hc15 : (cs14 ++ data_sp).length = data_cap * rI.sz := zhc hc12 q51
     have K19 := ks w hS10
     refine ⟨?_, ?_⟩
     ·
      refine zan (i := 2) rfl rfl (zar (zae (v := (osv data_ob 0 data.length data_cap)) rfl zrr)) ?_
      refine zan (i := 3) rfl rfl (zar (zae (v := (zI j10)) rfl zrr)) ?_
      refine zan (i := 4) rfl rfl (zar (OpY.sub (x := j10) (y := 1) (z := (iw (j10 - 1))) rfl rfl rfl zrr)) ?_
      refine zan (i := 10) rfl rfl (zar (zae (v := (osv data_ob 0 data.length data_cap)) rfl zrr)) ?_
      refine zan (i := 11) rfl rfl (zar (zae (v := (zI j10)) rfl zrr)) ?_
      refine zan (i := 12) rfl rfl (zar (zbe (r := rI) (b := b11) (o := 0) (n := n13) (m := data.length) (xs := x17) (q := (0 + n13 * rI.sz)) zao ti3 (zem hb11) hl14 rfl q33 (Nat.lt_of_lt_of_eq q35 (Eq.trans (Eq.symm hl13) hl14)) rfl zrr)) ?_
      refine zan (i := 16) rfl rfl (zar (zbe (r := rI) (b := b11) (o := 0) (n := n15) (m := data.length) (xs := x17) (q := (0 + n15 * rI.sz)) zao ti3 (zem hb11) hl14 rfl q44 (Nat.lt_of_lt_of_eq q46 (Eq.trans (Eq.symm hl13) hl14)) rfl zrr)) ?_
      exact zcd
     obtain ⟨x18, n17, q53, q54, -, h⟩ := zix h
     obtain rfl := zin q44 q53
     have q55 := (List.getElem?_eq_some_iff.1 q54).1
     obtain ⟨x19, n18, q57, q58, q59, h⟩ := zux h
     obtain rfl := zin q44 q57
     have f12 := (hE46.mono (K19 S))
     refine RlL.op0 (zdd (pre := []) (r := rI) (vs := [(zI x14)]) (a := x14) ti3 rfl rfl rfl rfl hL21 0 (congrArg some hb11) rfl f12 q55 rfl q59 ?_)
     have hl15 : data.length = List.length x19 := by rw [q59, List.length_set]; exact hl14
     intro w48 cs15 (hL22 : Go.X.Loc X [] w w48 [data_ob] [zab ([] ++ (cs15 ++ data_sp))]) hS11 hE47 q60
     have hc16 : (cs15 ++ data_sp).length = data_cap * rI.sz := zhc hc15 q60
     have K20 := ks w hS11
     refine ⟨?_, ?_⟩
     ·
      exact zcd
     refine RlL.fin ?_
     refine zbf (zah rfl (zag (zae (v := (zI j10)) rfl ?_)))
     refine zag (OpY.sub (x := j10) (y := 1) (z := (iw (j10 - 1))) rfl rfl rfl ?_)
     refine zag (zaj (v := (zI (iw (j10 - 1)))) rfl (zaq ?_))
     have f13 := (hE47.mono (K20 S))
     obtain rfl := zad h
     refine zap ⟨(x19, (iw (j10 - 1))), rfl, ?_⟩
     exact ⟨cs15, _, (zef ⟨rfl, rfl, rfl, rfl, rfl, rfl, trivial⟩), hL22, (zak (zak (zak (zak K11 K17) K18) K19) K20), f13, hl15, hc16, trivial⟩
    replace h := ite_f hc14 h
    refine zca rfl ?_
    have f14 := (hE11.mono (K17 S))
    obtain rfl := zad h
    obtain rfl := hd11 _ rfl
    replace h := g11
    try dsimp only at h
    refine zap ?_
    exact ⟨data13, cs13, _, rfl, (zef ⟨rfl, rfl, rfl, rfl, rfl, trivial⟩), hL19, (zak K11 K17), f14, hl13, hc12, trivial⟩
   rintro _ w49 ⟨data12, cs12, u, rfl, rfl, hL23, K21, hE48, hl16, hc17, -⟩
   replace h := g11
   try dsimp only at h
   refine zbf (zah rfl (zag (zae (v := (zI i10)) rfl ?_)))
   refine zag (zbx (x := i10) (y := 1) (z := (iw (i10 + 1))) rfl rfl rfl ?_)
   refine zag (zaj (v := (zI (iw (i10 + 1)))) rfl (zaq ?_))
   obtain rfl := zad h
   refine zap ⟨(data12, (iw (i10 + 1))), rfl, ?_⟩
   exact ⟨cs12, _, (zef ⟨rfl, rfl, rfl, rfl, rfl, trivial⟩), hL23, (zak K10 K21), hE48, hl16, hc17, trivial⟩
  replace h := ite_f hc11 h
  refine zca rfl ?_
  obtain rfl := zad h
  obtain rfl := hd10 _ rfl
  replace h := g10
  try dsimp only at h
  refine zap ?_
  exact ⟨data11, cs11, _, rfl, (zef zrt), hL10, K10, hE10, hl11, hc10, trivial⟩
 rintro _ w50 ⟨data10, cs10, u, rfl, rfl, hL24, K22, hE49, hl17, hc18, -⟩
 replace h := g10
 try dsimp only at h
 refine Swp.nil ?_
 obtain rfl := zad h
 refine ⟨[], trivial, ?_⟩
 exact ⟨cs10, data_sp, rfl, (by have h9 := hL24; (try rw [hl17] at h9); exact h9), K22, hl17, hE49, hc18, trivial⟩
theorem stableSort_w (N : Nat) (data : (List Int)) (n : Int) (cmp : (Int → Int → Option Int)) (data_ob : Option Nat) (data_cap : Nat) (data_cs : List Value) (data_sp : List Value) (cmp_v : Value) (X : List (Option Nat)) (w : World) (S : Nat → Prop) (hL : Go.X.Loc X [] w w [data_ob] [zab ([] ++ (data_cs ++ data_sp))]) (data_hE : Els rI (vH w S [data_ob] w) data_cs data) (data_hc : (data_cs ++ data_sp).length = data_cap * rI.sz) (cmp_h : ∀ w' : World, Xte X w w' → ∀ (xa_ : Int) (xb_ : Int), ∀ z, cmp xa_ xb_ = some z → FunOk Try.prog cmp_v [(zI xa_), (zI xb_)] w' (fun v w'' => zI z = v ∧ True)) (r : (List Int)) (h : stableSort N data n cmp = some r) :
  Calls Try.prog 61 #[(osv data_ob 0 data.length data_cap), (zI n), cmp_v] w (fun e w' => ∃ (o0_cs : List Value) (o0_sp : List Value), e = Ending.returned (Value.tuple #[]) ∧ Go.X.Loc X [] w w' [data_ob] [zab ([] ++ (o0_cs ++ o0_sp))] ∧ Keep w.heap.size [data_ob] w [data_ob] w' ∧ List.length data = List.length r ∧ Els rI (vH w S [data_ob] w') o0_cs r ∧ (o0_cs ++ o0_sp).length = data_cap * rI.sz ∧ True) := by
 unfold stableSort at h
 refine calls_of (l := [(osv data_ob 0 data.length data_cap), (zI n), cmp_v]) (rl := []) (n := 63) Try.func61 rfl rfl rfl (zai rfl) ?_
 refine zal (zah rfl (zag (zaj (v := (zI 20)) rfl ?_)))
 refine zaq (zal (zah rfl (zag (zae (v := (zI 20)) rfl ?_))))
 refine zag (zaj (v := (zI 0)) rfl ?_)
 refine zag (zaj (v := (zI 20)) rfl ?_)
 refine zaq (zal ?_)
 obtain ⟨s10, hl10, g10⟩ := zee h
 refine zbs (fun e w' => ∃ (data10 : (List Int)) (a10 : Int) (sp10 : List Value) (cs10 : List Value) (u : Env), (data10, a10) = s10 ∧ e = upds [(0, (osv data_ob 0 data.length data_cap)), (1, (zI n)), (2, cmp_v), (6, (zI 20)), (7, (zI a10))] u ∧ Go.X.Loc X [] w w' [data_ob] [zab ([] ++ (cs10 ++ sp10))] ∧ Keep w.heap.size [data_ob] w [data_ob] w' ∧ Els rI (vH w S [data_ob] w') cs10 data10 ∧ data.length = List.length data10 ∧ (cs10 ++ sp10).length = data_cap * rI.sz ∧ True) ?_ ?_
 ·
  refine zbc ?_
  refine zbw hl10 (fun (ss : ((List Int) × Int × Int)) (e : Env) (w' : World) => match ss with | (data11, a11, b10) => ∃ (sp11 : List Value) (cs11 : List Value) (u : Env), e = upds [(0, (osv data_ob 0 data.length data_cap)), (1, (zI n)), (2, cmp_v), (6, (zI 20)), (7, (zI a11)), (8, (zI b10))] u ∧ Go.X.Loc X [] w w' [data_ob] [zab ([] ++ (cs11 ++ sp11))] ∧ Keep w.heap.size [data_ob] w [data_ob] w' ∧ Els rI (vH w S [data_ob] w') cs11 data11 ∧ data.length = List.length data11 ∧ (cs11 ++ sp11).length = data_cap * rI.sz ∧ True) ⟨data_sp, data_cs, _, (zef ⟨rfl, rfl, rfl, rfl, rfl, rfl, trivial⟩), hL, zbp, data_hE, rfl, data_hc, trivial⟩ ?_
  rintro ⟨data11, a11, b10⟩ oo _ w10 ⟨sp11, cs11, u, rfl, hL10, K10, hE10, hl11, hc10, -⟩ h hd10
  rw [stableSort_b1] at h
  refine zal (zal (zah rfl (zag (zae (v := (zI b10)) rfl ?_))))
  refine zag (zae (v := (zI n)) rfl ?_)
  refine zag (zea (x := b10) (y := n) ((b10 : Int) ≤ n) rfl rfl zbi (zaq ?_))
  refine zbj ((b10 : Int) ≤ n) rfl (fun hc11 => ?_) (fun hc11 => ?_)
  ·
   replace h := ite_t hc11 h
   refine zbl (zbc (zal (zah rfl (zag (zae (v := (osv data_ob 0 data.length data_cap)) rfl ?_)))))
   refine zag (zae (v := (zI a11)) rfl ?_)
   refine zag (zae (v := (zI b10)) rfl ?_)
   refine zag (zae (v := cmp_v) rfl ?_)
   obtain ⟨r10, q10, h⟩ := zee h
   have hL11 := hL10.lendW [0] rfl rfl rfl
   refine zag (zds en72 rfl rfl (calls_args (by rw [← hl11]; first | done | rfl) (insSort_w N data11 a11 b10 cmp data_ob data_cap cs11 sp11 cmp_v [data_ob] _ Any (by have h9 := hL11; (try rw [hl11] at h9); exact h9) (hE10.mono (zcr [0] rfl)) hc10 (fun w9 hE9 => cmp_h w9 (Xte.lent hL10 [0] rfl hE9)) r10 q10)) ?_)
   rintro _ w11 ⟨cs12, sp12, rfl, hL12, K11, hl12, hE11, hc12, -⟩
   refine ⟨_, rfl, ?_⟩
   have hp10 := hL10.backW [0] [] rfl rfl rfl rfl hL12
   have hL13 : Go.X.Loc X [] w w11 [data_ob] [zab ([] ++ (cs12 ++ sp12))] := (by have h9 := hp10.1; (try rw [← (hl11.trans hl12)] at h9); exact h9)
   have K12 := ks w hp10.2
   have hE12 : Els rI (vH w S [data_ob] w11) cs12 r10 := zci (fun _ _ _ _ h => h) hE11
   refine zaq (zal (zah rfl (zag (zae (v := (zI b10)) rfl ?_))))
   refine zag (zaj (v := (zI b10)) rfl ?_)
   refine zaq (zah rfl (zag (zae (v := (zI b10)) rfl ?_)))
   refine zag (zae (v := (zI 20)) rfl ?_)
   refine zag (zbx (x := b10) (y := 20) (z := (iw (b10 + 20))) rfl rfl rfl ?_)
   refine zag (zaj (v := (zI (iw (b10 + 20)))) rfl ?_)
   refine zaq (zbf ?_)
   obtain rfl := zad h
   refine zap ⟨(r10, b10, (iw (b10 + 20))), rfl, ?_⟩
   exact ⟨sp12, cs12, _, (zef ⟨rfl, rfl, rfl, rfl, rfl, rfl, trivial⟩), hL13, (zak K10 K12), hE12, (hl11.trans hl12), hc12, trivial⟩
  replace h := ite_f hc11 h
  refine zca rfl ?_
  obtain rfl := zad h
  obtain rfl := hd10 _ rfl
  replace h := g10
  try dsimp only at h
  refine zap ?_
  exact ⟨data11, a11, sp11, cs11, _, rfl, (zef ⟨rfl, rfl, rfl, rfl, rfl, trivial⟩), hL10, K10, hE10, hl11, hc10, trivial⟩
 rintro _ w12 ⟨data10, a10, sp10, cs10, u, rfl, rfl, hL14, K13, hE13, hl13, hc13, -⟩
 replace h := g10
 try dsimp only at h
 refine zal (zah rfl (zag (zae (v := (osv data_ob 0 data.length data_cap)) rfl ?_)))
 refine zag (zae (v := (zI a10)) rfl ?_)
 refine zag (zae (v := (zI n)) rfl ?_)
 refine zag (zae (v := cmp_v) rfl ?_)
 obtain ⟨r11, q11, h⟩ := zee h
 have hL15 := hL14.lendW [0] rfl rfl rfl
 refine zag (zds en72 rfl rfl (calls_args (by rw [← hl13]; first | done | rfl) (insSort_w N data10 a10 n cmp data_ob data_cap cs10 sp10 cmp_v [data_ob] _ Any (by have h9 := hL15; (try rw [hl13] at h9); exact h9) (hE13.mono (zcr [0] rfl)) hc13 (fun w9 hE9 => cmp_h w9 (Xte.lent hL14 [0] rfl hE9)) r11 q11)) ?_)
 rintro _ w13 ⟨cs13, sp13, rfl, hL16, K14, hl14, hE14, hc14, -⟩
 refine ⟨_, rfl, ?_⟩
 have hp11 := hL14.backW [0] [] rfl rfl rfl rfl hL16
 have hL17 : Go.X.Loc X [] w w13 [data_ob] [zab ([] ++ (cs13 ++ sp13))] := (by have h9 := hp11.1; (try rw [← (hl13.trans hl14)] at h9); exact h9)
 have K15 := ks w hp11.2
 have hE15 : Els rI (vH w S [data_ob] w13) cs13 r11 := zci (fun _ _ _ _ h => h) hE14
 refine zaq ?_
 obtain ⟨s11, hl15, g11⟩ := zee h
 refine zbs (fun e w' => ∃  (u : Env), () = s11 ∧ e = upds [(0, (osv data_ob 0 data.length data_cap))] u ∧ Go.X.Loc X [] w w' [data_ob] [zab ([] ++ (cs13 ++ sp13))] ∧ Keep w.heap.size [data_ob] w13 [data_ob] w' ∧ True) ?_ ?_
 ·
  refine zbc ?_
  refine zbw hl15 (fun (ss : Int) (e : Env) (w' : World) => match ss with | blockSize10 => ∃ (u : Env), e = upds [(0, (osv data_ob 0 data.length data_cap)), (1, (zI n)), (2, cmp_v), (6, (zI blockSize10))] u ∧ Go.X.Loc X [] w w' [data_ob] [zab ([] ++ (cs13 ++ sp13))] ∧ Keep w.heap.size [data_ob] w13 [data_ob] w' ∧ True) ⟨_, (zef ⟨rfl, rfl, rfl, rfl, trivial⟩), hL17, zbp, trivial⟩ ?_
  rintro blockSize10 oo _ w14 ⟨u, rfl, hL18, K16, -⟩ h hd11
  rw [stableSort_b2] at h
  refine zal (zal (zah rfl (zag (zae (v := (zI blockSize10)) rfl ?_))))
  refine zag (zae (v := (zI n)) rfl ?_)
  refine zag (zcg (x := blockSize10) (y := n) ((blockSize10 : Int) < n) rfl rfl zbi (zaq ?_))
  refine zbj ((blockSize10 : Int) < n) rfl (fun hc15 => ?_) (fun hc15 => ?_)
  ·
   replace h := ite_t hc15 h
   refine zbl (zbc (zal (zah rfl (zag (zae (v := (zI blockSize10)) rfl ?_)))))
   refine zag (OpY.mul (x := 2) (y := blockSize10) (z := (iw (2 * blockSize10))) rfl rfl rfl ?_)
   refine zag (zaj (v := (zI 0)) rfl ?_)
   refine zag (zaj (v := (zI (iw (2 * blockSize10)))) rfl ?_)
   refine zaq (zal ?_)
   obtain ⟨s12, hl16, g12⟩ := zee h
   refine zbs (fun e w' => ∃  (u : Env), () = s12 ∧ e = upds [(0, (osv data_ob 0 data.length data_cap)), (1, (zI n)), (2, cmp_v), (6, (zI blockSize10)), (7, (zI 0))] u ∧ Go.X.Loc X [] w w' [data_ob] [zab ([] ++ (cs13 ++ sp13))] ∧ Keep w.heap.size [data_ob] w14 [data_ob] w' ∧ True) ?_ ?_
   ·
    refine zbc ?_
    refine zbw hl16 (fun (ss : Unit) (e : Env) (w' : World) => match ss with | _ => ∃ (u : Env), e = upds [(0, (osv data_ob 0 data.length data_cap)), (1, (zI n)), (2, cmp_v), (6, (zI blockSize10)), (7, (zI 0)), (8, (zI (iw (2 * blockSize10))))] u ∧ Go.X.Loc X [] w w' [data_ob] [zab ([] ++ (cs13 ++ sp13))] ∧ Keep w.heap.size [data_ob] w14 [data_ob] w' ∧ True) ⟨_, (zef ⟨rfl, rfl, rfl, rfl, rfl, rfl, trivial⟩), hL18, zbp, trivial⟩ ?_
    rintro _ oo _ w15 ⟨u, rfl, hL19, K17, -⟩ h hd12
    rw [stableSort_b3] at h
    refine zal (zal (zah rfl (zag (zae (v := (zI (iw (2 * blockSize10)))) rfl ?_))))
    refine zag (zae (v := (zI n)) rfl ?_)
    refine zag (zea (x := (iw (2 * blockSize10))) (y := n) (((iw (2 * blockSize10)) : Int) ≤ n) rfl rfl zbi (zaq ?_))
    refine zbj (((iw (2 * blockSize10)) : Int) ≤ n) rfl (fun hc16 => ?_) (fun hc16 => ?_)
    ·
     replace h := ite_t hc16 h
     refine zbl (zbc (zal (zah rfl (zag (zae (v := (osv data_ob 0 data.length data_cap)) rfl ?_)))))
     refine zag (zae (v := (zI 0)) rfl ?_)
     refine zag (zae (v := (zI 0)) rfl ?_)
     refine zag (zae (v := (zI blockSize10)) rfl ?_)
     refine zag (zbx (x := 0) (y := blockSize10) (z := (iw (0 + blockSize10))) rfl rfl rfl ?_)
     refine zag (zae (v := (zI (iw (2 * blockSize10)))) rfl ?_)
     refine zag (zae (v := cmp_v) rfl ?_)
     cases h
    replace h := ite_f hc16 h
    refine zca rfl ?_
    obtain rfl := zad h
    obtain rfl := hd12 _ rfl
    replace h := g12
    try dsimp only at h
    refine zap ?_
    exact ⟨_, rfl, (zef ⟨rfl, rfl, rfl, rfl, rfl, trivial⟩), hL19, K17, trivial⟩
   rintro _ w16 ⟨u, rfl, rfl, hL20, K18, -⟩
   replace h := g12
   try dsimp only at h
   refine zal (zal (zah rfl (zag (zae (v := (zI 0)) rfl ?_))))
   refine zag (zae (v := (zI blockSize10)) rfl ?_)
   refine zag (zbx (x := 0) (y := blockSize10) (z := (iw (0 + blockSize10))) rfl rfl rfl ?_)
   refine zag (zaj (v := (zI (iw (0 + blockSize10)))) rfl ?_)
   refine zaq (zal (zah rfl (zag (zae (v := (zI (iw (0 + blockSize10)))) rfl ?_))))
   refine zag (zae (v := (zI n)) rfl ?_)
   refine zag (zcg (x := (iw (0 + blockSize10))) (y := n) (((iw (0 + blockSize10)) : Int) < n) rfl rfl zbi (zaq ?_))
   refine zbj (((iw (0 + blockSize10)) : Int) < n) rfl (fun hc17 => ?_) (fun hc17 => ?_)
   ·
    replace h := ite_t hc17 h
    refine zah rfl (zag (zae (v := (osv data_ob 0 data.length data_cap)) rfl ?_))
    refine zag (zae (v := (zI 0)) rfl ?_)
    refine zag (zae (v := (zI (iw (0 + blockSize10)))) rfl ?_)
    refine zag (zae (v := (zI n)) rfl ?_)
    refine zag (zae (v := cmp_v) rfl ?_)
    cases h
   replace h := ite_f hc17 h
   refine zbl (zah rfl (zag (zae (v := (zI blockSize10)) rfl ?_)))
   refine zag (OpY.mul (x := blockSize10) (y := 2) (z := (iw (blockSize10 * 2))) rfl rfl rfl ?_)
   refine zag (zaj (v := (zI (iw (blockSize10 * 2)))) rfl ?_)
   refine zaq (zbf ?_)
   obtain rfl := zad h
   refine zap ⟨(iw (blockSize10 * 2)), rfl, ?_⟩
   exact ⟨_, (zef ⟨rfl, rfl, rfl, rfl, trivial⟩), hL20, (zak K16 K18), trivial⟩
  replace h := ite_f hc15 h
  refine zca rfl ?_
  obtain rfl := zad h
  obtain rfl := hd11 _ rfl
  replace h := g11
  try dsimp only at h
  refine zap ?_
  exact ⟨_, rfl, (zef zrt), hL18, K16, trivial⟩
 rintro _ w17 ⟨u, rfl, rfl, hL21, K19, -⟩
 replace h := g11
 try dsimp only at h
 refine Swp.nil ?_
 obtain rfl := zad h
 refine ⟨[], trivial, ?_⟩
 have f10 := (hE15.mono (K19 S))
 exact ⟨cs13, sp13, rfl, (by have h9 := hL21; (try rw [(hl13.trans hl14)] at h9); exact h9), (zak (zak K13 K15) K19), (hl13.trans hl14), f10, hc14, trivial⟩
theorem sortStable_w (N : Nat) (x : (List Int)) (cmp : (Int → Int → Option Int)) (x_ob : Option Nat) (x_cap : Nat) (x_cs : List Value) (x_sp : List Value) (cmp_v : Value) (X : List (Option Nat)) (w : World) (S : Nat → Prop) (hL : Go.X.Loc X [] w w [x_ob] [zab ([] ++ (x_cs ++ x_sp))]) (x_hE : Els rI (vH w S [x_ob] w) x_cs x) (x_hc : (x_cs ++ x_sp).length = x_cap * rI.sz) (cmp_h : ∀ w' : World, Xte X w w' → ∀ (xa_ : Int) (xb_ : Int), ∀ z, cmp xa_ xb_ = some z → FunOk Try.prog cmp_v [(zI xa_), (zI xb_)] w' (fun v w'' => zI z = v ∧ True)) (r : (List Int)) (h : sortStable N x cmp = some r) :
  Calls Try.prog 33 #[(osv x_ob 0 x.length x_cap), cmp_v] w (fun e w' => ∃ (o0_cs : List Value) (o0_sp : List Value), e = Ending.returned (Value.tuple #[]) ∧ Go.X.Loc X [] w w' [x_ob] [zab ([] ++ (o0_cs ++ o0_sp))] ∧ Keep w.heap.size [x_ob] w [x_ob] w' ∧ List.length x = List.length r ∧ Els rI (vH w S [x_ob] w') o0_cs r ∧ (o0_cs ++ o0_sp).length = x_cap * rI.sz ∧ True) := by
 unfold sortStable at h
 refine calls_of (l := [(osv x_ob 0 x.length x_cap), cmp_v]) (rl := []) (n := 9) Try.func33 rfl rfl rfl (zai rfl) ?_
 refine zah rfl (zag (zae (v := (osv x_ob 0 x.length x_cap)) rfl ?_))
 refine zag (zae (v := (osv x_ob 0 x.length x_cap)) rfl ?_)
 refine zag (zcj (pre := []) (r := rI) (xs := x) zao rfl (hL.at 0 rfl rfl) x_hE rfl rfl ?_)
 refine zag (zae (v := cmp_v) rfl ?_)
 obtain ⟨r2, q3, h⟩ := zee h
 have hL4 := hL.lendW [0] rfl rfl rfl
 refine zag (zds en61 rfl rfl (stableSort_w N x (x.length : Int) cmp x_ob x_cap x_cs x_sp cmp_v [x_ob] _ Any hL4 (x_hE.mono (zcr [0] rfl)) x_hc (fun w9 hE9 => cmp_h w9 (Xte.lent hL [0] rfl hE9)) r2 q3) ?_)
 rintro _ w10 ⟨cs6, sp7, rfl, hL10, K10, hl8, hE9, hc10, -⟩
 refine ⟨_, rfl, ?_⟩
 have hp10 := hL.backW [0] [] rfl rfl rfl rfl hL10
 have hL11 : Go.X.Loc X [] w w10 [x_ob] [zab ([] ++ (cs6 ++ sp7))] := (by have h9 := hp10.1; (try rw [← hl8] at h9); exact h9)
 have K11 := ks w hp10.2
 have hE10 : Els rI (vH w S [x_ob] w10) cs6 r2 := zci (fun _ _ _ _ h => h) hE9
 refine zaq ?_
 refine Swp.nil ?_
 obtain rfl := zad h
 refine ⟨[], trivial, ?_⟩
 exact ⟨cs6, sp7, rfl, (by have h9 := hL11; (try rw [hl8] at h9); exact h9), K11, hl8, hE10, hc10, trivial⟩
theorem tSolve1_w (N : Nat) (a : Int) (b : Int) (ca : (List TClass)) (ca_b : Nat) (ca_v : Value) (w : World) (S : Nat → Prop) (ca_at : At (vH w S [] w) ca_b 0 [ca_v]) (ca_h : Rs rTClass (vH w S [] w) ca_v ca) (r : Int) (h : tSolve1 N a b ca = some r) :
  Calls Try.prog 34 #[(zI a), (zI b), (zam (some ⟨ca_b, 0, none⟩))] w (Ret w (fun v w' => (zI r) = v ∧ True)) := by
 unfold tSolve1 at h
 have hL : vL w w [] [] := Go.X.Loc.begin0 w
 refine calls_of (l := [(zI a), (zI b), (zam (some ⟨ca_b, 0, none⟩))]) (rl := [.tmp 5]) (n := 19) Try.func34 rfl rfl rfl (zai rfl) ?_
 refine zal (zah rfl (zag (zaj (v := (zI 0)) rfl ?_)))
 refine zaq (zal ?_)
 obtain ⟨x1, n3, q4, q5, -, h⟩ := zix h
 obtain ⟨b6, o7, c8, vs9, q10, q11, f10, q12⟩ := zdc ca_h q5
 obtain ⟨v10, v11, v12, rfl, k10, k11, k12, -⟩ := rTClass_open q12
 have f11 := (f10.part (us := [v11]) 3 rfl)
 obtain ⟨x10, n10, q14, q15, -, h⟩ := zix h
 obtain ⟨b10, o10, c10, vs10, q16, q17, f12, q18⟩ := zdc ca_h q15
 obtain ⟨v13, v14, v15, rfl, k13, k14, k15, -⟩ := rTClass_open q18
 have f13 := (f12.part (us := [v14]) 3 rfl)
 refine zcy 12 [] [] (fun W1 => [.det ca_v, .det (zI a), .det (zam (some ⟨b6, (o7 + n3 * rTClass.sz), none⟩)), .det (zam (some ⟨b6, (o7 + n3 * rTClass.sz) + 3, none⟩)), .det v11, .det (zI (x1.words.length : Int)), .det ca_v, .det (zI b), .det (zam (some ⟨b10, (o10 + n10 * rTClass.sz), none⟩)), .det (zam (some ⟨b10, (o10 + n10 * rTClass.sz) + 3, none⟩)), .det v14, .det (zI (x10.words.length : Int))]) mixed rfl rfl rfl (fun _ => rfl) (fun _ => rfl) ?_ ?_
 ·
  intro W1 _
  exact trivial
 intro w10 hE10
 obtain ⟨hL10, K10⟩ := zl hL hE10
 refine zay (fun _ hE11 => zar (zce zas rfl rfl zel (zcw ((ke hL10 hE11) S) (zcw (K10 S) ca_at)) (er rfl))) ?_
 refine zay (fun _ _ => zar (zae rfl (er rfl))) ?_
 refine zay (fun _ _ => zar (zby (r := rTClass) (v := ca_v) (n := n3) (m := (o7 + n3 * rTClass.sz)) zas ti56 rfl q10 rfl q4 q5 rfl (er rfl))) ?_
 refine zay (fun _ _ => zar (zau zbo rfl ti27 rfl rfl rfl (er rfl))) ?_
 refine zay (fun _ hE15 => zar (zce zba rfl rfl zel (zcw ((ke hL10 hE15) S) (zcw (K10 S) f11)) (er rfl))) ?_
 refine zay (fun _ hE16 => zar (zcf (v := v11) zba rfl ((k11.mono (K10 S)).mono ((ke hL10 hE16) S)) (er rfl))) ?_
 refine zay (fun _ hE17 => zar (zce zas rfl rfl zel (zcw ((ke hL10 hE17) S) (zcw (K10 S) ca_at)) (er rfl))) ?_
 refine zay (fun _ _ => zar (zae rfl (er rfl))) ?_
 refine zay (fun _ _ => zar (zby (r := rTClass) (v := ca_v) (n := n10) (m := (o10 + n10 * rTClass.sz)) zas ti56 rfl q16 rfl q14 q15 rfl (er rfl))) ?_
 refine zay (fun _ _ => zar (zau zbo rfl ti27 rfl rfl rfl (er rfl))) ?_
 refine zay (fun _ hE21 => zar (zce zba rfl rfl zel (zcw ((ke hL10 hE21) S) (zcw (K10 S) f13)) (er rfl))) ?_
 refine zay (fun _ hE22 => zar (zcf (v := v14) zba rfl ((k14.mono (K10 S)).mono ((ke hL10 hE22) S)) (er rfl))) ?_
 refine zdh ?_
 rintro w23 Z31 hE23 hZ22 ⟨-⟩ ap10
 have hB10 := @zhb w10 Z31
 have hL11 := hL10.ext hE23
 refine zag (OpY.sub (x := (x1.words.length : Int)) (y := (x10.words.length : Int)) (z := (iw ((x1.words.length : Int) - (x10.words.length : Int)))) rfl rfl rfl ?_)
 refine zag (zaj (v := (zI (iw ((x1.words.length : Int) - (x10.words.length : Int))))) rfl ?_)
 refine zaq (zbt ?_)
 obtain rfl := zad h
 refine ⟨[(zI (iw ((x1.words.length : Int) - (x10.words.length : Int))))], zrt, ⟨_, rfl, hL11.done, ?_⟩⟩
 exact zrt
theorem tSolve_w (N : Nat) (p : TProb) (p_v : Value) (p_v1 : Value) (p_v2 : Value) (p_v3 : Value) (p_v4 : Value) (w : World) (S : Nat → Prop) (p_h : Rs rI (vH w S [] w) p_v p.Min) (p_h1 : Rs rI (vH w S [] w) p_v1 p.Max) (p_h2 : Rs rTTest (vH w S [] w) p_v2 p.Tests) (p_h3 : Rs rArr2Int (vH w S [] w) p_v3 p.Same) (p_h4 : Rs rArr2Int (vH w S [] w) p_v4 p.Different) (r : ((List (List UInt8)) × Bool)) (h : tSolve N p = some r) :
  Calls Try.prog 17 #[(zbq #[p_v, p_v1, p_v2, p_v3, p_v4])] w (Ret w (fun v w' => ∃ (ob0 : Option Nat) (cap0 : Nat) (cs0 : List Value) (sp0 : List Value), .tuple #[(osv ob0 0 r.1.length cap0), (zac r.2)] = v ∧ NewOwn w w' [ob0] [zab ([] ++ (cs0 ++ sp0))] ∧ Els rStr (vH w None [ob0] w') cs0 r.1 ∧ (cs0 ++ sp0).length = cap0 * rStr.sz ∧ True)) := by
 unfold tSolve at h
 have hL : vL w w [] [] := Go.X.Loc.begin0 w
 refine calls_of (l := [(zbq #[p_v, p_v1, p_v2, p_v3, p_v4])]) (rl := [.tmp 2, .tmp 3]) (n := 185) Try.func17 rfl rfl rfl (zai rfl) ?_
 refine zal (zah rfl (zag (zdp (cs := [p_v, p_v1, p_v2, p_v3, p_v4]) rfl rfl hL ?_)))
 intro b1 w2 hL3 hS5
 have K4 := ks w hS5
 refine zag (zaj (v := zN) rfl ?_)
 refine zag (zaj (v := zF) rfl ?_)
 refine zaq (zal (zah rfl (zag (zct (vs := [p_v, p_v1, p_v2, p_v3, p_v4]) zco rfl ti31 rfl (hL3.at 0 rfl rfl) rfl rfl ?_))))
 obtain ⟨r6, q7, h⟩ := zee h
 have f10 := (p_h.mono (K4 S))
 have f11 := (p_h1.mono (K4 S))
 have f12 := (p_h2.mono (K4 S))
 have f13 := (p_h3.mono (K4 S))
 have f14 := (p_h4.mono (K4 S))
 refine zag (zbz en31 rfl rfl (tgathered_w N p p_v p_v1 p_v2 p_v3 p_v4 _ Any (f10.mono vw_any) (f11.mono vw_any) (f12.mono vw_any) (f13.mono vw_any) (f14.mono vw_any) r6 q7) ?_)
 rintro _ w10 hE10 ⟨ob8, cap9, cs10, sp10, ob10, cap10, cs11, sp11, rfl, hN10, hE11, hc10, hE12, hc11, -⟩
 replace hE11 := hE11.mono (zbv (S := None) hL3 [ob8, ob10])
 replace hE12 := hE12.mono (zbv (S := None) hL3 [ob8, ob10])
 have hp10 := hL3.adoptL hE10 hN10
 have hL10 := hp10.1
 refine zag (zae (v := (Value.tuple #[(osv ob8 0 r6.1.length cap9), (osv ob10 0 r6.2.1.length cap10), (zac r6.2.2)])) rfl ?_)
 refine zag (zck (vs := [(osv ob8 0 r6.1.length cap9), (osv ob10 0 r6.2.1.length cap10), (zac r6.2.2)]) (v := (osv ob8 0 r6.1.length cap9)) rfl rfl ?_)
 refine zag (zck (vs := [(osv ob8 0 r6.1.length cap9), (osv ob10 0 r6.2.1.length cap10), (zac r6.2.2)]) (v := (osv ob10 0 r6.2.1.length cap10)) rfl rfl ?_)
 refine zag (zck (vs := [(osv ob8 0 r6.1.length cap9), (osv ob10 0 r6.2.1.length cap10), (zac r6.2.2)]) (v := (zac r6.2.2)) rfl rfl ?_)
 refine zag (zdu (cs := [zN]) ti52 rfl hL10 ?_)
 intro b10 w11 hL11 hS10
 have K10 := ks w hS10
 refine zdj (zdg (vs := [(osv ob8 0 r6.1.length cap9)]) ti52 rfl rfl (zes (zen ob8 0 r6.1.length cap9)) rfl (zei (zen ob8 0 r6.1.length cap9) zeu) hL11 0 rfl rfl (zai rfl) ?_)
 intro w12 (hL12 : vL w w12 [some b10, ob8, ob10, some b1] [zab [(osv ob8 0 r6.1.length cap9)], zab ([] ++ (cs10 ++ sp10)), zab ([] ++ (cs11 ++ sp11)), zab [p_v, p_v1, p_v2, p_v3, p_v4]]) hS11
 have K11 := ks w hS11
 refine zag (zaj (v := (osv ob10 0 r6.2.1.length cap10)) rfl ?_)
 refine zag (zaj (v := (zac r6.2.2)) rfl ?_)
 refine zaq (zal (zal (zah rfl (zag (zae (v := (zac r6.2.2)) rfl ?_)))))
 refine zag (OpY.not (x := r6.2.2) rfl (zaq ?_))
 refine zch (!r6.2.2) rfl (fun hc12 => ?_) (fun hc12 => ?_)
 ·
  replace h := ite_t hc12 h
  refine zal (zah rfl (zag (zaj (v := zN) rfl ?_)))
  refine zag (zaj (v := zF) rfl (zaq ?_))
  have hp11 := hL12.addNil
  have hL13 : vL w w12 [none, some b10, ob8, ob10, some b1] [zab ([] ++ ([] ++ [])), zab [(osv ob8 0 r6.1.length cap9)], zab ([] ++ (cs10 ++ sp10)), zab ([] ++ (cs11 ++ sp11)), zab [p_v, p_v1, p_v2, p_v3, p_v4]] := hp11.1
  have hE13 : Els rStr (vH w None [none, some b10, ob8, ob10, some b1] w12) [] [] := zcm
  refine zbt ?_
  obtain rfl := zad h
  refine ⟨[(osv none 0 (List.length ([] : (List (List UInt8)))) 0), zF], ⟨rfl, rfl, trivial⟩, ⟨_, rfl, hL13.done, ?_⟩⟩
  exact ⟨none, 0, [], [], rfl, (hL13.newOwn [0] rfl rfl rfl), (hE13.mono (zdy [0] rfl)), (show ([] ++ [] : List Value).length = 0 * rStr.sz by simp), trivial⟩
 replace h := ite_f hc12 h
 refine zbl (zal (zal (zah rfl (zag (zav (v := (osv ob8 0 r6.1.length cap9)) zas rfl rfl (hL12.at 0 rfl rfl) rfl ?_)))))
 have f15 := ((hE11.mono (K10 None)).mono (K11 None))
 refine zag (zcj (pre := []) (r := rTClass) (xs := r6.1) zas rfl (hL12.at 1 rfl rfl) f15 rfl rfl ?_)
 refine zag (zae (v := (zI 0)) rfl (zaq ?_))
 obtain ⟨s10, hl10, g10⟩ := zee h
 refine zbs (fun e w' => ∃ (l10 : (List TClass)) (cs12 : List Value) (u : Env), (Sum.inl l10) = s10 ∧ e = upds [(4, (zam (some ⟨b10, 0, none⟩))), (5, (osv ob10 0 r6.2.1.length cap10))] u ∧ vL w w' [some b10, ob8, ob10] [zab [(osv ob8 0 r6.1.length cap9)], zab ([] ++ (cs12 ++ sp10)), zab ([] ++ (cs11 ++ sp11))] ∧ Keep w.heap.size [some b10, ob8, ob10, some b1] w12 [some b10, ob8, ob10] w' ∧ Els rTClass (vH w None [some b10, ob8, ob10] w') cs12 l10 ∧ r6.1.length = List.length l10 ∧ (cs12 ++ sp10).length = cap9 * rTClass.sz ∧ True) ?_ ?_
 ·
  refine zbc ?_
  have hp12 := hL12.pick [0, 1, 2] rfl rfl rfl
  have hL14 : vL w w12 [some b10, ob8, ob10] [zab [(osv ob8 0 r6.1.length cap9)], zab ([] ++ (cs10 ++ sp10)), zab ([] ++ (cs11 ++ sp11))] := hp12.1
  have K12 := ks w hp12.2
  have f16 := (f15.mono (K12 None))
  refine zbw hl10 (fun (ss : ((List TClass) × Int)) (e : Env) (w' : World) => match ss with | (l11, x10) => ∃ (cs13 : List Value) (u : Env), e = upds [(4, (zam (some ⟨b10, 0, none⟩))), (5, (osv ob10 0 r6.2.1.length cap10)), (32, (zI (r6.1.length : Int))), (33, (zI x10))] u ∧ vL w w' [some b10, ob8, ob10] [zab [(osv ob8 0 r6.1.length cap9)], zab ([] ++ (cs13 ++ sp10)), zab ([] ++ (cs11 ++ sp11))] ∧ Keep w.heap.size [some b10, ob8, ob10, some b1] w12 [some b10, ob8, ob10] w' ∧ Els rTClass (vH w None [some b10, ob8, ob10] w') cs13 l11 ∧ r6.1.length = List.length l11 ∧ (cs13 ++ sp10).length = cap9 * rTClass.sz ∧ True) ⟨cs10, _, (zef ⟨rfl, rfl, rfl, rfl, trivial⟩), hL14, K12, f16, rfl, hc10, trivial⟩ ?_
  rintro ⟨l11, x10⟩ oo _ w13 ⟨cs13, u, rfl, hL15, K13, hE14, hl11, hc13, -⟩ h hd10
  rw [tSolve_b1] at h
  refine zal (zah rfl (zag (zcg (x := x10) (y := (r6.1.length : Int)) ((x10 : Int) < (r6.1.length : Int)) rfl rfl zbi ?_)))
  refine zaq (zal ?_)
  refine zbj ((x10 : Int) < (r6.1.length : Int)) rfl (fun hc14 => ?_) (fun hc14 => ?_)
  ·
   replace h := ite_t hc14 h
   refine zbl (zal (zbc (zal (zah rfl (zag (zae (v := (zI x10)) rfl ?_))))))
   refine zag (zaj (v := (zI x10)) rfl ?_)
   refine zaq (zal ?_)
   obtain ⟨x11, n10, q11, q12, q13, h⟩ := zix h
   obtain ⟨b11, hb10⟩ := hL15.row_some 1 rfl rfl (zev (pre := []) hE14 q12 (Nat.lt_of_sub_eq_succ rfl))
   obtain ⟨vs10, q14, q15, q16⟩ := zeo (pre := []) (sp := sp10) hE14 q12
   obtain ⟨v10, v11, v12, rfl, k10, k11, k12, -⟩ := rTClass_open q15
   obtain ⟨x12, n11, q18, q19, q20, h⟩ := zix h
   obtain ⟨vs11, q21, q22, q23⟩ := zeo (pre := []) (sp := sp10) hE14 q19
   obtain ⟨v13, v14, v15, rfl, k13, k14, k15, -⟩ := rTClass_open q22
   have q24 := elem_part (us := [v15]) (q := 4) q23 rfl
   obtain ⟨r10, q25, h⟩ := zee h
   refine zcy 14 [] [] (fun W1 => [.det (osv ob8 0 r6.1.length cap9), .det (zI x10), .det (osv ob8 0 r6.1.length cap9), .det (zI x10), .det (zam (some ⟨b11, (0 + n10 * rTClass.sz), none⟩)), .det (zbq #[(zI x11.low), (zI x11.high), v10, v11, v12]), .det (osv ob8 0 r6.1.length cap9), .det (zI x10), .det (zam (some ⟨b11, (0 + n11 * rTClass.sz), none⟩)), .det (zam (some ⟨b11, ((0 + n11 * rTClass.sz) + 4), none⟩)), .det v15, .det (zI (x12.apart.length : Int)), .det (zI (iw ((x12.apart.length : Int) + 1))), .rel (fun v Z w' => ∃ ob11 cap11 cs14 sp12, (osv ob11 0 r10.length cap11) = v ∧ OwnC w' ob11 (zab ([] ++ (cs14 ++ sp12))) ∧ Els rStr (vZ W1 w None [some b10, ob8, ob10] Z w') cs14 r10 ∧ (cs14 ++ sp12 : List Value).length = cap11 * rStr.sz ∧ True) footV]) mixed rfl rfl rfl (fun _ => rfl) (fun _ => rfl) ?_ ?_
   ·
    intro W1 _
    exact ⟨fun v Z Z' w w' hΦ hz _ _ hs => by obtain ⟨ob11, cap11, cs14, sp12, rfl, hO10, hE15, hc15, -⟩ := hΦ; exact ⟨ob11, cap11, cs14, sp12, rfl, (hO10.stay (fun b hb => (zek (ob := ob11) (o := 0) (n := r10.length) (cap := cap11)).2 (by rw [hb]; exact zbm)) hs), (hE15.mono (zdv hz hs)), hc15, trivial⟩, trivial⟩
   intro w14 hE16
   obtain ⟨hL16, K14⟩ := zl hL15 hE16
   refine zay (fun _ hE17 => zar (zav zas rfl rfl ((hL16.ext hE17).at 0 rfl rfl) rfl (er rfl))) ?_
   refine zay (fun _ _ => zar (zae rfl (er rfl))) ?_
   refine zay (fun _ hE19 => zar (zav zas rfl rfl ((hL16.ext hE19).at 0 rfl rfl) rfl (er rfl))) ?_
   refine zay (fun _ _ => zar (zae rfl (er rfl))) ?_
   refine zay (fun _ _ => zar (zbe (r := rTClass) (b := b11) (o := 0) (n := n10) (m := r6.1.length) (xs := l11) (q := (0 + n10 * rTClass.sz)) zas ti56 (zem hb10) hl11 rfl q11 q13 rfl (er rfl))) ?_
   refine zay (fun _ hE22 => zar (zct (vs := [(zI x11.low), (zI x11.high), v10, v11, v12]) zbo rfl ti56 rfl (zeq hb10 ((hL16.ext hE22).at 1 rfl rfl)) rfl q16 (er rfl))) ?_
   refine zay (fun _ hE23 => zar (zav zas rfl rfl ((hL16.ext hE23).at 0 rfl rfl) rfl (er rfl))) ?_
   refine zay (fun _ _ => zar (zae rfl (er rfl))) ?_
   refine zay (fun _ _ => zar (zbe (r := rTClass) (b := b11) (o := 0) (n := n11) (m := r6.1.length) (xs := l11) (q := (0 + n11 * rTClass.sz)) zas ti56 (zem hb10) hl11 rfl q18 q20 rfl (er rfl))) ?_
   refine zay (fun _ _ => zar (zau zbo rfl ti22 rfl rfl rfl (er rfl))) ?_
   refine zay (fun _ hE27 => zar (zbu zao rfl rfl (zeq hb10 ((hL16.ext hE27).at 1 rfl rfl)) q24 (er rfl))) ?_
   refine zay (fun _ hE28 => zar (zcf (v := v15) zao rfl ((k15.mono (K14 None)).mono ((ke hL16 hE28) None)) (er rfl))) ?_
   refine zay (fun _ _ => zar (zbx rfl rfl rfl (er rfl))) ?_
   refine zeb ?_ ?_
   ·
    rintro w28 Z32 hE30 hZ23 ⟨-⟩
    have K16 := ke hL16 hE30
    refine zar (zbz en32 rfl rfl (tfirst_w N x11 (iw ((x12.apart.length : Int) + 1)) v10 v11 v12 _ Any (((k10.mono (K14 None)).mono (K16 None)).mono vw_any) (((k11.mono (K14 None)).mono (K16 None)).mono vw_any) (((k12.mono (K14 None)).mono (K16 None)).mono vw_any) r10 q25) ?_)
    rintro _ w29 hE31 ⟨ob11, cap11, cs14, sp12, rfl, hN11, hE15, hc15, -⟩
    exact Made.ext hE31 hZ23 hN11 (fun b hb => footV_osv.1 hb) ⟨ob11, cap11, cs14, sp12, rfl, hN11.2.2.1, (hE15.mono Zv.made), hc15, trivial⟩
   intro z10
   refine zdh ?_
   rintro w30 Z33 hE32 hZ24 ⟨⟨⟨ob11, cap11, cs14, sp12, rfl, hO10, hE15, hc15, -⟩, hB10⟩, -⟩ ap10
   have hB11 : ∀ b, some b ∈ ([ob11] : List (Option Nat)) → w14.heap.size ≤ b ∧ ¬ Z33 b := by
    intro b hb
    rcases List.mem_cons.1 hb with hb' | hb
    ·
     have := hB10 b ((zek (ob := ob11) (o := 0) (n := r10.length) (cap := cap11)).2 (by rw [hb']; exact zbm)); exact ⟨this.1, this.2.2⟩
    cases hb
   replace hE15 := hE15.mono (Zv.fin hL16 hZ24 hB11)
   have hN12 : NewOwn w14 w30 [ob11] [zab ([] ++ (cs14 ++ sp12))] := (zdz NewOwn.nil hO10 (fun b hb => (hB11 b (by rw [← hb]; simp)).1) (fun b _ hb => by cases hb))
   have hp13 := hL16.adoptL hE32 hN12
   have hL22 := hp13.1
   have K17 := ks w hp13.2
   obtain ⟨x13, n12, q27, q28, q29, h⟩ := zix h
   refine zag (zbe (r := rTClass) (b := b11) (o := 0) (n := n12) (m := r6.1.length) (xs := l11) (q := (0 + n12 * rTClass.sz)) zas ti56 (zem hb10) hl11 rfl q27 q29 rfl ?_)
   refine zag (zau (q := ((0 + n12 * rTClass.sz) + 3)) zbo rfl ti27 rfl rfl rfl ?_)
   have f17 := hL22.freezeRow 0 rfl rfl hE15 rfl rfl rfl hc15
   have hp14 := hL22.pick [1, 2, 3] rfl rfl rfl
   have hL23 : vL w w30 [some b10, ob8, ob10] [zab [(osv ob8 0 r6.1.length cap9)], zab ([] ++ (cs13 ++ sp10)), zab ([] ++ (cs11 ++ sp11))] := hp14.1
   have K18 := ks w hp14.2
   have f18 := (((hE14.mono (K14 None)).mono (K17 None)).mono (K18 None))
   obtain ⟨vs12, q30, q31, q32⟩ := zeo (pre := []) (sp := sp10) f18 q28
   obtain ⟨v16, v17, v18, rfl, k16, k17, k18, -⟩ := rTClass_open q31
   obtain ⟨x14, n13, q34, q35, q36, h⟩ := zux h
   obtain rfl := zin q27 q34
   refine zdj (OpY.stPart (pre := []) (r := rTClass) (off := 3) (us := [(osv ob11 0 r10.length cap11)]) (vs := [(zI x13.low), (zI x13.high), v16, v17, v18]) (vs' := [(zI x13.low), (zI x13.high), v16, (osv ob11 0 r10.length cap11), v18]) (a := (TClass.mk x13.low x13.high x13.tests r10 x13.apart)) ti27 rfl rfl (zes f17.one) rfl (zei f17.one zeu) q32 (zai rfl) rfl (rTClass_close ⟨v16, (osv ob11 0 r10.length cap11), v18, rfl, k16, f17, k18, trivial⟩) hL23 1 (congrArg some hb10) rfl f18 q29 rfl q36 ?_)
   have hl12 : r6.1.length = List.length x14 := by rw [q36, List.length_set]; exact hl11
   intro w31 cs15 (hL24 : vL w w31 [some b10, ob8, ob10] [zab [(osv ob8 0 r6.1.length cap9)], zab ([] ++ (cs15 ++ sp10)), zab ([] ++ (cs11 ++ sp11))]) hS12 hE33 q37
   have hc16 : (cs15 ++ sp10).length = cap9 * rTClass.sz := zhc hc13 q37
   have K19 := ks w hS12
   refine zaq (zal (zah rfl (zag (zav (v := (osv ob8 0 r6.1.length cap9)) zas rfl rfl (hL24.at 0 rfl rfl) rfl ?_))))
   refine zag (zae (v := (zI x10)) rfl ?_)
   obtain ⟨x15, n14, q39, q40, q41, h⟩ := zix h
   refine zag (zbe (r := rTClass) (b := b11) (o := 0) (n := n14) (m := r6.1.length) (xs := x14) (q := (0 + n14 * rTClass.sz)) zas ti56 (zem hb10) hl12 rfl q39 q41 rfl ?_)
   refine zag (zau (q := ((0 + n14 * rTClass.sz) + 3)) zbo rfl ti27 rfl rfl rfl ?_)
   have f19 := (hE33.mono (K19 None))
   obtain ⟨vs13, q42, q43, q44⟩ := zeo (pre := []) (sp := sp10) f19 q40
   obtain ⟨v19, v20, v21, rfl, k19, k20, k21, -⟩ := rTClass_open q43
   have q45 := elem_part (us := [v20]) (q := 3) q44 rfl
   refine zag (zbu (v := v20) zba rfl rfl (zeq hb10 (hL24.at 1 rfl rfl)) q45 ?_)
   refine zag (zcf (v := v20) zba rfl k20 ?_)
   refine zag (zcv (x := (x15.words.length : Int)) (y := 0) (((x15.words.length : Int) : Int) = 0) rfl rfl zbi (zaq ?_))
   refine zbj (((x15.words.length : Int) : Int) = 0) rfl (fun hc17 => ?_) (fun hc17 => ?_)
   ·
    replace h := ite_t hc17 h
    refine zal (zah rfl (zag (zaj (v := zN) rfl ?_)))
    refine zag (zaj (v := zF) rfl (zaq ?_))
    have hp15 := hL24.addNil
    have hL25 : vL w w31 [none, some b10, ob8, ob10] [zab ([] ++ ([] ++ [])), zab [(osv ob8 0 r6.1.length cap9)], zab ([] ++ (cs15 ++ sp10)), zab ([] ++ (cs11 ++ sp11))] := hp15.1
    have hE34 : Els rStr (vH w None [none, some b10, ob8, ob10] w31) [] [] := zcm
    refine zbt ?_
    obtain rfl := zad h
    obtain rfl := hd10 _ rfl
    replace h := g10
    try dsimp only at h
    obtain rfl := zad h
    refine ⟨[(osv none 0 (List.length ([] : (List (List UInt8)))) 0), zF], ⟨rfl, rfl, trivial⟩, ⟨_, rfl, hL25.done, ?_⟩⟩
    exact ⟨none, 0, [], [], rfl, (hL25.newOwn [0] rfl rfl rfl), (hE34.mono (zdy [0] rfl)), (show ([] ++ [] : List Value).length = 0 * rStr.sz by simp), trivial⟩
   replace h := ite_f hc17 h
   refine zbl (zbf (zah rfl (zag (zbx (x := x10) (y := 1) (z := (iw (x10 + 1))) rfl rfl rfl ?_))))
   refine zag (zae (v := (zI (iw (x10 + 1)))) rfl (zaq ?_))
   obtain rfl := zad h
   refine zap ⟨(x14, (iw (x10 + 1))), rfl, ?_⟩
   exact ⟨cs15, _, (zef ⟨rfl, rfl, rfl, rfl, trivial⟩), hL24, (zak (zak (zak (zak K13 K14) K17) K18) K19), f19, hl12, hc16, trivial⟩
  replace h := ite_f hc14 h
  refine zca rfl ?_
  obtain rfl := zad h
  obtain rfl := hd10 _ rfl
  replace h := g10
  try dsimp only at h
  refine zap ?_
  exact ⟨l11, cs13, _, rfl, (zef ⟨rfl, rfl, trivial⟩), hL15, K13, hE14, hl11, hc13, trivial⟩
 rintro _ w32 ⟨l10, cs12, u, rfl, rfl, hL26, K20, hE35, hl13, hc18, -⟩
 replace h := g10
 try dsimp only at h
 refine zal (zah rfl (zag (zaj (v := zN) rfl ?_)))
 refine zaq (zal (zah rfl (zag (zav (v := (osv ob8 0 r6.1.length cap9)) zas rfl rfl (hL26.at 0 rfl rfl) rfl ?_))))
 refine zag (zcj (pre := []) (r := rTClass) (xs := l10) zas rfl (hL26.at 1 rfl rfl) hE35 rfl hl13 ?_)
 obtain ⟨x16, q46, h⟩ := zee h
 obtain ⟨m10, q47, q48, q49, q50⟩ := mk1_some q46
 refine zag (zdl (r := rI) (H := (vH w None [some b10, ob8, ob10] w32)) (zc := [(zI 0)]) (x := 0) zao ti3 rfl rfl rfl rfl q47 q48 q49 q50 hL26 ?_)
 intro b12 w33 cs16 hE36 hc19 hL27 hS13
 have K21 := ks w hS13
 refine zag (zaj (v := (osv (some b12) 0 x16.length m10)) rfl ?_)
 refine zaq (zal (zah rfl (zag (zav (v := (osv ob8 0 r6.1.length cap9)) zas rfl rfl (hL27.at 1 rfl rfl) rfl ?_))))
 have f20 := (hE35.mono (K21 None))
 refine zag (zcj (pre := []) (r := rTClass) (xs := l10) zas rfl (hL27.at 2 rfl rfl) f20 rfl hl13 ?_)
 obtain ⟨x17, q51, h⟩ := zee h
 obtain ⟨m11, q52, q53, q54, q55⟩ := mk1_some q51
 refine zag (zdl (r := rBool) (H := (vH w None [some b12, some b10, ob8, ob10] w33)) (zc := [zF]) (x := false) zcn ti4 rfl rfl rfl rfl q52 q53 q54 q55 hL27 ?_)
 intro b13 w34 cs17 hE37 hc20 hL28 hS14
 have K22 := ks w hS14
 refine zag (zaj (v := (osv (some b13) 0 x17.length m11)) rfl ?_)
 refine zaq (zal (zal (zah rfl (zag (zav (v := (osv ob8 0 r6.1.length cap9)) zas rfl rfl (hL28.at 2 rfl rfl) rfl ?_)))))
 have f21 := (f20.mono (K22 None))
 refine zag (zcj (pre := []) (r := rTClass) (xs := l10) zas rfl (hL28.at 3 rfl rfl) f21 rfl hl13 ?_)
 refine zag (zae (v := (zI 0)) rfl (zaq ?_))
 obtain ⟨s11, hl14, g11⟩ := zee h
 refine zbs (fun e w' => ∃ (left10 : (List Int)) (cs18 : List Value) (u : Env), left10 = s11 ∧ e = upds [(4, (zam (some ⟨b10, 0, none⟩))), (5, (osv ob10 0 r6.2.1.length cap10)), (8, zN), (9, (osv (some b12) 0 x16.length m10)), (10, (osv (some b13) 0 x17.length m11))] u ∧ vL w w' [some b10, ob8, ob10, some b12, some b13] [zab [(osv ob8 0 r6.1.length cap9)], zab ([] ++ (cs12 ++ sp10)), zab ([] ++ (cs11 ++ sp11)), zab ([] ++ (cs18 ++ [])), zab ([] ++ (cs17 ++ []))] ∧ Keep w.heap.size [some b13, some b12, some b10, ob8, ob10] w34 [some b10, ob8, ob10, some b12, some b13] w' ∧ Els rI (vH w None [some b10, ob8, ob10, some b12, some b13] w') cs18 left10 ∧ x16.length = List.length left10 ∧ (cs18 ++ []).length = m10 * rI.sz ∧ True) ?_ ?_
 ·
  refine zbc ?_
  have hp16 := hL28.pick [2, 3, 4, 1, 0] rfl rfl rfl
  have hL29 : vL w w34 [some b10, ob8, ob10, some b12, some b13] [zab [(osv ob8 0 r6.1.length cap9)], zab ([] ++ (cs12 ++ sp10)), zab ([] ++ (cs11 ++ sp11)), zab ([] ++ (cs16 ++ [])), zab ([] ++ (cs17 ++ []))] := hp16.1
  have K23 := ks w hp16.2
  have f22 := (((hE36.mono (K21 None)).mono (K22 None)).mono (K23 None))
  refine zbw hl14 (fun (ss : ((List Int) × Int)) (e : Env) (w' : World) => match ss with | (left11, x18) => ∃ (cs19 : List Value) (u : Env), e = upds [(4, (zam (some ⟨b10, 0, none⟩))), (5, (osv ob10 0 r6.2.1.length cap10)), (8, zN), (9, (osv (some b12) 0 x16.length m10)), (10, (osv (some b13) 0 x17.length m11)), (67, (zI (l10.length : Int))), (68, (zI x18))] u ∧ vL w w' [some b10, ob8, ob10, some b12, some b13] [zab [(osv ob8 0 r6.1.length cap9)], zab ([] ++ (cs12 ++ sp10)), zab ([] ++ (cs11 ++ sp11)), zab ([] ++ (cs19 ++ [])), zab ([] ++ (cs17 ++ []))] ∧ Keep w.heap.size [some b13, some b12, some b10, ob8, ob10] w34 [some b10, ob8, ob10, some b12, some b13] w' ∧ Els rI (vH w None [some b10, ob8, ob10, some b12, some b13] w') cs19 left11 ∧ x16.length = List.length left11 ∧ (cs19 ++ []).length = m10 * rI.sz ∧ True) ⟨cs16, _, (zef ⟨rfl, rfl, rfl, rfl, rfl, rfl, rfl, trivial⟩), hL29, K23, f22, rfl, hc19, trivial⟩ ?_
  rintro ⟨left11, x18⟩ oo _ w35 ⟨cs19, u, rfl, hL30, K24, hE38, hl15, hc21, -⟩ h hd11
  rw [tSolve_b2] at h
  refine zal (zah rfl (zag (zcg (x := x18) (y := (l10.length : Int)) ((x18 : Int) < (l10.length : Int)) rfl rfl zbi ?_)))
  refine zaq (zal ?_)
  refine zbj ((x18 : Int) < (l10.length : Int)) rfl (fun hc22 => ?_) (fun hc22 => ?_)
  ·
   replace h := ite_t hc22 h
   refine zbl (zal (zbc (zal (zah rfl (zag (zae (v := (zI x18)) rfl ?_))))))
   refine zag (zaj (v := (zI x18)) rfl ?_)
   refine zaq (zah rfl (zag (zae (v := (osv (some b12) 0 x16.length m10)) rfl ?_)))
   refine zag (zae (v := (zI x18)) rfl ?_)
   refine zag (zav (v := (osv ob8 0 r6.1.length cap9)) zas rfl rfl (hL30.at 0 rfl rfl) rfl ?_)
   refine zag (zae (v := (zI x18)) rfl ?_)
   obtain ⟨x19, n15, q57, q58, q59, h⟩ := zix h
   have f23 := (f21.mono (K24 None))
   obtain ⟨b14, hb11⟩ := hL30.row_some 1 rfl rfl (zev (pre := []) f23 q58 (Nat.lt_of_sub_eq_succ rfl))
   refine zag (zbe (r := rTClass) (b := b14) (o := 0) (n := n15) (m := r6.1.length) (xs := l10) (q := (0 + n15 * rTClass.sz)) zas ti56 (zem hb11) hl13 rfl q57 q59 rfl ?_)
   refine zag (zau (q := ((0 + n15 * rTClass.sz) + 4)) zbo rfl ti22 rfl rfl rfl ?_)
   obtain ⟨vs14, q60, q61, q62⟩ := zeo (pre := []) (sp := sp10) f23 q58
   obtain ⟨v22, v23, v24, rfl, k22, k23, k24, -⟩ := rTClass_open q61
   have q63 := elem_part (us := [v24]) (q := 4) q62 rfl
   refine zag (zbu (v := v24) zao rfl rfl (zeq hb11 (hL30.at 1 rfl rfl)) q63 ?_)
   refine zag (zcf (v := v24) zao rfl k24 ?_)
   obtain ⟨x20, n16, q65, q66, q67, h⟩ := zix h
   refine zag (zbe (r := rI) (b := b12) (o := 0) (n := n16) (m := x16.length) (xs := left11) (q := (0 + n16 * rI.sz)) zao ti3 rfl hl15 rfl q65 q67 rfl ?_)
   obtain ⟨x21, n17, q69, q70, q71, h⟩ := zux h
   obtain rfl := zin q65 q69
   refine zdj (zdd (pre := []) (r := rI) (vs := [(zI (x19.apart.length : Int))]) (a := (x19.apart.length : Int)) ti3 rfl rfl rfl rfl hL30 3 rfl rfl hE38 q67 rfl q71 ?_)
   have hl16 : x16.length = List.length x21 := by rw [q71, List.length_set]; exact hl15
   intro w36 cs20 (hL31 : vL w w36 [some b10, ob8, ob10, some b12, some b13] [zab [(osv ob8 0 r6.1.length cap9)], zab ([] ++ (cs12 ++ sp10)), zab ([] ++ (cs11 ++ sp11)), zab ([] ++ (cs20 ++ [])), zab ([] ++ (cs17 ++ []))]) hS15 hE39 q72
   have hc23 : (cs20 ++ []).length = m10 * rI.sz := zhc hc21 q72
   have K25 := ks w hS15
   refine zaq (zbf (zah rfl (zag (zbx (x := x18) (y := 1) (z := (iw (x18 + 1))) rfl rfl rfl ?_))))
   refine zag (zae (v := (zI (iw (x18 + 1)))) rfl (zaq ?_))
   have f24 := (hE39.mono (K25 None))
   obtain rfl := zad h
   refine zap ⟨(x21, (iw (x18 + 1))), rfl, ?_⟩
   exact ⟨cs20, _, (zef ⟨rfl, rfl, rfl, rfl, rfl, rfl, rfl, trivial⟩), hL31, (zak K24 K25), f24, hl16, hc23, trivial⟩
  replace h := ite_f hc22 h
  refine zca rfl ?_
  obtain rfl := zad h
  obtain rfl := hd11 _ rfl
  replace h := g11
  try dsimp only at h
  refine zap ?_
  exact ⟨left11, cs19, _, rfl, (zef ⟨rfl, rfl, rfl, rfl, rfl, trivial⟩), hL30, K24, hE38, hl15, hc21, trivial⟩
 rintro _ w37 ⟨left10, cs18, u, rfl, rfl, hL32, K26, hE40, hl17, hc24, -⟩
 replace h := g11
 try dsimp only at h
 refine zal (zal (zah rfl (zag (zaj (v := zT) rfl (zaq ?_)))))
 obtain ⟨s12, hl18, g12⟩ := zee h
 refine zbs (fun e w' => ∃ (last10 : (List Int)) (removed10 : (List Bool)) (ob12 : Option Nat) (cap12 : Nat) (sp13 : List Value) (cs21 : List Value) (ln10 : Nat) (cs22 : List Value) (u : Env), (last10, removed10) = s12 ∧ e = upds [(4, (zam (some ⟨b10, 0, none⟩))), (5, (osv ob10 0 r6.2.1.length cap10)), (8, (osv ob12 0 ln10 cap12)), (10, (osv (some b13) 0 x17.length m11))] u ∧ vL w w' [some b10, ob8, ob10, ob12, some b13] [zab [(osv ob8 0 r6.1.length cap9)], zab ([] ++ (cs12 ++ sp10)), zab ([] ++ (cs11 ++ sp11)), zab ([] ++ (cs21 ++ sp13)), zab ([] ++ (cs22 ++ []))] ∧ Keep w.heap.size [some b10, ob8, ob10, some b12, some b13] w37 [some b10, ob8, ob10, ob12, some b13] w' ∧ Els rI (vH w None [some b10, ob8, ob10, ob12, some b13] w') cs21 last10 ∧ ln10 = List.length last10 ∧ (cs21 ++ sp13).length = cap12 * rI.sz ∧ Els rBool (vH w None [some b10, ob8, ob10, ob12, some b13] w') cs22 removed10 ∧ x17.length = List.length removed10 ∧ (cs22 ++ []).length = m11 * rBool.sz ∧ True) ?_ ?_
 ·
  refine zbc ?_
  have hp17 := hL32.addNil
  have hL33 : vL w w37 [none, some b10, ob8, ob10, some b12, some b13] [zab ([] ++ ([] ++ [])), zab [(osv ob8 0 r6.1.length cap9)], zab ([] ++ (cs12 ++ sp10)), zab ([] ++ (cs11 ++ sp11)), zab ([] ++ (cs18 ++ [])), zab ([] ++ (cs17 ++ []))] := hp17.1
  have K27 := ks w hp17.2
  have hp18 := hL33.pick [1, 2, 3, 0, 4, 5] rfl rfl rfl
  have hL34 : vL w w37 [some b10, ob8, ob10, none, some b12, some b13] [zab [(osv ob8 0 r6.1.length cap9)], zab ([] ++ (cs12 ++ sp10)), zab ([] ++ (cs11 ++ sp11)), zab ([] ++ ([] ++ [])), zab ([] ++ (cs18 ++ [])), zab ([] ++ (cs17 ++ []))] := hp18.1
  have K28 := ks w hp18.2
  have f25 := ((zcm (r := rI)).mono (K28 None))
  have f26 := ((hE40.mono (K27 None)).mono (K28 None))
  have f27 := ((((hE37.mono (K22 None)).mono (K26 None)).mono (K27 None)).mono (K28 None))
  refine zbw hl18 (fun (ss : ((List Int) × (List Int) × (List Bool) × Bool)) (e : Env) (w' : World) => match ss with | (last11, left12, removed11, changed10) => ∃ (ob13 : Option Nat) (cap13 : Nat) (sp14 : List Value) (cs23 : List Value) (ln11 : Nat) (cs24 : List Value) (cs25 : List Value) (u : Env), e = upds [(4, (zam (some ⟨b10, 0, none⟩))), (5, (osv ob10 0 r6.2.1.length cap10)), (8, (osv ob13 0 ln11 cap13)), (9, (osv (some b12) 0 x16.length m10)), (10, (osv (some b13) 0 x17.length m11)), (12, (zac changed10))] u ∧ vL w w' [some b10, ob8, ob10, ob13, some b12, some b13] [zab [(osv ob8 0 r6.1.length cap9)], zab ([] ++ (cs12 ++ sp10)), zab ([] ++ (cs11 ++ sp11)), zab ([] ++ (cs23 ++ sp14)), zab ([] ++ (cs24 ++ [])), zab ([] ++ (cs25 ++ []))] ∧ Keep w.heap.size [some b10, ob8, ob10, some b12, some b13] w37 [some b10, ob8, ob10, ob13, some b12, some b13] w' ∧ Els rI (vH w None [some b10, ob8, ob10, ob13, some b12, some b13] w') cs23 last11 ∧ ln11 = List.length last11 ∧ (cs23 ++ sp14).length = cap13 * rI.sz ∧ Els rI (vH w None [some b10, ob8, ob10, ob13, some b12, some b13] w') cs24 left12 ∧ x16.length = List.length left12 ∧ (cs24 ++ []).length = m10 * rI.sz ∧ Els rBool (vH w None [some b10, ob8, ob10, ob13, some b12, some b13] w') cs25 removed11 ∧ x17.length = List.length removed11 ∧ (cs25 ++ []).length = m11 * rBool.sz ∧ True) ⟨none, 0, [], [], (List.length ([] : (List Int))), cs18, cs17, _, (zef ⟨rfl, rfl, rfl, rfl, rfl, rfl, trivial⟩), hL34, (zak K27 K28), f25, rfl, (show ([] ++ [] : List Value).length = 0 * rI.sz by simp), f26, hl17, hc24, f27, rfl, hc20, trivial⟩ ?_
  rintro ⟨last11, left12, removed11, changed10⟩ oo _ w38 ⟨ob13, cap13, sp14, cs23, ln11, cs24, cs25, u, rfl, hL35, K29, hE41, rfl, hc25, hE42, hl19, hc26, hE43, hl20, hc27, -⟩ h hd12
  rw [tSolve_b3] at h
  refine zal (zal (zah rfl (zag (zae (v := (zac changed10)) rfl (zaq ?_)))))
  refine zch changed10 rfl (fun hc28 => ?_) (fun hc28 => ?_)
  ·
   replace h := ite_t hc28 h
   refine zbl (zbc (zal (zah rfl (zag (zaj (v := zF) rfl ?_)))))
   refine zaq (zal (zah rfl (zag (zav (v := (osv ob8 0 r6.1.length cap9)) zas rfl rfl (hL35.at 0 rfl rfl) rfl ?_))))
   have f28 := ((f21.mono (K26 None)).mono (K29 None))
   refine zag (zcj (pre := []) (r := rTClass) (xs := l10) zas rfl (hL35.at 1 rfl rfl) f28 rfl hl13 ?_)
   refine zag (zae (v := (zI 0)) rfl (zaq ?_))
   obtain ⟨s13, hl21, g13⟩ := zee h
   refine zbs (fun e w' => ∃ (last12 : (List Int)) (left13 : (List Int)) (removed12 : (List Bool)) (changed11 : Bool) (ob14 : Option Nat) (cap14 : Nat) (sp15 : List Value) (cs26 : List Value) (ln12 : Nat) (cs27 : List Value) (cs28 : List Value) (u : Env), (last12, left13, removed12, changed11) = s13 ∧ e = upds [(4, (zam (some ⟨b10, 0, none⟩))), (5, (osv ob10 0 r6.2.1.length cap10)), (8, (osv ob14 0 ln12 cap14)), (9, (osv (some b12) 0 x16.length m10)), (10, (osv (some b13) 0 x17.length m11)), (12, (zac changed11))] u ∧ vL w w' [some b10, ob8, ob10, ob14, some b12, some b13] [zab [(osv ob8 0 r6.1.length cap9)], zab ([] ++ (cs12 ++ sp10)), zab ([] ++ (cs11 ++ sp11)), zab ([] ++ (cs26 ++ sp15)), zab ([] ++ (cs27 ++ [])), zab ([] ++ (cs28 ++ []))] ∧ Keep w.heap.size [some b10, ob8, ob10, ob13, some b12, some b13] w38 [some b10, ob8, ob10, ob14, some b12, some b13] w' ∧ Els rI (vH w None [some b10, ob8, ob10, ob14, some b12, some b13] w') cs26 last12 ∧ ln12 = List.length last12 ∧ (cs26 ++ sp15).length = cap14 * rI.sz ∧ Els rI (vH w None [some b10, ob8, ob10, ob14, some b12, some b13] w') cs27 left13 ∧ x16.length = List.length left13 ∧ (cs27 ++ []).length = m10 * rI.sz ∧ Els rBool (vH w None [some b10, ob8, ob10, ob14, some b12, some b13] w') cs28 removed12 ∧ x17.length = List.length removed12 ∧ (cs28 ++ []).length = m11 * rBool.sz ∧ True) ?_ ?_
   ·
    refine zbc ?_
    refine zbw hl21 (fun (ss : ((List Int) × (List Int) × (List Bool) × Bool × Int)) (e : Env) (w' : World) => match ss with | (last13, left14, removed13, changed12, x22) => ∃ (ob15 : Option Nat) (cap15 : Nat) (sp16 : List Value) (cs29 : List Value) (ln13 : Nat) (cs30 : List Value) (cs31 : List Value) (u : Env), e = upds [(4, (zam (some ⟨b10, 0, none⟩))), (5, (osv ob10 0 r6.2.1.length cap10)), (8, (osv ob15 0 ln13 cap15)), (9, (osv (some b12) 0 x16.length m10)), (10, (osv (some b13) 0 x17.length m11)), (12, (zac changed12)), (83, (zI (l10.length : Int))), (84, (zI x22))] u ∧ vL w w' [some b10, ob8, ob10, ob15, some b12, some b13] [zab [(osv ob8 0 r6.1.length cap9)], zab ([] ++ (cs12 ++ sp10)), zab ([] ++ (cs11 ++ sp11)), zab ([] ++ (cs29 ++ sp16)), zab ([] ++ (cs30 ++ [])), zab ([] ++ (cs31 ++ []))] ∧ Keep w.heap.size [some b10, ob8, ob10, ob13, some b12, some b13] w38 [some b10, ob8, ob10, ob15, some b12, some b13] w' ∧ Els rI (vH w None [some b10, ob8, ob10, ob15, some b12, some b13] w') cs29 last13 ∧ ln13 = List.length last13 ∧ (cs29 ++ sp16).length = cap15 * rI.sz ∧ Els rI (vH w None [some b10, ob8, ob10, ob15, some b12, some b13] w') cs30 left14 ∧ x16.length = List.length left14 ∧ (cs30 ++ []).length = m10 * rI.sz ∧ Els rBool (vH w None [some b10, ob8, ob10, ob15, some b12, some b13] w') cs31 removed13 ∧ x17.length = List.length removed13 ∧ (cs31 ++ []).length = m11 * rBool.sz ∧ True) ⟨ob13, cap13, sp14, cs23, last11.length, cs24, cs25, _, (zef ⟨rfl, rfl, rfl, rfl, rfl, rfl, rfl, rfl, trivial⟩), hL35, zbp, hE41, rfl, hc25, hE42, hl19, hc26, hE43, hl20, hc27, trivial⟩ ?_
    rintro ⟨last13, left14, removed13, changed12, x22⟩ oo _ w39 ⟨ob15, cap15, sp16, cs29, ln13, cs30, cs31, u, rfl, hL36, K30, hE44, rfl, hc29, hE45, hl22, hc30, hE46, hl23, hc31, -⟩ h hd13
    rw [tSolve_b4] at h
    refine zal (zah rfl (zag (zcg (x := x22) (y := (l10.length : Int)) ((x22 : Int) < (l10.length : Int)) rfl rfl zbi ?_)))
    refine zaq (zal ?_)
    refine zbj ((x22 : Int) < (l10.length : Int)) rfl (fun hc32 => ?_) (fun hc32 => ?_)
    ·
     replace h := ite_t hc32 h
     refine zbl (zal (zbc (zal (zah rfl (zag (zae (v := (zI x22)) rfl ?_))))))
     refine zag (zaj (v := (zI x22)) rfl ?_)
     refine zaq (zal ?_)
     obtain ⟨s14, h, g14⟩ := zee h
     refine zbs (fun e w' => ∃ (x23 : Bool) (u : Env), x23 = s14 ∧ e = upds [(4, (zam (some ⟨b10, 0, none⟩))), (5, (osv ob10 0 r6.2.1.length cap10)), (8, (osv ob15 0 last13.length cap15)), (9, (osv (some b12) 0 x16.length m10)), (10, (osv (some b13) 0 x17.length m11)), (12, (zac changed12)), (13, (zI x22)), (83, (zI (l10.length : Int))), (84, (zI x22)), (104, (zac x23))] u ∧ vL w w' [some b10, ob8, ob10, ob15, some b12, some b13] [zab [(osv ob8 0 r6.1.length cap9)], zab ([] ++ (cs12 ++ sp10)), zab ([] ++ (cs11 ++ sp11)), zab ([] ++ (cs29 ++ sp16)), zab ([] ++ (cs30 ++ [])), zab ([] ++ (cs31 ++ []))] ∧ Keep w.heap.size [some b10, ob8, ob10, ob15, some b12, some b13] w39 [some b10, ob8, ob10, ob15, some b12, some b13] w' ∧ True) ?_ ?_
     ·
      obtain ⟨x24, n18, q74, q75, q76, h⟩ := zix h
      obtain ⟨vs15, q77, q78, q79⟩ := zeo (pre := []) (sp := []) hE46 q75
      obtain rfl := q78
      by_cases hc33 : (!x24) = true
      ·
       replace h := ite_t hc33 h
       obtain ⟨x25, n19, q81, q82, q83, h⟩ := zix h
       have f29 := (f28.mono (K30 None))
       obtain ⟨b15, hb12⟩ := hL36.row_some 1 rfl rfl (zev (pre := []) f29 q82 (Nat.lt_of_sub_eq_succ rfl))
       obtain ⟨vs16, q84, q85, q86⟩ := zeo (pre := []) (sp := sp10) f29 q82
       obtain ⟨v25, v26, v27, rfl, k25, k26, k27, -⟩ := rTClass_open q85
       have q87 := elem_part (us := [v26]) (q := 3) q86 rfl
       obtain ⟨x26, n20, q89, q90, q91, h⟩ := zix h
       obtain ⟨vs17, q92, q93, q94⟩ := zeo (pre := []) (sp := []) hE45 q90
       obtain rfl := q93
       refine zcy 16 [] [] (fun W1 => [.det (osv (some b13) 0 x17.length m11), .det (zI x22), .det (zam (some ⟨b13, (0 + n18 * rBool.sz), none⟩)), .det (zac x24), .det (zac (!x24)), .det (zac (!x24)), .det (osv ob8 0 r6.1.length cap9), .det (zI x22), .det (zam (some ⟨b15, (0 + n19 * rTClass.sz), none⟩)), .det (zam (some ⟨b15, ((0 + n19 * rTClass.sz) + 3), none⟩)), .det v26, .det (zI (x25.words.length : Int)), .det (osv (some b12) 0 x16.length m10), .det (zI x22), .det (zam (some ⟨b12, (0 + n20 * rI.sz), none⟩)), .det (zI x26)]) mixed rfl rfl rfl (fun _ => rfl) (fun _ => rfl) ?_ ?_
       ·
        intro W1 _
        exact trivial
       intro w40 hE47
       obtain ⟨hL37, K31⟩ := zl hL36 hE47
       refine zay (fun _ _ => zar (zae rfl (er rfl))) ?_
       refine zay (fun _ _ => zar (zae rfl (er rfl))) ?_
       refine zay (fun _ _ => zar (zbe (r := rBool) (b := b13) (o := 0) (n := n18) (m := x17.length) (xs := removed13) (q := (0 + n18 * rBool.sz)) zcn ti4 rfl hl23 rfl q74 q76 rfl (er rfl))) ?_
       refine zay (fun _ hE51 => zar (zbu zdr rfl rfl ((hL37.ext hE51).at 5 rfl rfl) q79 (er rfl))) ?_
       refine zay (fun _ _ => zar (OpY.not rfl (er rfl))) ?_
       refine zay (fun _ _ => zar (zae rfl (er rfl))) ?_
       refine zay (fun _ hE54 => zde rfl rfl hc33 (zav zas rfl rfl ((hL37.ext hE54).at 0 rfl rfl) rfl (er rfl))) ?_
       refine zay (fun _ _ => zde rfl rfl hc33 (zae rfl (er rfl))) ?_
       refine zay (fun _ _ => zde rfl rfl hc33 (zbe (r := rTClass) (b := b15) (o := 0) (n := n19) (m := r6.1.length) (xs := l10) (q := (0 + n19 * rTClass.sz)) zas ti56 (zem hb12) hl13 rfl q81 q83 rfl (er rfl))) ?_
       refine zay (fun _ _ => zde rfl rfl hc33 (zau zbo rfl ti27 rfl rfl rfl (er rfl))) ?_
       refine zay (fun _ hE58 => zde rfl rfl hc33 (zbu zba rfl rfl (zeq hb12 ((hL37.ext hE58).at 1 rfl rfl)) q87 (er rfl))) ?_
       refine zay (fun _ hE59 => zde rfl rfl hc33 (zcf (v := v26) zba rfl ((k26.mono (K31 None)).mono ((ke hL37 hE59) None)) (er rfl))) ?_
       refine zay (fun _ _ => zde rfl rfl hc33 (zae rfl (er rfl))) ?_
       refine zay (fun _ _ => zde rfl rfl hc33 (zae rfl (er rfl))) ?_
       refine zay (fun _ _ => zde rfl rfl hc33 (zbe (r := rI) (b := b12) (o := 0) (n := n20) (m := x16.length) (xs := left14) (q := (0 + n20 * rI.sz)) zao ti3 rfl hl22 rfl q89 q91 rfl (er rfl))) ?_
       refine zay (fun _ hE63 => zde rfl rfl hc33 (zbu zaw rfl rfl ((hL37.ext hE63).at 4 rfl rfl) q94 (er rfl))) ?_
       refine zdh ?_
       rintro w57 Z50 hE64 hZ41 ⟨-⟩ ap11
       have hB12 := @zhb w40 Z50
       obtain ⟨hL42, K33⟩ := zl hL37 hE64
       refine zaz rfl rfl hc33 (OpY.gtr (x := (x25.words.length : Int)) (y := x26) (((x25.words.length : Int) : Int) > x26) rfl rfl zbi ?_)
       refine zag (zbn (t := (!x24)) (v := (zac (decide (((x25.words.length : Int) : Int) > x26)))) rfl hc33 rfl (zaq ?_))
       obtain rfl := zad h
       refine zap ?_
       exact ⟨(decide (((x25.words.length : Int) : Int) > x26)), _, rfl, (zef ⟨rfl, rfl, rfl, rfl, rfl, rfl, rfl, rfl, rfl, rfl, trivial⟩), hL42, (zak K31 K33), trivial⟩
      replace h := ite_f hc33 h
      refine zcy 16 [] [] (fun W1 => [.det (osv (some b13) 0 x17.length m11), .det (zI x22), .det (zam (some ⟨b13, (0 + n18 * rBool.sz), none⟩)), .det (zac x24), .det (zac (!x24)), .det (zac (!x24)), .det undef, .det undef, .det undef, .det undef, .det undef, .det undef, .det undef, .det undef, .det undef, .det undef]) mixed rfl rfl rfl (fun _ => rfl) (fun _ => rfl) ?_ ?_
      ·
       intro W1 _
       exact trivial
      intro w58 hE65
      obtain ⟨hL43, K34⟩ := zl hL36 hE65
      refine zay (fun _ _ => zar (zae rfl (er rfl))) ?_
      refine zay (fun _ _ => zar (zae rfl (er rfl))) ?_
      refine zay (fun _ _ => zar (zbe (r := rBool) (b := b13) (o := 0) (n := n18) (m := x17.length) (xs := removed13) (q := (0 + n18 * rBool.sz)) zcn ti4 rfl hl23 rfl q74 q76 rfl (er rfl))) ?_
      refine zay (fun _ hE69 => zar (zbu zdr rfl rfl ((hL43.ext hE69).at 5 rfl rfl) q79 (er rfl))) ?_
      refine zay (fun _ _ => zar (OpY.not rfl (er rfl))) ?_
      refine zay (fun _ _ => zar (zae rfl (er rfl))) ?_
      refine zay (fun _ _ => zdn rfl rfl (zeg hc33) (er rfl)) ?_
      refine zay (fun _ _ => zdn rfl rfl (zeg hc33) (er rfl)) ?_
      refine zay (fun _ _ => zdn rfl rfl (zeg hc33) (er rfl)) ?_
      refine zay (fun _ _ => zdn rfl rfl (zeg hc33) (er rfl)) ?_
      refine zay (fun _ _ => zdn rfl rfl (zeg hc33) (er rfl)) ?_
      refine zay (fun _ _ => zdn rfl rfl (zeg hc33) (er rfl)) ?_
      refine zay (fun _ _ => zdn rfl rfl (zeg hc33) (er rfl)) ?_
      refine zay (fun _ _ => zdn rfl rfl (zeg hc33) (er rfl)) ?_
      refine zay (fun _ _ => zdn rfl rfl (zeg hc33) (er rfl)) ?_
      refine zay (fun _ _ => zdn rfl rfl (zeg hc33) (er rfl)) ?_
      refine zdh ?_
      rintro w75 Z67 hE82 hZ58 ⟨-⟩ ap12
      have hB13 := @zhb w58 Z67
      obtain ⟨hL45, K35⟩ := zl hL43 hE82
      refine zbg rfl rfl (zeg hc33) ?_
      refine zag (zbh (t := (!x24)) (v := zF) rfl (zeg hc33) rfl (zaq ?_))
      obtain rfl := zad h
      refine zap ?_
      exact ⟨false, _, rfl, (zef ⟨rfl, rfl, rfl, rfl, rfl, rfl, rfl, rfl, rfl, rfl, trivial⟩), hL45, (zak K34 K35), trivial⟩
     rintro _ w76 ⟨x23, u, rfl, rfl, hL46, K36, -⟩
     replace h := g14
     try dsimp only at h
     refine zch x23 rfl (fun hc34 => ?_) (fun hc34 => ?_)
     ·
      replace h := ite_t hc34 h
      refine zal (zah rfl (zag (zae (v := (osv (some b13) 0 x17.length m11)) rfl ?_)))
      refine zag (zae (v := (zI x22)) rfl ?_)
      obtain ⟨x27, n21, q96, q97, q98, h⟩ := zix h
      refine zag (zbe (r := rBool) (b := b13) (o := 0) (n := n21) (m := x17.length) (xs := removed13) (q := (0 + n21 * rBool.sz)) zcn ti4 rfl hl23 rfl q96 q98 rfl ?_)
      obtain ⟨x28, n22, q100, q101, q102, h⟩ := zux h
      obtain rfl := zin q96 q100
      have f30 := (hE46.mono (K36 None))
      refine zdj (zdd (pre := []) (r := rBool) (vs := [zT]) (a := true) ti4 rfl rfl rfl rfl hL46 5 rfl rfl f30 q98 rfl q102 ?_)
      have hl24 : x17.length = List.length x28 := by rw [q102, List.length_set]; exact hl23
      intro w77 cs32 (hL47 : vL w w77 [some b10, ob8, ob10, ob15, some b12, some b13] [zab [(osv ob8 0 r6.1.length cap9)], zab ([] ++ (cs12 ++ sp10)), zab ([] ++ (cs11 ++ sp11)), zab ([] ++ (cs29 ++ sp16)), zab ([] ++ (cs30 ++ [])), zab ([] ++ (cs32 ++ []))]) hS16 hE83 q103
      have hc35 : (cs32 ++ []).length = m11 * rBool.sz := zhc hc31 q103
      have K37 := ks w hS16
      refine zag (zaj (v := zT) rfl ?_)
      refine zaq (zal (zah rfl (zag (zae (v := (osv ob15 0 last13.length cap15)) rfl ?_))))
      refine zag (zae (v := (zI x22)) rfl ?_)
      have hE84 : Els rI (vH w None [some b10, ob8, ob10, ob15, some b12, some b13] w77) [(zI x22)] [x22] := (zcp (a := [(zI x22)]) rfl zcm)
      refine zag (zcl (r := rI) (vs := [(zI x22)]) (css := [[(zI x22)]]) (xs := [x22]) zao ti3 (zai rfl) rfl rfl ⟨rfl, rfl, trivial⟩ (zai rfl) hE84 rfl hL47 ?_)
      intro b16 w78 hc36 hL48 hS17
      have K38 := ks w hS17
      obtain ⟨x29, q104, h⟩ := zee h
      obtain ⟨q105, q106, q107⟩ := zer q104
      have f31 := (hE84.mono (K38 None))
      have f32 := (((hE44.mono (K36 None)).mono (K37 None)).mono (K38 None))
      refine zag (zcx (r := rI) (H := (vH w None [some b16, some b10, ob8, ob10, ob15, some b12, some b13] w78)) (cs := cs29) (sp := sp16) (xs := last13) (ys := [x22]) (Y := x29) (n := last13.length) (cap := cap15) (i := 4) zao ti3 rfl rfl rfl rfl hL48 rfl rfl f32 rfl hc29 (zdw (pre := []) (o := 0) (n := 1) (cap := 1) (hL48.at 0 rfl rfl) f31 rfl rfl rfl) (zci (fun _ _ _ _ h => h) f31) q105 q106 q107 ?_)
      intro ob16 cap16 sp17 cs33 w79 hE85 hc37 (hL49 : vL w w79 [some b16, some b10, ob8, ob10, ob16, some b12, some b13] [zab ([] ++ ([(zI x22)] ++ [])), zab [(osv ob8 0 r6.1.length cap9)], zab ([] ++ (cs12 ++ sp10)), zab ([] ++ (cs11 ++ sp11)), zab ([] ++ (cs33 ++ sp17)), zab ([] ++ (cs30 ++ [])), zab ([] ++ (cs32 ++ []))]) hS18
      have K39 := ks w hS18
      refine zag (zaj (v := (osv ob16 0 x29.length cap16)) rfl ?_)
      refine zaq (zal (zah rfl (zag (zav (v := (osv ob8 0 r6.1.length cap9)) zas rfl rfl (hL49.at 1 rfl rfl) rfl ?_))))
      refine zag (zae (v := (zI x22)) rfl ?_)
      obtain ⟨x30, n23, q109, q110, q111, h⟩ := zix h
      have f33 := (((((f28.mono (K30 None)).mono (K36 None)).mono (K37 None)).mono (K38 None)).mono (K39 None))
      obtain ⟨b17, hb13⟩ := hL49.row_some 2 rfl rfl (zev (pre := []) f33 q110 (Nat.lt_of_sub_eq_succ rfl))
      refine zag (zbe (r := rTClass) (b := b17) (o := 0) (n := n23) (m := r6.1.length) (xs := l10) (q := (0 + n23 * rTClass.sz)) zas ti56 (zem hb13) hl13 rfl q109 q111 rfl ?_)
      refine zag (zau (q := ((0 + n23 * rTClass.sz) + 4)) zbo rfl ti22 rfl rfl rfl ?_)
      obtain ⟨vs18, q112, q113, q114⟩ := zeo (pre := []) (sp := sp10) f33 q110
      obtain ⟨v28, v29, v30, rfl, k28, k29, k30, -⟩ := rTClass_open q113
      have q115 := elem_part (us := [v30]) (q := 4) q114 rfl
      refine zag (zbu (v := v30) zao rfl rfl (zeq hb13 (hL49.at 2 rfl rfl)) q115 ?_)
      refine zag (zcf (v := v30) zao rfl k30 ?_)
      refine zag (zae (v := (zI 0)) rfl (zaq ?_))
      obtain ⟨s15, hl25, g15⟩ := zee h
      refine zbs (fun e w' => ∃ (left15 : (List Int)) (cs34 : List Value) (u : Env), left15 = s15 ∧ e = upds [(4, (zam (some ⟨b10, 0, none⟩))), (5, (osv ob10 0 r6.2.1.length cap10)), (8, (osv ob16 0 x29.length cap16)), (9, (osv (some b12) 0 x16.length m10)), (10, (osv (some b13) 0 x17.length m11)), (12, zT), (83, (zI (l10.length : Int))), (84, (zI x22))] u ∧ vL w w' [some b10, ob8, ob10, ob16, some b12, some b13] [zab [(osv ob8 0 r6.1.length cap9)], zab ([] ++ (cs12 ++ sp10)), zab ([] ++ (cs11 ++ sp11)), zab ([] ++ (cs33 ++ sp17)), zab ([] ++ (cs34 ++ [])), zab ([] ++ (cs32 ++ []))] ∧ Keep w.heap.size [some b16, some b10, ob8, ob10, ob16, some b12, some b13] w79 [some b10, ob8, ob10, ob16, some b12, some b13] w' ∧ Els rI (vH w None [some b10, ob8, ob10, ob16, some b12, some b13] w') cs34 left15 ∧ x16.length = List.length left15 ∧ (cs34 ++ []).length = m10 * rI.sz ∧ True) ?_ ?_
      ·
       refine zbc ?_
       have hp19 := hL49.pick [1, 2, 3, 4, 5, 6] rfl rfl rfl
       have hL50 : vL w w79 [some b10, ob8, ob10, ob16, some b12, some b13] [zab [(osv ob8 0 r6.1.length cap9)], zab ([] ++ (cs12 ++ sp10)), zab ([] ++ (cs11 ++ sp11)), zab ([] ++ (cs33 ++ sp17)), zab ([] ++ (cs30 ++ [])), zab ([] ++ (cs32 ++ []))] := hp19.1
       have K40 := ks w hp19.2
       have f34 := (((((hE45.mono (K36 None)).mono (K37 None)).mono (K38 None)).mono (K39 None)).mono (K40 None))
       refine zbw hl25 (fun (ss : ((List Int) × Int)) (e : Env) (w' : World) => match ss with | (left16, x31) => ∃ (cs35 : List Value) (u : Env), e = upds [(4, (zam (some ⟨b10, 0, none⟩))), (5, (osv ob10 0 r6.2.1.length cap10)), (8, (osv ob16 0 x29.length cap16)), (9, (osv (some b12) 0 x16.length m10)), (10, (osv (some b13) 0 x17.length m11)), (12, zT), (83, (zI (l10.length : Int))), (84, (zI x22)), (116, v30), (117, (zI (x30.apart.length : Int))), (118, (zI x31))] u ∧ vL w w' [some b10, ob8, ob10, ob16, some b12, some b13] [zab [(osv ob8 0 r6.1.length cap9)], zab ([] ++ (cs12 ++ sp10)), zab ([] ++ (cs11 ++ sp11)), zab ([] ++ (cs33 ++ sp17)), zab ([] ++ (cs35 ++ [])), zab ([] ++ (cs32 ++ []))] ∧ Keep w.heap.size [some b16, some b10, ob8, ob10, ob16, some b12, some b13] w79 [some b10, ob8, ob10, ob16, some b12, some b13] w' ∧ Els rI (vH w None [some b10, ob8, ob10, ob16, some b12, some b13] w') cs35 left16 ∧ x16.length = List.length left16 ∧ (cs35 ++ []).length = m10 * rI.sz ∧ True) ⟨cs30, _, (zef ⟨rfl, rfl, rfl, rfl, rfl, rfl, rfl, rfl, rfl, rfl, rfl, trivial⟩), hL50, K40, f34, hl22, hc30, trivial⟩ ?_
       rintro ⟨left16, x31⟩ oo _ w80 ⟨cs35, u, rfl, hL51, K41, hE86, hl26, hc38, -⟩ h hd14
       rw [tSolve_b5] at h
       refine zal (zah rfl (zag (zcg (x := x31) (y := (x30.apart.length : Int)) ((x31 : Int) < (x30.apart.length : Int)) rfl rfl zbi ?_)))
       refine zaq (zal ?_)
       refine zbj ((x31 : Int) < (x30.apart.length : Int)) rfl (fun hc39 => ?_) (fun hc39 => ?_)
       ·
        replace h := ite_t hc39 h
        refine zbl (zal (zbc (zal (zah rfl ?_))))
        obtain ⟨x32, n24, q117, q118, -, h⟩ := zix h
        have f35 := (k30.mono (K41 None))
        obtain ⟨b18, o10, c10, vs19, q119, q120, f36, q121⟩ := zdc f35 q118
        obtain rfl := q121
        refine zag (zby (r := rI) (v := v30) (n := n24) (m := (o10 + n24 * rI.sz)) zao ti3 rfl q119 rfl q117 q118 rfl ?_)
        refine zag (zce (v := (zI x32)) zaw rfl rfl zel f36 ?_)
        refine zag (zaj (v := (zI x32)) rfl ?_)
        refine zaq (zah rfl (zag (zae (v := (osv (some b12) 0 x16.length m10)) rfl ?_)))
        refine zag (zae (v := (zI x32)) rfl ?_)
        obtain ⟨x33, n25, q123, q124, q125, h⟩ := zix h
        refine zag (zbe (r := rI) (b := b12) (o := 0) (n := n25) (m := x16.length) (xs := left16) (q := (0 + n25 * rI.sz)) zao ti3 rfl hl26 rfl q123 q125 rfl ?_)
        obtain ⟨vs20, q126, q127, q128⟩ := zeo (pre := []) (sp := []) hE86 q124
        obtain rfl := q127
        refine zag (zbu (v := (zI x33)) zaw rfl rfl (hL51.at 4 rfl rfl) q128 ?_)
        refine zag (OpY.sub (x := x33) (y := 1) (z := (iw (x33 - 1))) rfl rfl rfl ?_)
        obtain ⟨x34, n26, q130, q131, q132, h⟩ := zix h
        refine zag (zbe (r := rI) (b := b12) (o := 0) (n := n26) (m := x16.length) (xs := left16) (q := (0 + n26 * rI.sz)) zao ti3 rfl hl26 rfl q130 q132 rfl ?_)
        obtain ⟨x35, n27, q134, q135, q136, h⟩ := zux h
        obtain rfl := zin q130 q134
        refine zdj (zdd (pre := []) (r := rI) (vs := [(zI (iw (x33 - 1)))]) (a := (iw (x33 - 1))) ti3 rfl rfl rfl rfl hL51 4 rfl rfl hE86 q132 rfl q136 ?_)
        have hl27 : x16.length = List.length x35 := by rw [q136, List.length_set]; exact hl26
        intro w81 cs36 (hL52 : vL w w81 [some b10, ob8, ob10, ob16, some b12, some b13] [zab [(osv ob8 0 r6.1.length cap9)], zab ([] ++ (cs12 ++ sp10)), zab ([] ++ (cs11 ++ sp11)), zab ([] ++ (cs33 ++ sp17)), zab ([] ++ (cs36 ++ [])), zab ([] ++ (cs32 ++ []))]) hS19 hE87 q137
        have hc40 : (cs36 ++ []).length = m10 * rI.sz := zhc hc38 q137
        have K42 := ks w hS19
        refine zaq (zbf (zah rfl (zag (zbx (x := x31) (y := 1) (z := (iw (x31 + 1))) rfl rfl rfl ?_))))
        refine zag (zae (v := (zI (iw (x31 + 1)))) rfl (zaq ?_))
        have f37 := (hE87.mono (K42 None))
        obtain rfl := zad h
        refine zap ⟨(x35, (iw (x31 + 1))), rfl, ?_⟩
        exact ⟨cs36, _, (zef ⟨rfl, rfl, rfl, rfl, rfl, rfl, rfl, rfl, rfl, rfl, rfl, trivial⟩), hL52, (zak K41 K42), f37, hl27, hc40, trivial⟩
       replace h := ite_f hc39 h
       refine zca rfl ?_
       obtain rfl := zad h
       obtain rfl := hd14 _ rfl
       replace h := g15
       try dsimp only at h
       refine zap ?_
       exact ⟨left16, cs35, _, rfl, (zef ⟨rfl, rfl, rfl, rfl, rfl, rfl, rfl, rfl, trivial⟩), hL51, K41, hE86, hl26, hc38, trivial⟩
      rintro _ w82 ⟨left15, cs34, u, rfl, rfl, hL53, K43, hE88, hl28, hc41, -⟩
      replace h := g15
      try dsimp only at h
      refine zbf (zah rfl (zag (zbx (x := x22) (y := 1) (z := (iw (x22 + 1))) rfl rfl rfl ?_)))
      refine zag (zae (v := (zI (iw (x22 + 1)))) rfl (zaq ?_))
      have f38 := ((hE85.mono (K39 None)).mono (K43 None))
      have f39 := ((((hE83.mono (K37 None)).mono (K38 None)).mono (K39 None)).mono (K43 None))
      obtain rfl := zad h
      refine zap ⟨(x29, left15, x28, true, (iw (x22 + 1))), rfl, ?_⟩
      exact ⟨ob16, cap16, sp17, cs33, x29.length, cs34, cs32, _, (zef ⟨rfl, rfl, rfl, rfl, rfl, rfl, rfl, rfl, trivial⟩), hL53, (zak (zak (zak (zak (zak K30 K36) K37) K38) K39) K43), f38, rfl, hc37, hE88, hl28, hc41, f39, hl24, hc35, trivial⟩
     replace h := ite_f hc34 h
     refine zbl (zbf (zah rfl (zag (zbx (x := x22) (y := 1) (z := (iw (x22 + 1))) rfl rfl rfl ?_))))
     refine zag (zae (v := (zI (iw (x22 + 1)))) rfl (zaq ?_))
     have f40 := (hE44.mono (K36 None))
     have f41 := (hE45.mono (K36 None))
     have f42 := (hE46.mono (K36 None))
     obtain rfl := zad h
     refine zap ⟨(last13, left14, removed13, changed12, (iw (x22 + 1))), rfl, ?_⟩
     exact ⟨ob15, cap15, sp16, cs29, last13.length, cs30, cs31, _, (zef ⟨rfl, rfl, rfl, rfl, rfl, rfl, rfl, rfl, trivial⟩), hL46, (zak K30 K36), f40, rfl, hc29, f41, hl22, hc30, f42, hl23, hc31, trivial⟩
    replace h := ite_f hc32 h
    refine zca rfl ?_
    obtain rfl := zad h
    obtain rfl := hd13 _ rfl
    replace h := g13
    try dsimp only at h
    refine zap ?_
    exact ⟨last13, left14, removed13, changed12, ob15, cap15, sp16, cs29, last13.length, cs30, cs31, _, rfl, (zef ⟨rfl, rfl, rfl, rfl, rfl, rfl, trivial⟩), hL36, K30, hE44, rfl, hc29, hE45, hl22, hc30, hE46, hl23, hc31, trivial⟩
   rintro _ w83 ⟨last12, left13, removed12, changed11, ob14, cap14, sp15, cs26, ln12, cs27, cs28, u, rfl, rfl, hL54, K44, hE89, rfl, hc42, hE90, hl29, hc43, hE91, hl30, hc44, -⟩
   replace h := g13
   try dsimp only at h
   refine zbf ?_
   obtain rfl := zad h
   refine zap ⟨(last12, left13, removed12, changed11), rfl, ?_⟩
   exact ⟨ob14, cap14, sp15, cs26, last12.length, cs27, cs28, _, (zef ⟨rfl, rfl, rfl, rfl, rfl, rfl, trivial⟩), hL54, (zak K29 K44), hE89, rfl, hc42, hE90, hl29, hc43, hE91, hl30, hc44, trivial⟩
  replace h := ite_f hc28 h
  refine zca rfl ?_
  have hp20 := hL35.pick [0, 1, 2, 3, 5] rfl rfl rfl
  have hL55 : vL w w38 [some b10, ob8, ob10, ob13, some b13] [zab [(osv ob8 0 r6.1.length cap9)], zab ([] ++ (cs12 ++ sp10)), zab ([] ++ (cs11 ++ sp11)), zab ([] ++ (cs23 ++ sp14)), zab ([] ++ (cs25 ++ []))] := hp20.1
  have K45 := ks w hp20.2
  have f43 := (hE41.mono (K45 None))
  have f44 := (hE43.mono (K45 None))
  obtain rfl := zad h
  obtain rfl := hd12 _ rfl
  replace h := g12
  try dsimp only at h
  refine zap ?_
  exact ⟨last11, removed11, ob13, cap13, sp14, cs23, last11.length, cs25, _, rfl, (zef ⟨rfl, rfl, rfl, rfl, trivial⟩), hL55, (zak K29 K45), f43, rfl, hc25, f44, hl20, hc27, trivial⟩
 rintro _ w84 ⟨last10, removed10, ob12, cap12, sp13, cs21, ln10, cs22, u, rfl, rfl, hL56, K46, hE92, rfl, hc45, hE93, hl31, hc46, -⟩
 replace h := g12
 try dsimp only at h
 refine zal (zah rfl (zag (zaj (v := zN) rfl ?_)))
 refine zaq (zal (zal (zah rfl (zag (zav (v := (osv ob8 0 r6.1.length cap9)) zas rfl rfl (hL56.at 0 rfl rfl) rfl ?_)))))
 have f45 := ((f21.mono (K26 None)).mono (K46 None))
 refine zag (zcj (pre := []) (r := rTClass) (xs := l10) zas rfl (hL56.at 1 rfl rfl) f45 rfl hl13 ?_)
 refine zag (zae (v := (zI 0)) rfl (zaq ?_))
 obtain ⟨s16, hl32, g16⟩ := zee h
 refine zbs (fun e w' => ∃ (hard10 : (List Int)) (ob17 : Option Nat) (cap17 : Nat) (sp18 : List Value) (cs37 : List Value) (ln14 : Nat) (u : Env), hard10 = s16 ∧ e = upds [(4, (zam (some ⟨b10, 0, none⟩))), (5, (osv ob10 0 r6.2.1.length cap10)), (8, (osv ob12 0 last10.length cap12)), (16, (osv ob17 0 ln14 cap17))] u ∧ vL w w' [some b10, ob8, ob10, ob12, ob17] [zab [(osv ob8 0 r6.1.length cap9)], zab ([] ++ (cs12 ++ sp10)), zab ([] ++ (cs11 ++ sp11)), zab ([] ++ (cs21 ++ sp13)), zab ([] ++ (cs37 ++ sp18))] ∧ Keep w.heap.size [some b10, ob8, ob10, ob12, some b13] w84 [some b10, ob8, ob10, ob12, ob17] w' ∧ Els rI (vH w None [some b10, ob8, ob10, ob12, ob17] w') cs37 hard10 ∧ ln14 = List.length hard10 ∧ (cs37 ++ sp18).length = cap17 * rI.sz ∧ True) ?_ ?_
 ·
  refine zbc ?_
  have hp21 := hL56.addNil
  have hL57 : vL w w84 [none, some b10, ob8, ob10, ob12, some b13] [zab ([] ++ ([] ++ [])), zab [(osv ob8 0 r6.1.length cap9)], zab ([] ++ (cs12 ++ sp10)), zab ([] ++ (cs11 ++ sp11)), zab ([] ++ (cs21 ++ sp13)), zab ([] ++ (cs22 ++ []))] := hp21.1
  have K47 := ks w hp21.2
  have hp22 := hL57.pick [1, 2, 3, 4, 5, 0] rfl rfl rfl
  have hL58 : vL w w84 [some b10, ob8, ob10, ob12, some b13, none] [zab [(osv ob8 0 r6.1.length cap9)], zab ([] ++ (cs12 ++ sp10)), zab ([] ++ (cs11 ++ sp11)), zab ([] ++ (cs21 ++ sp13)), zab ([] ++ (cs22 ++ [])), zab ([] ++ ([] ++ []))] := hp22.1
  have K48 := ks w hp22.2
  have f46 := ((zcm (r := rI)).mono (K48 None))
  refine zbw hl32 (fun (ss : ((List Int) × Int)) (e : Env) (w' : World) => match ss with | (hard11, x36) => ∃ (ob18 : Option Nat) (cap18 : Nat) (sp19 : List Value) (cs38 : List Value) (ln15 : Nat) (u : Env), e = upds [(4, (zam (some ⟨b10, 0, none⟩))), (5, (osv ob10 0 r6.2.1.length cap10)), (8, (osv ob12 0 last10.length cap12)), (10, (osv (some b13) 0 x17.length m11)), (16, (osv ob18 0 ln15 cap18)), (131, (zI (l10.length : Int))), (132, (zI x36))] u ∧ vL w w' [some b10, ob8, ob10, ob12, some b13, ob18] [zab [(osv ob8 0 r6.1.length cap9)], zab ([] ++ (cs12 ++ sp10)), zab ([] ++ (cs11 ++ sp11)), zab ([] ++ (cs21 ++ sp13)), zab ([] ++ (cs22 ++ [])), zab ([] ++ (cs38 ++ sp19))] ∧ Keep w.heap.size [some b10, ob8, ob10, ob12, some b13] w84 [some b10, ob8, ob10, ob12, some b13, ob18] w' ∧ Els rI (vH w None [some b10, ob8, ob10, ob12, some b13, ob18] w') cs38 hard11 ∧ ln15 = List.length hard11 ∧ (cs38 ++ sp19).length = cap18 * rI.sz ∧ True) ⟨none, 0, [], [], (List.length ([] : (List Int))), _, (zef ⟨rfl, rfl, rfl, rfl, rfl, rfl, rfl, trivial⟩), hL58, (zak K47 K48), f46, rfl, (show ([] ++ [] : List Value).length = 0 * rI.sz by simp), trivial⟩ ?_
  rintro ⟨hard11, x36⟩ oo _ w85 ⟨ob18, cap18, sp19, cs38, ln15, u, rfl, hL59, K49, hE94, rfl, hc47, -⟩ h hd15
  rw [tSolve_b6] at h
  refine zal (zah rfl (zag (zcg (x := x36) (y := (l10.length : Int)) ((x36 : Int) < (l10.length : Int)) rfl rfl zbi ?_)))
  refine zaq (zal ?_)
  refine zbj ((x36 : Int) < (l10.length : Int)) rfl (fun hc48 => ?_) (fun hc48 => ?_)
  ·
   replace h := ite_t hc48 h
   refine zbl (zal (zbc (zal (zah rfl (zag (zae (v := (zI x36)) rfl ?_))))))
   refine zag (zaj (v := (zI x36)) rfl ?_)
   refine zaq (zal (zah rfl (zag (zae (v := (osv (some b13) 0 x17.length m11)) rfl ?_))))
   refine zag (zae (v := (zI x36)) rfl ?_)
   obtain ⟨x37, n28, q139, q140, q141, h⟩ := zix h
   refine zag (zbe (r := rBool) (b := b13) (o := 0) (n := n28) (m := x17.length) (xs := removed10) (q := (0 + n28 * rBool.sz)) zcn ti4 rfl hl31 rfl q139 q141 rfl ?_)
   have f47 := (hE93.mono (K49 None))
   obtain ⟨vs21, q142, q143, q144⟩ := zeo (pre := []) (sp := []) f47 q140
   obtain rfl := q143
   refine zag (zbu (v := (zac x37)) zdr rfl rfl (hL59.at 4 rfl rfl) q144 ?_)
   refine zag (OpY.not (x := x37) rfl (zaq ?_))
   refine zch (!x37) rfl (fun hc49 => ?_) (fun hc49 => ?_)
   ·
    replace h := ite_t hc49 h
    refine zah rfl (zag (zae (v := (osv ob18 0 hard11.length cap18)) rfl ?_))
    refine zag (zae (v := (zI x36)) rfl ?_)
    have hE95 : Els rI (vH w None [some b10, ob8, ob10, ob12, some b13, ob18] w85) [(zI x36)] [x36] := (zcp (a := [(zI x36)]) rfl zcm)
    refine zag (zcl (r := rI) (vs := [(zI x36)]) (css := [[(zI x36)]]) (xs := [x36]) zao ti3 (zai rfl) rfl rfl ⟨rfl, rfl, trivial⟩ (zai rfl) hE95 rfl hL59 ?_)
    intro b19 w86 hc50 hL60 hS20
    have K50 := ks w hS20
    obtain ⟨x38, q145, h⟩ := zee h
    obtain ⟨q146, q147, q148⟩ := zer q145
    have f48 := (hE95.mono (K50 None))
    have f49 := (hE94.mono (K50 None))
    refine zag (zcx (r := rI) (H := (vH w None [some b19, some b10, ob8, ob10, ob12, some b13, ob18] w86)) (cs := cs38) (sp := sp19) (xs := hard11) (ys := [x36]) (Y := x38) (n := hard11.length) (cap := cap18) (i := 6) zao ti3 rfl rfl rfl rfl hL60 rfl rfl f49 rfl hc47 (zdw (pre := []) (o := 0) (n := 1) (cap := 1) (hL60.at 0 rfl rfl) f48 rfl rfl rfl) (zci (fun _ _ _ _ h => h) f48) q146 q147 q148 ?_)
    intro ob19 cap19 sp20 cs39 w87 hE96 hc51 (hL61 : vL w w87 [some b19, some b10, ob8, ob10, ob12, some b13, ob19] [zab ([] ++ ([(zI x36)] ++ [])), zab [(osv ob8 0 r6.1.length cap9)], zab ([] ++ (cs12 ++ sp10)), zab ([] ++ (cs11 ++ sp11)), zab ([] ++ (cs21 ++ sp13)), zab ([] ++ (cs22 ++ [])), zab ([] ++ (cs39 ++ sp20))]) hS21
    have K51 := ks w hS21
    refine zag (zaj (v := (osv ob19 0 x38.length cap19)) rfl ?_)
    refine zaq (zbf (zah rfl (zag (zbx (x := x36) (y := 1) (z := (iw (x36 + 1))) rfl rfl rfl ?_))))
    refine zag (zae (v := (zI (iw (x36 + 1)))) rfl (zaq ?_))
    have hp23 := hL61.pick [1, 2, 3, 4, 5, 6] rfl rfl rfl
    have hL62 : vL w w87 [some b10, ob8, ob10, ob12, some b13, ob19] [zab [(osv ob8 0 r6.1.length cap9)], zab ([] ++ (cs12 ++ sp10)), zab ([] ++ (cs11 ++ sp11)), zab ([] ++ (cs21 ++ sp13)), zab ([] ++ (cs22 ++ [])), zab ([] ++ (cs39 ++ sp20))] := hp23.1
    have K52 := ks w hp23.2
    have f50 := ((hE96.mono (K51 None)).mono (K52 None))
    obtain rfl := zad h
    refine zap ⟨(x38, (iw (x36 + 1))), rfl, ?_⟩
    exact ⟨ob19, cap19, sp20, cs39, x38.length, _, (zef ⟨rfl, rfl, rfl, rfl, rfl, rfl, rfl, trivial⟩), hL62, (zak (zak (zak K49 K50) K51) K52), f50, rfl, hc51, trivial⟩
   replace h := ite_f hc49 h
   refine zbl (zbf (zah rfl (zag (zbx (x := x36) (y := 1) (z := (iw (x36 + 1))) rfl rfl rfl ?_))))
   refine zag (zae (v := (zI (iw (x36 + 1)))) rfl (zaq ?_))
   obtain rfl := zad h
   refine zap ⟨(hard11, (iw (x36 + 1))), rfl, ?_⟩
   exact ⟨ob18, cap18, sp19, cs38, hard11.length, _, (zef ⟨rfl, rfl, rfl, rfl, rfl, rfl, rfl, trivial⟩), hL59, K49, hE94, rfl, hc47, trivial⟩
  replace h := ite_f hc48 h
  refine zca rfl ?_
  have hp24 := hL59.pick [0, 1, 2, 3, 5] rfl rfl rfl
  have hL63 : vL w w85 [some b10, ob8, ob10, ob12, ob18] [zab [(osv ob8 0 r6.1.length cap9)], zab ([] ++ (cs12 ++ sp10)), zab ([] ++ (cs11 ++ sp11)), zab ([] ++ (cs21 ++ sp13)), zab ([] ++ (cs38 ++ sp19))] := hp24.1
  have K53 := ks w hp24.2
  have f51 := (hE94.mono (K53 None))
  obtain rfl := zad h
  obtain rfl := hd15 _ rfl
  replace h := g16
  try dsimp only at h
  refine zap ?_
  exact ⟨hard11, ob18, cap18, sp19, cs38, hard11.length, _, rfl, (zef ⟨rfl, rfl, rfl, rfl, trivial⟩), hL63, (zak K49 K53), f51, rfl, hc47, trivial⟩
 rintro _ w88 ⟨hard10, ob17, cap17, sp18, cs37, ln14, u, rfl, rfl, hL64, K54, hE97, rfl, hc52, -⟩
 replace h := g16
 try dsimp only at h
 refine zal (zah rfl (zag (zae (v := (osv ob17 0 hard10.length cap17)) rfl ?_)))
 refine zag (OpY.makeFunc (vs := [(zam (some ⟨b10, 0, none⟩))]) rfl ?_)
 obtain ⟨r11, q149, h⟩ := zee h
 have hL65 := hL64.lendW [4] rfl rfl rfl
 have f52 := (f45.mono (K54 None))
 refine zag (zds en33 rfl rfl (sortStable_w N hard10 (fun y10 y11 => tSolve1 N y10 y11 l10) ob17 cap17 cs37 sp18 (Value.func (.func 34) #[] #[(zam (some ⟨b10, 0, none⟩))]) [ob17] _ Any hL65 (hE97.mono (zcr [4] rfl)) hc52 (fun w9 hE9 y12 y13 z9 hz9 => ⟨34, [(zam (some ⟨b10, 0, none⟩))], rfl, en34, (tSolve1_w N y12 y13 l10 b10 (osv ob8 0 r6.1.length cap9) _ Any (own_any (own_xte hL64 0 [4] rfl rfl rfl rfl hE9)) ((zet (pre := []) (o := 0) (n := r6.1.length) (cap := cap9) hL64 1 [4] rfl rfl rfl rfl f52 (zcr [4] rfl) rfl rfl hl13 hc18).mono (any_xte hE9)) z9 hz9)⟩) r11 q149) ?_)
 rintro _ w89 ⟨cs40, sp21, rfl, hL66, K55, hl33, hE98, hc53, -⟩
 refine ⟨_, rfl, ?_⟩
 have hp25 := hL64.backW [4] [0, 1, 2, 3] rfl rfl rfl rfl hL66
 have hL67 : vL w w89 [ob17, some b10, ob8, ob10, ob12] [zab ([] ++ (cs40 ++ sp21)), zab [(osv ob8 0 r6.1.length cap9)], zab ([] ++ (cs12 ++ sp10)), zab ([] ++ (cs11 ++ sp11)), zab ([] ++ (cs21 ++ sp13))] := (by have h9 := hp25.1; (try rw [← hl33] at h9); exact h9)
 have K56 := ks w hp25.2
 have hE99 : Els rI (vH w None [ob17, some b10, ob8, ob10, ob12] w89) cs40 r11 := zci (fun _ _ _ _ h => h) hE98
 refine zaq (zal (zah rfl (zag (zae (v := (osv ob12 0 last10.length cap12)) rfl ?_))))
 obtain ⟨r12, q150, h⟩ := zee h
 have hL68 := hL67.lendW [4] rfl rfl rfl
 have f53 := ((hE92.mono (K54 None)).mono (K56 None))
 refine zag (zds en35 rfl rfl (revInt_w N last10 ob12 cap12 cs21 sp13 [ob12] _ Any hL68 (f53.mono (zcr [4] rfl)) hc45 r12 q150) ?_)
 rintro _ w90 ⟨cs41, sp22, rfl, hL69, K57, hl34, hE100, hc54, -⟩
 refine ⟨_, rfl, ?_⟩
 have hp26 := hL67.backW [4] [0, 1, 2, 3] rfl rfl rfl rfl hL69
 have hL70 : vL w w90 [ob12, ob17, some b10, ob8, ob10] [zab ([] ++ (cs41 ++ sp22)), zab ([] ++ (cs40 ++ sp21)), zab [(osv ob8 0 r6.1.length cap9)], zab ([] ++ (cs12 ++ sp10)), zab ([] ++ (cs11 ++ sp11))] := (by have h9 := hp26.1; (try rw [← hl34] at h9); exact h9)
 have K58 := ks w hp26.2
 have hE101 : Els rI (vH w None [ob12, ob17, some b10, ob8, ob10] w90) cs41 r12 := zci (fun _ _ _ _ h => h) hE100
 refine zaq (zal ?_)
 obtain ⟨s17, h, g17⟩ := zee h
 refine zbs (fun e w' => ∃ (chosen10 : (List (List UInt8))) (al10 : Bool) (is10 : Bool) (ob20 : Option Nat) (cap20 : Nat) (sp23 : List Value) (cs42 : List Value) (ln16 : Nat) (u : Env), (chosen10, al10, is10) = s17 ∧ e = upds [(5, (osv ob10 0 r6.2.1.length cap10)), (18, (bif al10 then (osv ob20 0 ln16 cap20) else zat none 0 0)), (19, (zac is10))] u ∧ vL w w' [ob10, ob20] [zab ([] ++ (cs11 ++ sp11)), zab ([] ++ (cs42 ++ sp23))] ∧ Keep w.heap.size [ob12, ob17, some b10, ob8, ob10] w90 [ob10, ob20] w' ∧ Els rStr (vH w None [ob10, ob20] w') cs42 chosen10 ∧ ln16 = List.length chosen10 ∧ (cs42 ++ sp23).length = cap20 * rStr.sz ∧ True) ?_ ?_
 ·
  obtain ⟨x39, q151, h⟩ := zee h
  obtain ⟨q152, q153, q154⟩ := zer q151
  obtain ⟨x40, q155, h⟩ := zee h
  obtain ⟨m12, q156, q157, q158, q159⟩ := mk1_some q155
  obtain ⟨x41, q160, h⟩ := zee h
  obtain ⟨m13, q161, q162, q163, q164⟩ := mk1_some q160
  refine Swp.drawF (O := [ob12, ob17, some b10, ob8, ob10]) [3, 6, 9, 10] [0, 1, 2, 4, 5, 7, 8, 11, 12, 13, 14, 15] [0, 1, 2, 4, 5, 7, 8] [] [(151, (osv ob8 0 r6.1.length cap9)), (152, (osv ob17 0 hard10.length cap17)), (153, (osv ob12 0 last10.length cap12)), (155, (osv ob8 0 r6.1.length cap9)), (156, (zI (l10.length : Int))), (158, (osv ob8 0 r6.1.length cap9)), (159, (zI (l10.length : Int)))] (fun f v O w' => Rs rI (vH w None O w') v []) w.heap.size mixed rfl rfl rfl rfl (fun b hb => hL70.own.lt b hb) hL70.size (fun _ _ _ _ _ _ h hs => h.mono (hs _)) FloatP.nil ?_
  intro w91 hE102
  obtain ⟨hL71, K59⟩ := zl hL70 hE102
  refine ⟨?_, ?_⟩
  ·
   intro w92 hE103
   obtain ⟨hL72, K60⟩ := zl hL71 hE103
   refine zan (i := 0) rfl rfl (zar (zav (v := (osv ob8 0 r6.1.length cap9)) zas rfl rfl (hL72.at 2 rfl rfl) rfl zrr)) ?_
   refine zan (i := 1) rfl rfl (zar (zae (v := (osv ob17 0 hard10.length cap17)) rfl zrr)) ?_
   refine zan (i := 2) rfl rfl (zar (zae (v := (osv ob12 0 last10.length cap12)) rfl zrr)) ?_
   refine zan (i := 4) rfl rfl (zar (zav (v := (osv ob8 0 r6.1.length cap9)) zas rfl rfl (hL72.at 2 rfl rfl) rfl zrr)) ?_
   refine zan (i := 5) rfl rfl (zar (zcj (pre := []) (r := rTClass) (xs := l10) zas rfl (hL72.at 3 rfl rfl) ((((f52.mono (K56 None)).mono (K58 None)).mono (K59 None)).mono (K60 None)) rfl hl13 zrr)) ?_
   refine zan (i := 7) rfl rfl (zar (zav (v := (osv ob8 0 r6.1.length cap9)) zas rfl rfl (hL72.at 2 rfl rfl) rfl zrr)) ?_
   refine zan (i := 8) rfl rfl (zar (zcj (pre := []) (r := rTClass) (xs := l10) zas rfl (hL72.at 3 rfl rfl) ((((f52.mono (K56 None)).mono (K58 None)).mono (K59 None)).mono (K60 None)) rfl hl13 zrr)) ?_
   exact zcd
  refine zdm (m := 3) [3, 6, 9] rfl rfl (fun q hq => ?_)
  rcases List.mem_cons.1 hq with rfl | hq
  ·
   refine zdt rfl ?_
   intro w93 V10 hE104 hp27
   obtain ⟨hL73, K61⟩ := zl hL71 hE104
   have f54 := ((hE101.mono (K59 None)).mono (K61 None))
   have f55 := (((hE99.mono (K58 None)).mono (K59 None)).mono (K61 None))
   refine zcx (r := rI) (H := (vH w None [ob12, ob17, some b10, ob8, ob10] w93)) (cs := cs40) (sp := sp21) (xs := r11) (ys := r12) (Y := x39) (n := hard10.length) (cap := cap17) (i := 1) zao ti3 rfl rfl rfl rfl hL73 rfl rfl f55 hl33 hc53 (zdw (pre := []) (o := 0) (n := last10.length) (cap := cap12) (hL73.at 0 rfl rfl) f54 rfl rfl hl34) (zci (fun _ _ _ _ h => h) f54) q152 q153 q154 ?_
   intro ob21 cap21 sp24 cs43 w94 hE105 hc55 (hL74 : vL w w94 [ob12, ob21, some b10, ob8, ob10] [zab ([] ++ (cs41 ++ sp22)), zab ([] ++ (cs43 ++ sp24)), zab [(osv ob8 0 r6.1.length cap9)], zab ([] ++ (cs12 ++ sp10)), zab ([] ++ (cs11 ++ sp11))]) hS22
   have K62 := ks w hS22
   refine ⟨_, [], [], K62, (fun b hb => hL74.own.lt b hb), hL74.size, rfl, rfl, ?_⟩
   refine ⟨?_, ?_⟩
   ·
    intro w95 hE106
    obtain ⟨hL75, K63⟩ := zl hL74 hE106
    refine zan (i := 0) rfl rfl (zar (zav (v := (osv ob8 0 r6.1.length cap9)) zas rfl rfl (hL75.at 2 rfl rfl) rfl zrr)) ?_
    refine zan (i := 4) rfl rfl (zar (zav (v := (osv ob8 0 r6.1.length cap9)) zas rfl rfl (hL75.at 2 rfl rfl) rfl zrr)) ?_
    refine zan (i := 5) rfl rfl (zar (zcj (pre := []) (r := rTClass) (xs := l10) zas rfl (hL75.at 3 rfl rfl) ((((((f52.mono (K56 None)).mono (K58 None)).mono (K59 None)).mono (K61 None)).mono (K62 None)).mono (K63 None)) rfl hl13 zrr)) ?_
    refine zan (i := 7) rfl rfl (zar (zav (v := (osv ob8 0 r6.1.length cap9)) zas rfl rfl (hL75.at 2 rfl rfl) rfl zrr)) ?_
    refine zan (i := 8) rfl rfl (zar (zcj (pre := []) (r := rTClass) (xs := l10) zas rfl (hL75.at 3 rfl rfl) ((((((f52.mono (K56 None)).mono (K58 None)).mono (K59 None)).mono (K61 None)).mono (K62 None)).mono (K63 None)) rfl hl13 zrr)) ?_
    exact zcd
   refine zdm (m := 2) [6, 9] rfl rfl (fun q hq => ?_)
   rcases List.mem_cons.1 hq with rfl | hq
   ·
    refine zdt rfl ?_
    intro w96 V11 hE107 hp28
    obtain ⟨hL76, K64⟩ := zl hL74 hE107
    refine zdl (r := rStr) (H := (vH w None [ob12, ob21, some b10, ob8, ob10] w96)) (zc := [(zaf ⟨#[]⟩)]) (x := []) zba ti9 rfl rfl rfl rfl q156 q157 q158 q159 hL76 ?_
    intro b20 w97 cs44 hE108 hc56 hL77 hS23
    have K65 := ks w hS23
    refine ⟨_, [], [], K65, (fun b hb => hL77.own.lt b hb), hL77.size, rfl, rfl, ?_⟩
    refine ⟨?_, ?_⟩
    ·
     intro w98 hE109
     obtain ⟨hL78, K66⟩ := zl hL77 hE109
     refine zan (i := 0) rfl rfl (zar (zav (v := (osv ob8 0 r6.1.length cap9)) zas rfl rfl (hL78.at 3 rfl rfl) rfl zrr)) ?_
     refine zan (i := 4) rfl rfl (zar (zav (v := (osv ob8 0 r6.1.length cap9)) zas rfl rfl (hL78.at 3 rfl rfl) rfl zrr)) ?_
     refine zan (i := 7) rfl rfl (zar (zav (v := (osv ob8 0 r6.1.length cap9)) zas rfl rfl (hL78.at 3 rfl rfl) rfl zrr)) ?_
     refine zan (i := 8) rfl rfl (zar (zcj (pre := []) (r := rTClass) (xs := l10) zas rfl (hL78.at 4 rfl rfl) ((((((((f52.mono (K56 None)).mono (K58 None)).mono (K59 None)).mono (K61 None)).mono (K62 None)).mono (K64 None)).mono (K65 None)).mono (K66 None)) rfl hl13 zrr)) ?_
     exact zcd
    refine zdm (m := 1) [9] rfl rfl (fun q hq => ?_)
    obtain rfl := List.mem_singleton.1 hq
    refine zdt rfl ?_
    intro w99 V12 hE110 hp29
    obtain ⟨hL79, K67⟩ := zl hL77 hE110
    refine zdl (r := rBool) (H := (vH w None [some b20, ob12, ob21, some b10, ob8, ob10] w99)) (zc := [zF]) (x := false) zcn ti4 rfl rfl rfl rfl q161 q162 q163 q164 hL79 ?_
    intro b21 w100 cs45 hE111 hc57 hL80 hS24
    have K68 := ks w hS24
    refine ⟨_, [], [], K68, (fun b hb => hL80.own.lt b hb), hL80.size, rfl, rfl, ?_⟩
    refine ⟨?_, ?_⟩
    ·
     intro w101 hE112
     obtain ⟨hL81, K69⟩ := zl hL80 hE112
     refine zan (i := 0) rfl rfl (zar (zav (v := (osv ob8 0 r6.1.length cap9)) zas rfl rfl (hL81.at 4 rfl rfl) rfl zrr)) ?_
     refine zan (i := 4) rfl rfl (zar (zav (v := (osv ob8 0 r6.1.length cap9)) zas rfl rfl (hL81.at 4 rfl rfl) rfl zrr)) ?_
     refine zan (i := 7) rfl rfl (zar (zav (v := (osv ob8 0 r6.1.length cap9)) zas rfl rfl (hL81.at 4 rfl rfl) rfl zrr)) ?_
     exact zcd
    refine zdm (m := 0) [10] rfl rfl (fun q hq => ?_)
    obtain rfl := List.mem_singleton.1 hq
    refine zdt rfl ?_
    intro w102 V13 hE113 hp30
    obtain ⟨hL82, K70⟩ := zl hL80 hE113
    obtain ⟨r13, q165, h⟩ := zee h
    have hL83 := hL82.lendW [1, 0] rfl rfl rfl
    have f56 := ((((((((((f52.mono (K56 None)).mono (K58 None)).mono (K59 None)).mono (K61 None)).mono (K62 None)).mono (K64 None)).mono (K65 None)).mono (K67 None)).mono (K68 None)).mono (K70 None))
    have f57 := ((((((hE105.mono (K62 None)).mono (K64 None)).mono (K65 None)).mono (K67 None)).mono (K68 None)).mono (K70 None))
    have f58 := ((((hE108.mono (K65 None)).mono (K67 None)).mono (K68 None)).mono (K70 None))
    have f59 := ((hE111.mono (K68 None)).mono (K70 None))
    refine zds en36 rfl rfl (tchoose_w N l10 x39 x40 x41 (osv ob8 0 r6.1.length cap9) (osv ob21 0 x39.length cap21) (some b20) m12 cs44 [] (some b21) m13 cs45 [] [some b20, some b21] _ Any hL83 (zet (pre := []) (o := 0) (n := r6.1.length) (cap := cap9) hL82 5 [1, 0] rfl rfl rfl rfl f56 (zcr [1, 0] rfl) rfl rfl hl13 hc18) (zet (pre := []) (o := 0) (n := x39.length) (cap := cap21) hL82 3 [1, 0] rfl rfl rfl rfl f57 (zcr [1, 0] rfl) rfl rfl rfl hc55) (f58.mono (zcr [1, 0] rfl)) hc56 (f59.mono (zcr [1, 0] rfl)) hc57 r13 q165) ?_
    rintro _ w103 ⟨cs46, sp25, cs47, sp26, rfl, hL84, K71, hl35, hE114, hc58, hl36, hE115, hc59, -⟩
    refine ⟨_, rfl, ?_⟩
    have hp31 := hL82.backW [1, 0] [2, 3, 4, 5, 6] rfl rfl rfl rfl hL84
    have hL85 : vL w w103 [some b20, some b21, ob12, ob21, some b10, ob8, ob10] [zab ([] ++ (cs46 ++ sp25)), zab ([] ++ (cs47 ++ sp26)), zab ([] ++ (cs41 ++ sp22)), zab ([] ++ (cs43 ++ sp24)), zab [(osv ob8 0 r6.1.length cap9)], zab ([] ++ (cs12 ++ sp10)), zab ([] ++ (cs11 ++ sp11))] := (by have h9 := hp31.1; (try rw [← hl35] at h9); (try rw [← hl36] at h9); exact h9)
    have K72 := ks w hp31.2
    have hE116 : Els rStr (vH w None [some b20, some b21, ob12, ob21, some b10, ob8, ob10] w103) cs46 r13.2.2.1 := zci (fun _ _ _ _ h => h) hE114
    have hE117 : Els rBool (vH w None [some b20, some b21, ob12, ob21, some b10, ob8, ob10] w103) cs47 r13.2.2.2 := zci (fun _ _ _ _ h => h) hE115
    refine ⟨_, [11, 12, 13, 14, 15], [(150, (Value.tuple #[(bif r13.1 then (osv (some b20) 0 x40.length m12) else zat none 0 0), (zac r13.2.1)])), (162, (bif r13.1 then (osv (some b20) 0 x40.length m12) else zat none 0 0)), (163, (zac r13.2.1)), (18, (bif r13.1 then (osv (some b20) 0 x40.length m12) else zat none 0 0)), (19, (zac r13.2.1))], K72, (fun b hb => hL85.own.lt b hb), hL85.size, rfl, rfl, ?_⟩
    refine ⟨?_, ?_⟩
    ·
     intro w104 hE118
     obtain ⟨hL86, K73⟩ := zl hL85 hE118
     refine zan (i := 4) rfl rfl (zar (zav (v := (osv ob8 0 r6.1.length cap9)) zas rfl rfl (hL86.at 4 rfl rfl) rfl zrr)) ?_
     refine zan (i := 7) rfl rfl (zar (zav (v := (osv ob8 0 r6.1.length cap9)) zas rfl rfl (hL86.at 4 rfl rfl) rfl zrr)) ?_
     refine zan (i := 11) rfl rfl (zar (zae (v := (Value.tuple #[(bif r13.1 then (osv (some b20) 0 x40.length m12) else zat none 0 0), (zac r13.2.1)])) rfl zrr)) ?_
     refine zan (i := 12) rfl rfl (zar (zck (vs := [(bif r13.1 then (osv (some b20) 0 x40.length m12) else zat none 0 0), (zac r13.2.1)]) (v := (bif r13.1 then (osv (some b20) 0 x40.length m12) else zat none 0 0)) rfl rfl zrr)) ?_
     refine zan (i := 13) rfl rfl (zar (zck (vs := [(bif r13.1 then (osv (some b20) 0 x40.length m12) else zat none 0 0), (zac r13.2.1)]) (v := (zac r13.2.1)) rfl rfl zrr)) ?_
     refine zan (i := 14) rfl rfl (zar (zaj (v := (bif r13.1 then (osv (some b20) 0 x40.length m12) else zat none 0 0)) rfl zrr)) ?_
     refine zan (i := 15) rfl rfl (zar (zaj (v := (zac r13.2.1)) rfl zrr)) ?_
     exact zcd
    refine RlF.fin ?_
    intro w105 V14 hE119
    obtain ⟨hL87, K74⟩ := zl hL85 hE119
    have hp32 := hL87.pick [6, 0] rfl rfl rfl
    have hL88 : vL w w105 [ob10, some b20] [zab ([] ++ (cs11 ++ sp11)), zab ([] ++ (cs46 ++ sp25))] := hp32.1
    have K75 := ks w hp32.2
    have f60 := ((hE116.mono (K74 None)).mono (K75 None))
    obtain rfl := zad h
    refine zap ?_
    exact ⟨r13.2.2.1, r13.1, r13.2.1, some b20, m12, sp25, cs46, x40.length, _, rfl, (zef ⟨rfl, rfl, rfl, trivial⟩), hL88, (zak (zak (zak (zak (zak (zak (zak (zak (zak (zak K59 K61) K62) K64) K65) K67) K68) K70) K72) K74) K75), f60, hl35, hc58, trivial⟩
   obtain rfl := List.mem_singleton.1 hq
   refine zdt rfl ?_
   intro w96 V11 hE107 hp28
   obtain ⟨hL76, K64⟩ := zl hL74 hE107
   refine zdl (r := rBool) (H := (vH w None [ob12, ob21, some b10, ob8, ob10] w96)) (zc := [zF]) (x := false) zcn ti4 rfl rfl rfl rfl q161 q162 q163 q164 hL76 ?_
   intro b21 w97 cs45 hE111 hc57 hL77 hS23
   have K65 := ks w hS23
   refine ⟨_, [], [], K65, (fun b hb => hL77.own.lt b hb), hL77.size, rfl, rfl, ?_⟩
   refine ⟨?_, ?_⟩
   ·
    intro w98 hE109
    obtain ⟨hL78, K66⟩ := zl hL77 hE109
    refine zan (i := 0) rfl rfl (zar (zav (v := (osv ob8 0 r6.1.length cap9)) zas rfl rfl (hL78.at 3 rfl rfl) rfl zrr)) ?_
    refine zan (i := 4) rfl rfl (zar (zav (v := (osv ob8 0 r6.1.length cap9)) zas rfl rfl (hL78.at 3 rfl rfl) rfl zrr)) ?_
    refine zan (i := 5) rfl rfl (zar (zcj (pre := []) (r := rTClass) (xs := l10) zas rfl (hL78.at 4 rfl rfl) ((((((((f52.mono (K56 None)).mono (K58 None)).mono (K59 None)).mono (K61 None)).mono (K62 None)).mono (K64 None)).mono (K65 None)).mono (K66 None)) rfl hl13 zrr)) ?_
    refine zan (i := 7) rfl rfl (zar (zav (v := (osv ob8 0 r6.1.length cap9)) zas rfl rfl (hL78.at 3 rfl rfl) rfl zrr)) ?_
    exact zcd
   refine zdm (m := 1) [6] rfl rfl (fun q hq => ?_)
   obtain rfl := List.mem_singleton.1 hq
   refine zdt rfl ?_
   intro w99 V12 hE110 hp29
   obtain ⟨hL79, K67⟩ := zl hL77 hE110
   refine zdl (r := rStr) (H := (vH w None [some b21, ob12, ob21, some b10, ob8, ob10] w99)) (zc := [(zaf ⟨#[]⟩)]) (x := []) zba ti9 rfl rfl rfl rfl q156 q157 q158 q159 hL79 ?_
   intro b20 w100 cs44 hE108 hc56 hL80 hS24
   have K68 := ks w hS24
   refine ⟨_, [], [], K68, (fun b hb => hL80.own.lt b hb), hL80.size, rfl, rfl, ?_⟩
   refine ⟨?_, ?_⟩
   ·
    intro w101 hE112
    obtain ⟨hL81, K69⟩ := zl hL80 hE112
    refine zan (i := 0) rfl rfl (zar (zav (v := (osv ob8 0 r6.1.length cap9)) zas rfl rfl (hL81.at 4 rfl rfl) rfl zrr)) ?_
    refine zan (i := 4) rfl rfl (zar (zav (v := (osv ob8 0 r6.1.length cap9)) zas rfl rfl (hL81.at 4 rfl rfl) rfl zrr)) ?_
    refine zan (i := 7) rfl rfl (zar (zav (v := (osv ob8 0 r6.1.length cap9)) zas rfl rfl (hL81.at 4 rfl rfl) rfl zrr)) ?_
    exact zcd
   refine zdm (m := 0) [10] rfl rfl (fun q hq => ?_)
   obtain rfl := List.mem_singleton.1 hq
   refine zdt rfl ?_
   intro w102 V13 hE113 hp30
   obtain ⟨hL82, K70⟩ := zl hL80 hE113
   obtain ⟨r13, q165, h⟩ := zee h
   have hL83 := hL82.lendW [0, 1] rfl rfl rfl
   have f56 := ((((((((((f52.mono (K56 None)).mono (K58 None)).mono (K59 None)).mono (K61 None)).mono (K62 None)).mono (K64 None)).mono (K65 None)).mono (K67 None)).mono (K68 None)).mono (K70 None))
   have f57 := ((((((hE105.mono (K62 None)).mono (K64 None)).mono (K65 None)).mono (K67 None)).mono (K68 None)).mono (K70 None))
   have f58 := ((hE108.mono (K68 None)).mono (K70 None))
   have f59 := ((((hE111.mono (K65 None)).mono (K67 None)).mono (K68 None)).mono (K70 None))
   refine zds en36 rfl rfl (tchoose_w N l10 x39 x40 x41 (osv ob8 0 r6.1.length cap9) (osv ob21 0 x39.length cap21) (some b20) m12 cs44 [] (some b21) m13 cs45 [] [some b20, some b21] _ Any hL83 (zet (pre := []) (o := 0) (n := r6.1.length) (cap := cap9) hL82 5 [0, 1] rfl rfl rfl rfl f56 (zcr [0, 1] rfl) rfl rfl hl13 hc18) (zet (pre := []) (o := 0) (n := x39.length) (cap := cap21) hL82 3 [0, 1] rfl rfl rfl rfl f57 (zcr [0, 1] rfl) rfl rfl rfl hc55) (f58.mono (zcr [0, 1] rfl)) hc56 (f59.mono (zcr [0, 1] rfl)) hc57 r13 q165) ?_
   rintro _ w103 ⟨cs46, sp25, cs47, sp26, rfl, hL84, K71, hl35, hE114, hc58, hl36, hE115, hc59, -⟩
   refine ⟨_, rfl, ?_⟩
   have hp31 := hL82.backW [0, 1] [2, 3, 4, 5, 6] rfl rfl rfl rfl hL84
   have hL85 : vL w w103 [some b20, some b21, ob12, ob21, some b10, ob8, ob10] [zab ([] ++ (cs46 ++ sp25)), zab ([] ++ (cs47 ++ sp26)), zab ([] ++ (cs41 ++ sp22)), zab ([] ++ (cs43 ++ sp24)), zab [(osv ob8 0 r6.1.length cap9)], zab ([] ++ (cs12 ++ sp10)), zab ([] ++ (cs11 ++ sp11))] := (by have h9 := hp31.1; (try rw [← hl35] at h9); (try rw [← hl36] at h9); exact h9)
   have K72 := ks w hp31.2
   have hE116 : Els rStr (vH w None [some b20, some b21, ob12, ob21, some b10, ob8, ob10] w103) cs46 r13.2.2.1 := zci (fun _ _ _ _ h => h) hE114
   have hE117 : Els rBool (vH w None [some b20, some b21, ob12, ob21, some b10, ob8, ob10] w103) cs47 r13.2.2.2 := zci (fun _ _ _ _ h => h) hE115
   refine ⟨_, [11, 12, 13, 14, 15], [(150, (Value.tuple #[(bif r13.1 then (osv (some b20) 0 x40.length m12) else zat none 0 0), (zac r13.2.1)])), (162, (bif r13.1 then (osv (some b20) 0 x40.length m12) else zat none 0 0)), (163, (zac r13.2.1)), (18, (bif r13.1 then (osv (some b20) 0 x40.length m12) else zat none 0 0)), (19, (zac r13.2.1))], K72, (fun b hb => hL85.own.lt b hb), hL85.size, rfl, rfl, ?_⟩
   refine ⟨?_, ?_⟩
   ·
    intro w104 hE118
    obtain ⟨hL86, K73⟩ := zl hL85 hE118
    refine zan (i := 4) rfl rfl (zar (zav (v := (osv ob8 0 r6.1.length cap9)) zas rfl rfl (hL86.at 4 rfl rfl) rfl zrr)) ?_
    refine zan (i := 7) rfl rfl (zar (zav (v := (osv ob8 0 r6.1.length cap9)) zas rfl rfl (hL86.at 4 rfl rfl) rfl zrr)) ?_
    refine zan (i := 11) rfl rfl (zar (zae (v := (Value.tuple #[(bif r13.1 then (osv (some b20) 0 x40.length m12) else zat none 0 0), (zac r13.2.1)])) rfl zrr)) ?_
    refine zan (i := 12) rfl rfl (zar (zck (vs := [(bif r13.1 then (osv (some b20) 0 x40.length m12) else zat none 0 0), (zac r13.2.1)]) (v := (bif r13.1 then (osv (some b20) 0 x40.length m12) else zat none 0 0)) rfl rfl zrr)) ?_
    refine zan (i := 13) rfl rfl (zar (zck (vs := [(bif r13.1 then (osv (some b20) 0 x40.length m12) else zat none 0 0), (zac r13.2.1)]) (v := (zac r13.2.1)) rfl rfl zrr)) ?_
    refine zan (i := 14) rfl rfl (zar (zaj (v := (bif r13.1 then (osv (some b20) 0 x40.length m12) else zat none 0 0)) rfl zrr)) ?_
    refine zan (i := 15) rfl rfl (zar (zaj (v := (zac r13.2.1)) rfl zrr)) ?_
    exact zcd
   refine RlF.fin ?_
   intro w105 V14 hE119
   obtain ⟨hL87, K74⟩ := zl hL85 hE119
   have hp32 := hL87.pick [6, 0] rfl rfl rfl
   have hL88 : vL w w105 [ob10, some b20] [zab ([] ++ (cs11 ++ sp11)), zab ([] ++ (cs46 ++ sp25))] := hp32.1
   have K75 := ks w hp32.2
   have f60 := ((hE116.mono (K74 None)).mono (K75 None))
   obtain rfl := zad h
   refine zap ?_
   exact ⟨r13.2.2.1, r13.1, r13.2.1, some b20, m12, sp25, cs46, x40.length, _, rfl, (zef ⟨rfl, rfl, rfl, trivial⟩), hL88, (zak (zak (zak (zak (zak (zak (zak (zak (zak (zak K59 K61) K62) K64) K65) K67) K68) K70) K72) K74) K75), f60, hl35, hc58, trivial⟩
  rcases List.mem_cons.1 hq with rfl | hq
  ·
   refine zdt rfl ?_
   intro w93 V10 hE104 hp27
   obtain ⟨hL73, K61⟩ := zl hL71 hE104
   refine zdl (r := rStr) (H := (vH w None [ob12, ob17, some b10, ob8, ob10] w93)) (zc := [(zaf ⟨#[]⟩)]) (x := []) zba ti9 rfl rfl rfl rfl q156 q157 q158 q159 hL73 ?_
   intro b20 w106 cs44 hE108 hc56 hL89 hS25
   have K76 := ks w hS25
   refine ⟨_, [], [], K76, (fun b hb => hL89.own.lt b hb), hL89.size, rfl, rfl, ?_⟩
   refine ⟨?_, ?_⟩
   ·
    intro w107 hE120
    obtain ⟨hL90, K77⟩ := zl hL89 hE120
    refine zan (i := 0) rfl rfl (zar (zav (v := (osv ob8 0 r6.1.length cap9)) zas rfl rfl (hL90.at 3 rfl rfl) rfl zrr)) ?_
    refine zan (i := 1) rfl rfl (zar (zae (v := (osv ob17 0 hard10.length cap17)) rfl zrr)) ?_
    refine zan (i := 2) rfl rfl (zar (zae (v := (osv ob12 0 last10.length cap12)) rfl zrr)) ?_
    refine zan (i := 4) rfl rfl (zar (zav (v := (osv ob8 0 r6.1.length cap9)) zas rfl rfl (hL90.at 3 rfl rfl) rfl zrr)) ?_
    refine zan (i := 7) rfl rfl (zar (zav (v := (osv ob8 0 r6.1.length cap9)) zas rfl rfl (hL90.at 3 rfl rfl) rfl zrr)) ?_
    refine zan (i := 8) rfl rfl (zar (zcj (pre := []) (r := rTClass) (xs := l10) zas rfl (hL90.at 4 rfl rfl) ((((((f52.mono (K56 None)).mono (K58 None)).mono (K59 None)).mono (K61 None)).mono (K76 None)).mono (K77 None)) rfl hl13 zrr)) ?_
    exact zcd
   refine zdm (m := 2) [3, 9] rfl rfl (fun q hq => ?_)
   rcases List.mem_cons.1 hq with rfl | hq
   ·
    refine zdt rfl ?_
    intro w108 V15 hE121 hp33
    obtain ⟨hL91, K78⟩ := zl hL89 hE121
    have f61 := ((((hE101.mono (K59 None)).mono (K61 None)).mono (K76 None)).mono (K78 None))
    have f62 := (((((hE99.mono (K58 None)).mono (K59 None)).mono (K61 None)).mono (K76 None)).mono (K78 None))
    refine zcx (r := rI) (H := (vH w None [some b20, ob12, ob17, some b10, ob8, ob10] w108)) (cs := cs40) (sp := sp21) (xs := r11) (ys := r12) (Y := x39) (n := hard10.length) (cap := cap17) (i := 2) zao ti3 rfl rfl rfl rfl hL91 rfl rfl f62 hl33 hc53 (zdw (pre := []) (o := 0) (n := last10.length) (cap := cap12) (hL91.at 1 rfl rfl) f61 rfl rfl hl34) (zci (fun _ _ _ _ h => h) f61) q152 q153 q154 ?_
    intro ob21 cap21 sp24 cs43 w97 hE105 hc55 (hL77 : vL w w97 [some b20, ob12, ob21, some b10, ob8, ob10] [zab ([] ++ (cs44 ++ [])), zab ([] ++ (cs41 ++ sp22)), zab ([] ++ (cs43 ++ sp24)), zab [(osv ob8 0 r6.1.length cap9)], zab ([] ++ (cs12 ++ sp10)), zab ([] ++ (cs11 ++ sp11))]) hS23
    have K65 := ks w hS23
    refine ⟨_, [], [], K65, (fun b hb => hL77.own.lt b hb), hL77.size, rfl, rfl, ?_⟩
    refine ⟨?_, ?_⟩
    ·
     intro w98 hE109
     obtain ⟨hL78, K66⟩ := zl hL77 hE109
     refine zan (i := 0) rfl rfl (zar (zav (v := (osv ob8 0 r6.1.length cap9)) zas rfl rfl (hL78.at 3 rfl rfl) rfl zrr)) ?_
     refine zan (i := 4) rfl rfl (zar (zav (v := (osv ob8 0 r6.1.length cap9)) zas rfl rfl (hL78.at 3 rfl rfl) rfl zrr)) ?_
     refine zan (i := 7) rfl rfl (zar (zav (v := (osv ob8 0 r6.1.length cap9)) zas rfl rfl (hL78.at 3 rfl rfl) rfl zrr)) ?_
     refine zan (i := 8) rfl rfl (zar (zcj (pre := []) (r := rTClass) (xs := l10) zas rfl (hL78.at 4 rfl rfl) ((((((((f52.mono (K56 None)).mono (K58 None)).mono (K59 None)).mono (K61 None)).mono (K76 None)).mono (K78 None)).mono (K65 None)).mono (K66 None)) rfl hl13 zrr)) ?_
     exact zcd
    refine zdm (m := 1) [9] rfl rfl (fun q hq => ?_)
    obtain rfl := List.mem_singleton.1 hq
    refine zdt rfl ?_
    intro w99 V12 hE110 hp29
    obtain ⟨hL79, K67⟩ := zl hL77 hE110
    refine zdl (r := rBool) (H := (vH w None [some b20, ob12, ob21, some b10, ob8, ob10] w99)) (zc := [zF]) (x := false) zcn ti4 rfl rfl rfl rfl q161 q162 q163 q164 hL79 ?_
    intro b21 w100 cs45 hE111 hc57 hL80 hS24
    have K68 := ks w hS24
    refine ⟨_, [], [], K68, (fun b hb => hL80.own.lt b hb), hL80.size, rfl, rfl, ?_⟩
    refine ⟨?_, ?_⟩
    ·
     intro w101 hE112
     obtain ⟨hL81, K69⟩ := zl hL80 hE112
     refine zan (i := 0) rfl rfl (zar (zav (v := (osv ob8 0 r6.1.length cap9)) zas rfl rfl (hL81.at 4 rfl rfl) rfl zrr)) ?_
     refine zan (i := 4) rfl rfl (zar (zav (v := (osv ob8 0 r6.1.length cap9)) zas rfl rfl (hL81.at 4 rfl rfl) rfl zrr)) ?_
     refine zan (i := 7) rfl rfl (zar (zav (v := (osv ob8 0 r6.1.length cap9)) zas rfl rfl (hL81.at 4 rfl rfl) rfl zrr)) ?_
     exact zcd
    refine zdm (m := 0) [10] rfl rfl (fun q hq => ?_)
    obtain rfl := List.mem_singleton.1 hq
    refine zdt rfl ?_
    intro w102 V13 hE113 hp30
    obtain ⟨hL82, K70⟩ := zl hL80 hE113
    obtain ⟨r13, q165, h⟩ := zee h
    have hL83 := hL82.lendW [1, 0] rfl rfl rfl
    have f56 := ((((((((((f52.mono (K56 None)).mono (K58 None)).mono (K59 None)).mono (K61 None)).mono (K76 None)).mono (K78 None)).mono (K65 None)).mono (K67 None)).mono (K68 None)).mono (K70 None))
    have f57 := ((((hE105.mono (K65 None)).mono (K67 None)).mono (K68 None)).mono (K70 None))
    have f58 := ((((((hE108.mono (K76 None)).mono (K78 None)).mono (K65 None)).mono (K67 None)).mono (K68 None)).mono (K70 None))
    have f59 := ((hE111.mono (K68 None)).mono (K70 None))
    refine zds en36 rfl rfl (tchoose_w N l10 x39 x40 x41 (osv ob8 0 r6.1.length cap9) (osv ob21 0 x39.length cap21) (some b20) m12 cs44 [] (some b21) m13 cs45 [] [some b20, some b21] _ Any hL83 (zet (pre := []) (o := 0) (n := r6.1.length) (cap := cap9) hL82 5 [1, 0] rfl rfl rfl rfl f56 (zcr [1, 0] rfl) rfl rfl hl13 hc18) (zet (pre := []) (o := 0) (n := x39.length) (cap := cap21) hL82 3 [1, 0] rfl rfl rfl rfl f57 (zcr [1, 0] rfl) rfl rfl rfl hc55) (f58.mono (zcr [1, 0] rfl)) hc56 (f59.mono (zcr [1, 0] rfl)) hc57 r13 q165) ?_
    rintro _ w103 ⟨cs46, sp25, cs47, sp26, rfl, hL84, K71, hl35, hE114, hc58, hl36, hE115, hc59, -⟩
    refine ⟨_, rfl, ?_⟩
    have hp31 := hL82.backW [1, 0] [2, 3, 4, 5, 6] rfl rfl rfl rfl hL84
    have hL85 : vL w w103 [some b20, some b21, ob12, ob21, some b10, ob8, ob10] [zab ([] ++ (cs46 ++ sp25)), zab ([] ++ (cs47 ++ sp26)), zab ([] ++ (cs41 ++ sp22)), zab ([] ++ (cs43 ++ sp24)), zab [(osv ob8 0 r6.1.length cap9)], zab ([] ++ (cs12 ++ sp10)), zab ([] ++ (cs11 ++ sp11))] := (by have h9 := hp31.1; (try rw [← hl35] at h9); (try rw [← hl36] at h9); exact h9)
    have K72 := ks w hp31.2
    have hE116 : Els rStr (vH w None [some b20, some b21, ob12, ob21, some b10, ob8, ob10] w103) cs46 r13.2.2.1 := zci (fun _ _ _ _ h => h) hE114
    have hE117 : Els rBool (vH w None [some b20, some b21, ob12, ob21, some b10, ob8, ob10] w103) cs47 r13.2.2.2 := zci (fun _ _ _ _ h => h) hE115
    refine ⟨_, [11, 12, 13, 14, 15], [(150, (Value.tuple #[(bif r13.1 then (osv (some b20) 0 x40.length m12) else zat none 0 0), (zac r13.2.1)])), (162, (bif r13.1 then (osv (some b20) 0 x40.length m12) else zat none 0 0)), (163, (zac r13.2.1)), (18, (bif r13.1 then (osv (some b20) 0 x40.length m12) else zat none 0 0)), (19, (zac r13.2.1))], K72, (fun b hb => hL85.own.lt b hb), hL85.size, rfl, rfl, ?_⟩
    refine ⟨?_, ?_⟩
    ·
     intro w104 hE118
     obtain ⟨hL86, K73⟩ := zl hL85 hE118
     refine zan (i := 4) rfl rfl (zar (zav (v := (osv ob8 0 r6.1.length cap9)) zas rfl rfl (hL86.at 4 rfl rfl) rfl zrr)) ?_
     refine zan (i := 7) rfl rfl (zar (zav (v := (osv ob8 0 r6.1.length cap9)) zas rfl rfl (hL86.at 4 rfl rfl) rfl zrr)) ?_
     refine zan (i := 11) rfl rfl (zar (zae (v := (Value.tuple #[(bif r13.1 then (osv (some b20) 0 x40.length m12) else zat none 0 0), (zac r13.2.1)])) rfl zrr)) ?_
     refine zan (i := 12) rfl rfl (zar (zck (vs := [(bif r13.1 then (osv (some b20) 0 x40.length m12) else zat none 0 0), (zac r13.2.1)]) (v := (bif r13.1 then (osv (some b20) 0 x40.length m12) else zat none 0 0)) rfl rfl zrr)) ?_
     refine zan (i := 13) rfl rfl (zar (zck (vs := [(bif r13.1 then (osv (some b20) 0 x40.length m12) else zat none 0 0), (zac r13.2.1)]) (v := (zac r13.2.1)) rfl rfl zrr)) ?_
     refine zan (i := 14) rfl rfl (zar (zaj (v := (bif r13.1 then (osv (some b20) 0 x40.length m12) else zat none 0 0)) rfl zrr)) ?_
     refine zan (i := 15) rfl rfl (zar (zaj (v := (zac r13.2.1)) rfl zrr)) ?_
     exact zcd
    refine RlF.fin ?_
    intro w105 V14 hE119
    obtain ⟨hL87, K74⟩ := zl hL85 hE119
    have hp32 := hL87.pick [6, 0] rfl rfl rfl
    have hL88 : vL w w105 [ob10, some b20] [zab ([] ++ (cs11 ++ sp11)), zab ([] ++ (cs46 ++ sp25))] := hp32.1
    have K75 := ks w hp32.2
    have f60 := ((hE116.mono (K74 None)).mono (K75 None))
    obtain rfl := zad h
    refine zap ?_
    exact ⟨r13.2.2.1, r13.1, r13.2.1, some b20, m12, sp25, cs46, x40.length, _, rfl, (zef ⟨rfl, rfl, rfl, trivial⟩), hL88, (zak (zak (zak (zak (zak (zak (zak (zak (zak (zak K59 K61) K76) K78) K65) K67) K68) K70) K72) K74) K75), f60, hl35, hc58, trivial⟩
   obtain rfl := List.mem_singleton.1 hq
   refine zdt rfl ?_
   intro w108 V15 hE121 hp33
   obtain ⟨hL91, K78⟩ := zl hL89 hE121
   refine zdl (r := rBool) (H := (vH w None [some b20, ob12, ob17, some b10, ob8, ob10] w108)) (zc := [zF]) (x := false) zcn ti4 rfl rfl rfl rfl q161 q162 q163 q164 hL91 ?_
   intro b21 w109 cs45 hE111 hc57 hL92 hS26
   have K79 := ks w hS26
   refine ⟨_, [], [], K79, (fun b hb => hL92.own.lt b hb), hL92.size, rfl, rfl, ?_⟩
   refine ⟨?_, ?_⟩
   ·
    intro w110 hE122
    obtain ⟨hL93, K80⟩ := zl hL92 hE122
    refine zan (i := 0) rfl rfl (zar (zav (v := (osv ob8 0 r6.1.length cap9)) zas rfl rfl (hL93.at 4 rfl rfl) rfl zrr)) ?_
    refine zan (i := 1) rfl rfl (zar (zae (v := (osv ob17 0 hard10.length cap17)) rfl zrr)) ?_
    refine zan (i := 2) rfl rfl (zar (zae (v := (osv ob12 0 last10.length cap12)) rfl zrr)) ?_
    refine zan (i := 4) rfl rfl (zar (zav (v := (osv ob8 0 r6.1.length cap9)) zas rfl rfl (hL93.at 4 rfl rfl) rfl zrr)) ?_
    refine zan (i := 7) rfl rfl (zar (zav (v := (osv ob8 0 r6.1.length cap9)) zas rfl rfl (hL93.at 4 rfl rfl) rfl zrr)) ?_
    exact zcd
   refine zdm (m := 1) [3] rfl rfl (fun q hq => ?_)
   obtain rfl := List.mem_singleton.1 hq
   refine zdt rfl ?_
   intro w111 V16 hE123 hp34
   obtain ⟨hL94, K81⟩ := zl hL92 hE123
   have f63 := ((((((hE101.mono (K59 None)).mono (K61 None)).mono (K76 None)).mono (K78 None)).mono (K79 None)).mono (K81 None))
   have f64 := (((((((hE99.mono (K58 None)).mono (K59 None)).mono (K61 None)).mono (K76 None)).mono (K78 None)).mono (K79 None)).mono (K81 None))
   refine zcx (r := rI) (H := (vH w None [some b21, some b20, ob12, ob17, some b10, ob8, ob10] w111)) (cs := cs40) (sp := sp21) (xs := r11) (ys := r12) (Y := x39) (n := hard10.length) (cap := cap17) (i := 3) zao ti3 rfl rfl rfl rfl hL94 rfl rfl f64 hl33 hc53 (zdw (pre := []) (o := 0) (n := last10.length) (cap := cap12) (hL94.at 2 rfl rfl) f63 rfl rfl hl34) (zci (fun _ _ _ _ h => h) f63) q152 q153 q154 ?_
   intro ob21 cap21 sp24 cs43 w100 hE105 hc55 (hL80 : vL w w100 [some b21, some b20, ob12, ob21, some b10, ob8, ob10] [zab ([] ++ (cs45 ++ [])), zab ([] ++ (cs44 ++ [])), zab ([] ++ (cs41 ++ sp22)), zab ([] ++ (cs43 ++ sp24)), zab [(osv ob8 0 r6.1.length cap9)], zab ([] ++ (cs12 ++ sp10)), zab ([] ++ (cs11 ++ sp11))]) hS24
   have K68 := ks w hS24
   refine ⟨_, [], [], K68, (fun b hb => hL80.own.lt b hb), hL80.size, rfl, rfl, ?_⟩
   refine ⟨?_, ?_⟩
   ·
    intro w101 hE112
    obtain ⟨hL81, K69⟩ := zl hL80 hE112
    refine zan (i := 0) rfl rfl (zar (zav (v := (osv ob8 0 r6.1.length cap9)) zas rfl rfl (hL81.at 4 rfl rfl) rfl zrr)) ?_
    refine zan (i := 4) rfl rfl (zar (zav (v := (osv ob8 0 r6.1.length cap9)) zas rfl rfl (hL81.at 4 rfl rfl) rfl zrr)) ?_
    refine zan (i := 7) rfl rfl (zar (zav (v := (osv ob8 0 r6.1.length cap9)) zas rfl rfl (hL81.at 4 rfl rfl) rfl zrr)) ?_
    exact zcd
   refine zdm (m := 0) [10] rfl rfl (fun q hq => ?_)
   obtain rfl := List.mem_singleton.1 hq
   refine zdt rfl ?_
   intro w102 V13 hE113 hp30
   obtain ⟨hL82, K70⟩ := zl hL80 hE113
   obtain ⟨r13, q165, h⟩ := zee h
   have hL83 := hL82.lendW [1, 0] rfl rfl rfl
   have f56 := ((((((((((f52.mono (K56 None)).mono (K58 None)).mono (K59 None)).mono (K61 None)).mono (K76 None)).mono (K78 None)).mono (K79 None)).mono (K81 None)).mono (K68 None)).mono (K70 None))
   have f57 := ((hE105.mono (K68 None)).mono (K70 None))
   have f58 := ((((((hE108.mono (K76 None)).mono (K78 None)).mono (K79 None)).mono (K81 None)).mono (K68 None)).mono (K70 None))
   have f59 := ((((hE111.mono (K79 None)).mono (K81 None)).mono (K68 None)).mono (K70 None))
   refine zds en36 rfl rfl (tchoose_w N l10 x39 x40 x41 (osv ob8 0 r6.1.length cap9) (osv ob21 0 x39.length cap21) (some b20) m12 cs44 [] (some b21) m13 cs45 [] [some b20, some b21] _ Any hL83 (zet (pre := []) (o := 0) (n := r6.1.length) (cap := cap9) hL82 5 [1, 0] rfl rfl rfl rfl f56 (zcr [1, 0] rfl) rfl rfl hl13 hc18) (zet (pre := []) (o := 0) (n := x39.length) (cap := cap21) hL82 3 [1, 0] rfl rfl rfl rfl f57 (zcr [1, 0] rfl) rfl rfl rfl hc55) (f58.mono (zcr [1, 0] rfl)) hc56 (f59.mono (zcr [1, 0] rfl)) hc57 r13 q165) ?_
   rintro _ w103 ⟨cs46, sp25, cs47, sp26, rfl, hL84, K71, hl35, hE114, hc58, hl36, hE115, hc59, -⟩
   refine ⟨_, rfl, ?_⟩
   have hp31 := hL82.backW [1, 0] [2, 3, 4, 5, 6] rfl rfl rfl rfl hL84
   have hL85 : vL w w103 [some b20, some b21, ob12, ob21, some b10, ob8, ob10] [zab ([] ++ (cs46 ++ sp25)), zab ([] ++ (cs47 ++ sp26)), zab ([] ++ (cs41 ++ sp22)), zab ([] ++ (cs43 ++ sp24)), zab [(osv ob8 0 r6.1.length cap9)], zab ([] ++ (cs12 ++ sp10)), zab ([] ++ (cs11 ++ sp11))] := (by have h9 := hp31.1; (try rw [← hl35] at h9); (try rw [← hl36] at h9); exact h9)
   have K72 := ks w hp31.2
   have hE116 : Els rStr (vH w None [some b20, some b21, ob12, ob21, some b10, ob8, ob10] w103) cs46 r13.2.2.1 := zci (fun _ _ _ _ h => h) hE114
   have hE117 : Els rBool (vH w None [some b20, some b21, ob12, ob21, some b10, ob8, ob10] w103) cs47 r13.2.2.2 := zci (fun _ _ _ _ h => h) hE115
   refine ⟨_, [11, 12, 13, 14, 15], [(150, (Value.tuple #[(bif r13.1 then (osv (some b20) 0 x40.length m12) else zat none 0 0), (zac r13.2.1)])), (162, (bif r13.1 then (osv (some b20) 0 x40.length m12) else zat none 0 0)), (163, (zac r13.2.1)), (18, (bif r13.1 then (osv (some b20) 0 x40.length m12) else zat none 0 0)), (19, (zac r13.2.1))], K72, (fun b hb => hL85.own.lt b hb), hL85.size, rfl, rfl, ?_⟩
   refine ⟨?_, ?_⟩
   ·
    intro w104 hE118
    obtain ⟨hL86, K73⟩ := zl hL85 hE118
    refine zan (i := 4) rfl rfl (zar (zav (v := (osv ob8 0 r6.1.length cap9)) zas rfl rfl (hL86.at 4 rfl rfl) rfl zrr)) ?_
    refine zan (i := 7) rfl rfl (zar (zav (v := (osv ob8 0 r6.1.length cap9)) zas rfl rfl (hL86.at 4 rfl rfl) rfl zrr)) ?_
    refine zan (i := 11) rfl rfl (zar (zae (v := (Value.tuple #[(bif r13.1 then (osv (some b20) 0 x40.length m12) else zat none 0 0), (zac r13.2.1)])) rfl zrr)) ?_
    refine zan (i := 12) rfl rfl (zar (zck (vs := [(bif r13.1 then (osv (some b20) 0 x40.length m12) else zat none 0 0), (zac r13.2.1)]) (v := (bif r13.1 then (osv (some b20) 0 x40.length m12) else zat none 0 0)) rfl rfl zrr)) ?_
    refine zan (i := 13) rfl rfl (zar (zck (vs := [(bif r13.1 then (osv (some b20) 0 x40.length m12) else zat none 0 0), (zac r13.2.1)]) (v := (zac r13.2.1)) rfl rfl zrr)) ?_
    refine zan (i := 14) rfl rfl (zar (zaj (v := (bif r13.1 then (osv (some b20) 0 x40.length m12) else zat none 0 0)) rfl zrr)) ?_
    refine zan (i := 15) rfl rfl (zar (zaj (v := (zac r13.2.1)) rfl zrr)) ?_
    exact zcd
   refine RlF.fin ?_
   intro w105 V14 hE119
   obtain ⟨hL87, K74⟩ := zl hL85 hE119
   have hp32 := hL87.pick [6, 0] rfl rfl rfl
   have hL88 : vL w w105 [ob10, some b20] [zab ([] ++ (cs11 ++ sp11)), zab ([] ++ (cs46 ++ sp25))] := hp32.1
   have K75 := ks w hp32.2
   have f60 := ((hE116.mono (K74 None)).mono (K75 None))
   obtain rfl := zad h
   refine zap ?_
   exact ⟨r13.2.2.1, r13.1, r13.2.1, some b20, m12, sp25, cs46, x40.length, _, rfl, (zef ⟨rfl, rfl, rfl, trivial⟩), hL88, (zak (zak (zak (zak (zak (zak (zak (zak (zak (zak K59 K61) K76) K78) K79) K81) K68) K70) K72) K74) K75), f60, hl35, hc58, trivial⟩
  obtain rfl := List.mem_singleton.1 hq
  refine zdt rfl ?_
  intro w93 V10 hE104 hp27
  obtain ⟨hL73, K61⟩ := zl hL71 hE104
  refine zdl (r := rBool) (H := (vH w None [ob12, ob17, some b10, ob8, ob10] w93)) (zc := [zF]) (x := false) zcn ti4 rfl rfl rfl rfl q161 q162 q163 q164 hL73 ?_
  intro b21 w106 cs45 hE111 hc57 hL89 hS25
  have K76 := ks w hS25
  refine ⟨_, [], [], K76, (fun b hb => hL89.own.lt b hb), hL89.size, rfl, rfl, ?_⟩
  refine ⟨?_, ?_⟩
  ·
   intro w107 hE120
   obtain ⟨hL90, K77⟩ := zl hL89 hE120
   refine zan (i := 0) rfl rfl (zar (zav (v := (osv ob8 0 r6.1.length cap9)) zas rfl rfl (hL90.at 3 rfl rfl) rfl zrr)) ?_
   refine zan (i := 1) rfl rfl (zar (zae (v := (osv ob17 0 hard10.length cap17)) rfl zrr)) ?_
   refine zan (i := 2) rfl rfl (zar (zae (v := (osv ob12 0 last10.length cap12)) rfl zrr)) ?_
   refine zan (i := 4) rfl rfl (zar (zav (v := (osv ob8 0 r6.1.length cap9)) zas rfl rfl (hL90.at 3 rfl rfl) rfl zrr)) ?_
   refine zan (i := 5) rfl rfl (zar (zcj (pre := []) (r := rTClass) (xs := l10) zas rfl (hL90.at 4 rfl rfl) ((((((f52.mono (K56 None)).mono (K58 None)).mono (K59 None)).mono (K61 None)).mono (K76 None)).mono (K77 None)) rfl hl13 zrr)) ?_
   refine zan (i := 7) rfl rfl (zar (zav (v := (osv ob8 0 r6.1.length cap9)) zas rfl rfl (hL90.at 3 rfl rfl) rfl zrr)) ?_
   exact zcd
  refine zdm (m := 2) [3, 6] rfl rfl (fun q hq => ?_)
  rcases List.mem_cons.1 hq with rfl | hq
  ·
   refine zdt rfl ?_
   intro w108 V15 hE121 hp33
   obtain ⟨hL91, K78⟩ := zl hL89 hE121
   have f61 := ((((hE101.mono (K59 None)).mono (K61 None)).mono (K76 None)).mono (K78 None))
   have f62 := (((((hE99.mono (K58 None)).mono (K59 None)).mono (K61 None)).mono (K76 None)).mono (K78 None))
   refine zcx (r := rI) (H := (vH w None [some b21, ob12, ob17, some b10, ob8, ob10] w108)) (cs := cs40) (sp := sp21) (xs := r11) (ys := r12) (Y := x39) (n := hard10.length) (cap := cap17) (i := 2) zao ti3 rfl rfl rfl rfl hL91 rfl rfl f62 hl33 hc53 (zdw (pre := []) (o := 0) (n := last10.length) (cap := cap12) (hL91.at 1 rfl rfl) f61 rfl rfl hl34) (zci (fun _ _ _ _ h => h) f61) q152 q153 q154 ?_
   intro ob21 cap21 sp24 cs43 w97 hE105 hc55 (hL77 : vL w w97 [some b21, ob12, ob21, some b10, ob8, ob10] [zab ([] ++ (cs45 ++ [])), zab ([] ++ (cs41 ++ sp22)), zab ([] ++ (cs43 ++ sp24)), zab [(osv ob8 0 r6.1.length cap9)], zab ([] ++ (cs12 ++ sp10)), zab ([] ++ (cs11 ++ sp11))]) hS23
   have K65 := ks w hS23
   refine ⟨_, [], [], K65, (fun b hb => hL77.own.lt b hb), hL77.size, rfl, rfl, ?_⟩
   refine ⟨?_, ?_⟩
   ·
    intro w98 hE109
    obtain ⟨hL78, K66⟩ := zl hL77 hE109
    refine zan (i := 0) rfl rfl (zar (zav (v := (osv ob8 0 r6.1.length cap9)) zas rfl rfl (hL78.at 3 rfl rfl) rfl zrr)) ?_
    refine zan (i := 4) rfl rfl (zar (zav (v := (osv ob8 0 r6.1.length cap9)) zas rfl rfl (hL78.at 3 rfl rfl) rfl zrr)) ?_
    refine zan (i := 5) rfl rfl (zar (zcj (pre := []) (r := rTClass) (xs := l10) zas rfl (hL78.at 4 rfl rfl) ((((((((f52.mono (K56 None)).mono (K58 None)).mono (K59 None)).mono (K61 None)).mono (K76 None)).mono (K78 None)).mono (K65 None)).mono (K66 None)) rfl hl13 zrr)) ?_
    refine zan (i := 7) rfl rfl (zar (zav (v := (osv ob8 0 r6.1.length cap9)) zas rfl rfl (hL78.at 3 rfl rfl) rfl zrr)) ?_
    exact zcd
   refine zdm (m := 1) [6] rfl rfl (fun q hq => ?_)
   obtain rfl := List.mem_singleton.1 hq
   refine zdt rfl ?_
   intro w99 V12 hE110 hp29
   obtain ⟨hL79, K67⟩ := zl hL77 hE110
   refine zdl (r := rStr) (H := (vH w None [some b21, ob12, ob21, some b10, ob8, ob10] w99)) (zc := [(zaf ⟨#[]⟩)]) (x := []) zba ti9 rfl rfl rfl rfl q156 q157 q158 q159 hL79 ?_
   intro b20 w100 cs44 hE108 hc56 hL80 hS24
   have K68 := ks w hS24
   refine ⟨_, [], [], K68, (fun b hb => hL80.own.lt b hb), hL80.size, rfl, rfl, ?_⟩
   refine ⟨?_, ?_⟩
   ·
    intro w101 hE112
    obtain ⟨hL81, K69⟩ := zl hL80 hE112
    refine zan (i := 0) rfl rfl (zar (zav (v := (osv ob8 0 r6.1.length cap9)) zas rfl rfl (hL81.at 4 rfl rfl) rfl zrr)) ?_
    refine zan (i := 4) rfl rfl (zar (zav (v := (osv ob8 0 r6.1.length cap9)) zas rfl rfl (hL81.at 4 rfl rfl) rfl zrr)) ?_
    refine zan (i := 7) rfl rfl (zar (zav (v := (osv ob8 0 r6.1.length cap9)) zas rfl rfl (hL81.at 4 rfl rfl) rfl zrr)) ?_
    exact zcd
   refine zdm (m := 0) [10] rfl rfl (fun q hq => ?_)
   obtain rfl := List.mem_singleton.1 hq
   refine zdt rfl ?_
   intro w102 V13 hE113 hp30
   obtain ⟨hL82, K70⟩ := zl hL80 hE113
   obtain ⟨r13, q165, h⟩ := zee h
   have hL83 := hL82.lendW [0, 1] rfl rfl rfl
   have f56 := ((((((((((f52.mono (K56 None)).mono (K58 None)).mono (K59 None)).mono (K61 None)).mono (K76 None)).mono (K78 None)).mono (K65 None)).mono (K67 None)).mono (K68 None)).mono (K70 None))
   have f57 := ((((hE105.mono (K65 None)).mono (K67 None)).mono (K68 None)).mono (K70 None))
   have f58 := ((hE108.mono (K68 None)).mono (K70 None))
   have f59 := ((((((hE111.mono (K76 None)).mono (K78 None)).mono (K65 None)).mono (K67 None)).mono (K68 None)).mono (K70 None))
   refine zds en36 rfl rfl (tchoose_w N l10 x39 x40 x41 (osv ob8 0 r6.1.length cap9) (osv ob21 0 x39.length cap21) (some b20) m12 cs44 [] (some b21) m13 cs45 [] [some b20, some b21] _ Any hL83 (zet (pre := []) (o := 0) (n := r6.1.length) (cap := cap9) hL82 5 [0, 1] rfl rfl rfl rfl f56 (zcr [0, 1] rfl) rfl rfl hl13 hc18) (zet (pre := []) (o := 0) (n := x39.length) (cap := cap21) hL82 3 [0, 1] rfl rfl rfl rfl f57 (zcr [0, 1] rfl) rfl rfl rfl hc55) (f58.mono (zcr [0, 1] rfl)) hc56 (f59.mono (zcr [0, 1] rfl)) hc57 r13 q165) ?_
   rintro _ w103 ⟨cs46, sp25, cs47, sp26, rfl, hL84, K71, hl35, hE114, hc58, hl36, hE115, hc59, -⟩
   refine ⟨_, rfl, ?_⟩
   have hp31 := hL82.backW [0, 1] [2, 3, 4, 5, 6] rfl rfl rfl rfl hL84
   have hL85 : vL w w103 [some b20, some b21, ob12, ob21, some b10, ob8, ob10] [zab ([] ++ (cs46 ++ sp25)), zab ([] ++ (cs47 ++ sp26)), zab ([] ++ (cs41 ++ sp22)), zab ([] ++ (cs43 ++ sp24)), zab [(osv ob8 0 r6.1.length cap9)], zab ([] ++ (cs12 ++ sp10)), zab ([] ++ (cs11 ++ sp11))] := (by have h9 := hp31.1; (try rw [← hl35] at h9); (try rw [← hl36] at h9); exact h9)
   have K72 := ks w hp31.2
   have hE116 : Els rStr (vH w None [some b20, some b21, ob12, ob21, some b10, ob8, ob10] w103) cs46 r13.2.2.1 := zci (fun _ _ _ _ h => h) hE114
   have hE117 : Els rBool (vH w None [some b20, some b21, ob12, ob21, some b10, ob8, ob10] w103) cs47 r13.2.2.2 := zci (fun _ _ _ _ h => h) hE115
   refine ⟨_, [11, 12, 13, 14, 15], [(150, (Value.tuple #[(bif r13.1 then (osv (some b20) 0 x40.length m12) else zat none 0 0), (zac r13.2.1)])), (162, (bif r13.1 then (osv (some b20) 0 x40.length m12) else zat none 0 0)), (163, (zac r13.2.1)), (18, (bif r13.1 then (osv (some b20) 0 x40.length m12) else zat none 0 0)), (19, (zac r13.2.1))], K72, (fun b hb => hL85.own.lt b hb), hL85.size, rfl, rfl, ?_⟩
   refine ⟨?_, ?_⟩
   ·
    intro w104 hE118
    obtain ⟨hL86, K73⟩ := zl hL85 hE118
    refine zan (i := 4) rfl rfl (zar (zav (v := (osv ob8 0 r6.1.length cap9)) zas rfl rfl (hL86.at 4 rfl rfl) rfl zrr)) ?_
    refine zan (i := 7) rfl rfl (zar (zav (v := (osv ob8 0 r6.1.length cap9)) zas rfl rfl (hL86.at 4 rfl rfl) rfl zrr)) ?_
    refine zan (i := 11) rfl rfl (zar (zae (v := (Value.tuple #[(bif r13.1 then (osv (some b20) 0 x40.length m12) else zat none 0 0), (zac r13.2.1)])) rfl zrr)) ?_
    refine zan (i := 12) rfl rfl (zar (zck (vs := [(bif r13.1 then (osv (some b20) 0 x40.length m12) else zat none 0 0), (zac r13.2.1)]) (v := (bif r13.1 then (osv (some b20) 0 x40.length m12) else zat none 0 0)) rfl rfl zrr)) ?_
    refine zan (i := 13) rfl rfl (zar (zck (vs := [(bif r13.1 then (osv (some b20) 0 x40.length m12) else zat none 0 0), (zac r13.2.1)]) (v := (zac r13.2.1)) rfl rfl zrr)) ?_
    refine zan (i := 14) rfl rfl (zar (zaj (v := (bif r13.1 then (osv (some b20) 0 x40.length m12) else zat none 0 0)) rfl zrr)) ?_
    refine zan (i := 15) rfl rfl (zar (zaj (v := (zac r13.2.1)) rfl zrr)) ?_
    exact zcd
   refine RlF.fin ?_
   intro w105 V14 hE119
   obtain ⟨hL87, K74⟩ := zl hL85 hE119
   have hp32 := hL87.pick [6, 0] rfl rfl rfl
   have hL88 : vL w w105 [ob10, some b20] [zab ([] ++ (cs11 ++ sp11)), zab ([] ++ (cs46 ++ sp25))] := hp32.1
   have K75 := ks w hp32.2
   have f60 := ((hE116.mono (K74 None)).mono (K75 None))
   obtain rfl := zad h
   refine zap ?_
   exact ⟨r13.2.2.1, r13.1, r13.2.1, some b20, m12, sp25, cs46, x40.length, _, rfl, (zef ⟨rfl, rfl, rfl, trivial⟩), hL88, (zak (zak (zak (zak (zak (zak (zak (zak (zak (zak K59 K61) K76) K78) K65) K67) K68) K70) K72) K74) K75), f60, hl35, hc58, trivial⟩
  obtain rfl := List.mem_singleton.1 hq
  refine zdt rfl ?_
  intro w108 V15 hE121 hp33
  obtain ⟨hL91, K78⟩ := zl hL89 hE121
  refine zdl (r := rStr) (H := (vH w None [some b21, ob12, ob17, some b10, ob8, ob10] w108)) (zc := [(zaf ⟨#[]⟩)]) (x := []) zba ti9 rfl rfl rfl rfl q156 q157 q158 q159 hL91 ?_
  intro b20 w109 cs44 hE108 hc56 hL92 hS26
  have K79 := ks w hS26
  refine ⟨_, [], [], K79, (fun b hb => hL92.own.lt b hb), hL92.size, rfl, rfl, ?_⟩
  refine ⟨?_, ?_⟩
  ·
   intro w110 hE122
   obtain ⟨hL93, K80⟩ := zl hL92 hE122
   refine zan (i := 0) rfl rfl (zar (zav (v := (osv ob8 0 r6.1.length cap9)) zas rfl rfl (hL93.at 4 rfl rfl) rfl zrr)) ?_
   refine zan (i := 1) rfl rfl (zar (zae (v := (osv ob17 0 hard10.length cap17)) rfl zrr)) ?_
   refine zan (i := 2) rfl rfl (zar (zae (v := (osv ob12 0 last10.length cap12)) rfl zrr)) ?_
   refine zan (i := 4) rfl rfl (zar (zav (v := (osv ob8 0 r6.1.length cap9)) zas rfl rfl (hL93.at 4 rfl rfl) rfl zrr)) ?_
   refine zan (i := 7) rfl rfl (zar (zav (v := (osv ob8 0 r6.1.length cap9)) zas rfl rfl (hL93.at 4 rfl rfl) rfl zrr)) ?_
   exact zcd
  refine zdm (m := 1) [3] rfl rfl (fun q hq => ?_)
  obtain rfl := List.mem_singleton.1 hq
  refine zdt rfl ?_
  intro w111 V16 hE123 hp34
  obtain ⟨hL94, K81⟩ := zl hL92 hE123
  have f63 := ((((((hE101.mono (K59 None)).mono (K61 None)).mono (K76 None)).mono (K78 None)).mono (K79 None)).mono (K81 None))
  have f64 := (((((((hE99.mono (K58 None)).mono (K59 None)).mono (K61 None)).mono (K76 None)).mono (K78 None)).mono (K79 None)).mono (K81 None))
  refine zcx (r := rI) (H := (vH w None [some b20, some b21, ob12, ob17, some b10, ob8, ob10] w111)) (cs := cs40) (sp := sp21) (xs := r11) (ys := r12) (Y := x39) (n := hard10.length) (cap := cap17) (i := 3) zao ti3 rfl rfl rfl rfl hL94 rfl rfl f64 hl33 hc53 (zdw (pre := []) (o := 0) (n := last10.length) (cap := cap12) (hL94.at 2 rfl rfl) f63 rfl rfl hl34) (zci (fun _ _ _ _ h => h) f63) q152 q153 q154 ?_
  intro ob21 cap21 sp24 cs43 w100 hE105 hc55 (hL80 : vL w w100 [some b20, some b21, ob12, ob21, some b10, ob8, ob10] [zab ([] ++ (cs44 ++ [])), zab ([] ++ (cs45 ++ [])), zab ([] ++ (cs41 ++ sp22)), zab ([] ++ (cs43 ++ sp24)), zab [(osv ob8 0 r6.1.length cap9)], zab ([] ++ (cs12 ++ sp10)), zab ([] ++ (cs11 ++ sp11))]) hS24
  have K68 := ks w hS24
  refine ⟨_, [], [], K68, (fun b hb => hL80.own.lt b hb), hL80.size, rfl, rfl, ?_⟩
  refine ⟨?_, ?_⟩
  ·
   intro w101 hE112
   obtain ⟨hL81, K69⟩ := zl hL80 hE112
   refine zan (i := 0) rfl rfl (zar (zav (v := (osv ob8 0 r6.1.length cap9)) zas rfl rfl (hL81.at 4 rfl rfl) rfl zrr)) ?_
   refine zan (i := 4) rfl rfl (zar (zav (v := (osv ob8 0 r6.1.length cap9)) zas rfl rfl (hL81.at 4 rfl rfl) rfl zrr)) ?_
   refine zan (i := 7) rfl rfl (zar (zav (v := (osv ob8 0 r6.1.length cap9)) zas rfl rfl (hL81.at 4 rfl rfl) rfl zrr)) ?_
   exact zcd
  refine zdm (m := 0) [10] rfl rfl (fun q hq => ?_)
  obtain rfl := List.mem_singleton.1 hq
  refine zdt rfl ?_
  intro w102 V13 hE113 hp30
  obtain ⟨hL82, K70⟩ := zl hL80 hE113
  obtain ⟨r13, q165, h⟩ := zee h
  have hL83 := hL82.lendW [0, 1] rfl rfl rfl
  have f56 := ((((((((((f52.mono (K56 None)).mono (K58 None)).mono (K59 None)).mono (K61 None)).mono (K76 None)).mono (K78 None)).mono (K79 None)).mono (K81 None)).mono (K68 None)).mono (K70 None))
  have f57 := ((hE105.mono (K68 None)).mono (K70 None))
  have f58 := ((((hE108.mono (K79 None)).mono (K81 None)).mono (K68 None)).mono (K70 None))
  have f59 := ((((((hE111.mono (K76 None)).mono (K78 None)).mono (K79 None)).mono (K81 None)).mono (K68 None)).mono (K70 None))
  refine zds en36 rfl rfl (tchoose_w N l10 x39 x40 x41 (osv ob8 0 r6.1.length cap9) (osv ob21 0 x39.length cap21) (some b20) m12 cs44 [] (some b21) m13 cs45 [] [some b20, some b21] _ Any hL83 (zet (pre := []) (o := 0) (n := r6.1.length) (cap := cap9) hL82 5 [0, 1] rfl rfl rfl rfl f56 (zcr [0, 1] rfl) rfl rfl hl13 hc18) (zet (pre := []) (o := 0) (n := x39.length) (cap := cap21) hL82 3 [0, 1] rfl rfl rfl rfl f57 (zcr [0, 1] rfl) rfl rfl rfl hc55) (f58.mono (zcr [0, 1] rfl)) hc56 (f59.mono (zcr [0, 1] rfl)) hc57 r13 q165) ?_
  rintro _ w103 ⟨cs46, sp25, cs47, sp26, rfl, hL84, K71, hl35, hE114, hc58, hl36, hE115, hc59, -⟩
  refine ⟨_, rfl, ?_⟩
  have hp31 := hL82.backW [0, 1] [2, 3, 4, 5, 6] rfl rfl rfl rfl hL84
  have hL85 : vL w w103 [some b20, some b21, ob12, ob21, some b10, ob8, ob10] [zab ([] ++ (cs46 ++ sp25)), zab ([] ++ (cs47 ++ sp26)), zab ([] ++ (cs41 ++ sp22)), zab ([] ++ (cs43 ++ sp24)), zab [(osv ob8 0 r6.1.length cap9)], zab ([] ++ (cs12 ++ sp10)), zab ([] ++ (cs11 ++ sp11))] := (by have h9 := hp31.1; (try rw [← hl35] at h9); (try rw [← hl36] at h9); exact h9)
  have K72 := ks w hp31.2
  have hE116 : Els rStr (vH w None [some b20, some b21, ob12, ob21, some b10, ob8, ob10] w103) cs46 r13.2.2.1 := zci (fun _ _ _ _ h => h) hE114
  have hE117 : Els rBool (vH w None [some b20, some b21, ob12, ob21, some b10, ob8, ob10] w103) cs47 r13.2.2.2 := zci (fun _ _ _ _ h => h) hE115
  refine ⟨_, [11, 12, 13, 14, 15], [(150, (Value.tuple #[(bif r13.1 then (osv (some b20) 0 x40.length m12) else zat none 0 0), (zac r13.2.1)])), (162, (bif r13.1 then (osv (some b20) 0 x40.length m12) else zat none 0 0)), (163, (zac r13.2.1)), (18, (bif r13.1 then (osv (some b20) 0 x40.length m12) else zat none 0 0)), (19, (zac r13.2.1))], K72, (fun b hb => hL85.own.lt b hb), hL85.size, rfl, rfl, ?_⟩
  refine ⟨?_, ?_⟩
  ·
   intro w104 hE118
   obtain ⟨hL86, K73⟩ := zl hL85 hE118
   refine zan (i := 4) rfl rfl (zar (zav (v := (osv ob8 0 r6.1.length cap9)) zas rfl rfl (hL86.at 4 rfl rfl) rfl zrr)) ?_
   refine zan (i := 7) rfl rfl (zar (zav (v := (osv ob8 0 r6.1.length cap9)) zas rfl rfl (hL86.at 4 rfl rfl) rfl zrr)) ?_
   refine zan (i := 11) rfl rfl (zar (zae (v := (Value.tuple #[(bif r13.1 then (osv (some b20) 0 x40.length m12) else zat none 0 0), (zac r13.2.1)])) rfl zrr)) ?_
   refine zan (i := 12) rfl rfl (zar (zck (vs := [(bif r13.1 then (osv (some b20) 0 x40.length m12) else zat none 0 0), (zac r13.2.1)]) (v := (bif r13.1 then (osv (some b20) 0 x40.length m12) else zat none 0 0)) rfl rfl zrr)) ?_
   refine zan (i := 13) rfl rfl (zar (zck (vs := [(bif r13.1 then (osv (some b20) 0 x40.length m12) else zat none 0 0), (zac r13.2.1)]) (v := (zac r13.2.1)) rfl rfl zrr)) ?_
   refine zan (i := 14) rfl rfl (zar (zaj (v := (bif r13.1 then (osv (some b20) 0 x40.length m12) else zat none 0 0)) rfl zrr)) ?_
   refine zan (i := 15) rfl rfl (zar (zaj (v := (zac r13.2.1)) rfl zrr)) ?_
   exact zcd
  refine RlF.fin ?_
  intro w105 V14 hE119
  obtain ⟨hL87, K74⟩ := zl hL85 hE119
  have hp32 := hL87.pick [6, 0] rfl rfl rfl
  have hL88 : vL w w105 [ob10, some b20] [zab ([] ++ (cs11 ++ sp11)), zab ([] ++ (cs46 ++ sp25))] := hp32.1
  have K75 := ks w hp32.2
  have f60 := ((hE116.mono (K74 None)).mono (K75 None))
  obtain rfl := zad h
  refine zap ?_
  exact ⟨r13.2.2.1, r13.1, r13.2.1, some b20, m12, sp25, cs46, x40.length, _, rfl, (zef ⟨rfl, rfl, rfl, trivial⟩), hL88, (zak (zak (zak (zak (zak (zak (zak (zak (zak (zak K59 K61) K76) K78) K79) K81) K68) K70) K72) K74) K75), f60, hl35, hc58, trivial⟩
 rintro _ w112 ⟨chosen10, al10, is10, ob20, cap20, sp23, cs42, ln16, u, rfl, rfl, hL95, K82, hE124, rfl, hc60, -⟩
 replace h := g17
 try dsimp only at h
 refine zal (zal (zah rfl (zag (zae (v := (zac is10)) rfl ?_))))
 refine zag (OpY.not (x := is10) rfl (zaq ?_))
 refine zch (!is10) rfl (fun hc61 => ?_) (fun hc61 => ?_)
 ·
  replace h := ite_t hc61 h
  refine zal (zah rfl (zag (zaj (v := zN) rfl ?_)))
  refine zag (zaj (v := zF) rfl (zaq ?_))
  have hp35 := hL95.addNil
  have hL96 : vL w w112 [none, ob10, ob20] [zab ([] ++ ([] ++ [])), zab ([] ++ (cs11 ++ sp11)), zab ([] ++ (cs42 ++ sp23))] := hp35.1
  have hE125 : Els rStr (vH w None [none, ob10, ob20] w112) [] [] := zcm
  refine zbt ?_
  obtain rfl := zad h
  refine ⟨[(osv none 0 (List.length ([] : (List (List UInt8)))) 0), zF], ⟨rfl, rfl, trivial⟩, ⟨_, rfl, hL96.done, ?_⟩⟩
  exact ⟨none, 0, [], [], rfl, (hL96.newOwn [0] rfl rfl rfl), (hE125.mono (zdy [0] rfl)), (show ([] ++ [] : List Value).length = 0 * rStr.sz by simp), trivial⟩
 replace h := ite_f hc61 h
 refine zbl (zal (zah rfl (zag (zae (v := (osv ob10 0 r6.2.1.length cap10)) rfl ?_))))
 have f65 := (((((((((((hE12.mono (K10 None)).mono (K11 None)).mono (K20 None)).mono (K21 None)).mono (K22 None)).mono (K26 None)).mono (K46 None)).mono (K54 None)).mono (K56 None)).mono (K58 None)).mono (K82 None))
 refine zag (zcj (pre := []) (r := rI) (xs := r6.2.1) zao rfl (hL95.at 0 rfl rfl) f65 rfl rfl ?_)
 obtain ⟨x42, q166, h⟩ := zee h
 obtain ⟨m14, q167, q168, q169, q170⟩ := mk1_some q166
 refine zag (zdl (r := rStr) (H := (vH w None [ob10, ob20] w112)) (zc := [(zaf ⟨#[]⟩)]) (x := []) zba ti9 rfl rfl rfl rfl q167 q168 q169 q170 hL95 ?_)
 intro b22 w113 cs48 hE126 hc62 hL97 hS27
 have K83 := ks w hS27
 refine zag (zaj (v := (osv (some b22) 0 x42.length m14)) rfl ?_)
 refine zaq (zal (zal (zah rfl (zag (zae (v := (osv ob10 0 r6.2.1.length cap10)) rfl ?_)))))
 have f66 := (f65.mono (K83 None))
 refine zag (zcj (pre := []) (r := rI) (xs := r6.2.1) zao rfl (hL97.at 1 rfl rfl) f66 rfl rfl ?_)
 refine zag (zae (v := (zI 0)) rfl (zaq ?_))
 obtain ⟨s18, hl37, g18⟩ := zee h
 refine zbs (fun e w' => ∃ (out10 : (List (List UInt8))) (cs49 : List Value) (u : Env), out10 = s18 ∧ e = upds [(20, (osv (some b22) 0 x42.length m14))] u ∧ vL w w' [some b22] [zab ([] ++ (cs49 ++ []))] ∧ Keep w.heap.size [some b22, ob10, ob20] w113 [some b22] w' ∧ Els rStr (vH w None [some b22] w') cs49 out10 ∧ x42.length = List.length out10 ∧ (cs49 ++ []).length = m14 * rStr.sz ∧ True) ?_ ?_
 ·
  refine zbc ?_
  have hp36 := hL97.pick [2, 0, 1] rfl rfl rfl
  have hL98 : vL w w113 [ob20, some b22, ob10] [zab ([] ++ (cs42 ++ sp23)), zab ([] ++ (cs48 ++ [])), zab ([] ++ (cs11 ++ sp11))] := hp36.1
  have K84 := ks w hp36.2
  have f67 := ((hE126.mono (K83 None)).mono (K84 None))
  refine zbw hl37 (fun (ss : (Bool × (List (List UInt8)) × Int)) (e : Env) (w' : World) => match ss with | (al11, out11, x43) => ∃ (cs50 : List Value) (u : Env), e = upds [(18, (bif al11 then (osv ob20 0 chosen10.length cap20) else zat none 0 0)), (20, (osv (some b22) 0 x42.length m14)), (169, (osv ob10 0 r6.2.1.length cap10)), (170, (zI (r6.2.1.length : Int))), (171, (zI x43))] u ∧ vL w w' [ob20, some b22, ob10] [zab ([] ++ (cs42 ++ sp23)), zab ([] ++ (cs50 ++ [])), zab ([] ++ (cs11 ++ sp11))] ∧ Keep w.heap.size [some b22, ob10, ob20] w113 [ob20, some b22, ob10] w' ∧ Els rStr (vH w None [ob20, some b22, ob10] w') cs50 out11 ∧ x42.length = List.length out11 ∧ (cs50 ++ []).length = m14 * rStr.sz ∧ True) ⟨cs48, _, (zef ⟨rfl, rfl, rfl, rfl, rfl, trivial⟩), hL98, K84, f67, rfl, hc62, trivial⟩ ?_
  rintro ⟨al11, out11, x43⟩ oo _ w114 ⟨cs50, u, rfl, hL99, K85, hE127, hl38, hc63, -⟩ h hd16
  rw [tSolve_b7] at h
  refine zal (zah rfl (zag (zcg (x := x43) (y := (r6.2.1.length : Int)) ((x43 : Int) < (r6.2.1.length : Int)) rfl rfl zbi ?_)))
  refine zaq (zal ?_)
  refine zbj ((x43 : Int) < (r6.2.1.length : Int)) rfl (fun hc64 => ?_) (fun hc64 => ?_)
  ·
   replace h := ite_t hc64 h
   refine zbl (zal (zbc (zal (zah rfl (zag (zae (v := (zI x43)) rfl ?_))))))
   obtain ⟨x44, n29, q172, q173, q174, h⟩ := zix h
   have f68 := (f66.mono (K85 None))
   obtain ⟨b23, hb14⟩ := hL99.row_some 2 rfl rfl (zev (pre := []) f68 q173 (Nat.lt_of_sub_eq_succ rfl))
   refine zag (zbe (r := rI) (b := b23) (o := 0) (n := n29) (m := r6.2.1.length) (xs := r6.2.1) (q := (0 + n29 * rI.sz)) zao ti3 (zem hb14) rfl rfl q172 q174 rfl ?_)
   obtain ⟨vs22, q175, q176, q177⟩ := zeo (pre := []) (sp := sp11) f68 q173
   obtain rfl := q176
   refine zag (zbu (v := (zI x44)) zaw rfl rfl (zeq hb14 (hL99.at 2 rfl rfl)) q177 ?_)
   refine zag (zaj (v := (zI x43)) rfl ?_)
   refine zag (zaj (v := (zI x44)) rfl ?_)
   refine zaq (zah rfl (zag (zae (v := (osv (some b22) 0 x42.length m14)) rfl ?_)))
   refine zag (zae (v := (zI x43)) rfl ?_)
   refine zag (zae (v := (bif al11 then (osv ob20 0 chosen10.length cap20) else zat none 0 0)) rfl ?_)
   refine zag (zae (v := (zI x44)) rfl ?_)
   obtain ⟨u10, q178, h⟩ := zee h
   replace q178 := chk_some q178
   obtain ⟨x45, n30, q180, q181, q182, h⟩ := zix h
   have f69 := ((hE124.mono (K83 None)).mono (K85 None))
   obtain ⟨b24, hb15⟩ := hL99.row_some 0 rfl rfl (zev (pre := []) f69 q181 (Nat.lt_of_sub_eq_succ rfl))
   refine zag (zbe (r := rStr) (b := b24) (o := 0) (n := n30) (m := chosen10.length) (xs := chosen10) (q := (0 + n30 * rStr.sz)) zba ti9 ((bif_t q178).trans (zem hb15)) rfl rfl q180 q182 rfl ?_)
   obtain ⟨vs23, q183, q184, q185⟩ := zeo (pre := []) (sp := sp23) f69 q181
   obtain rfl := q184
   refine zag (zbu (v := (zS x45)) zax rfl rfl (zeq hb15 (hL99.at 0 rfl rfl)) q185 ?_)
   obtain ⟨x46, n31, q187, q188, q189, h⟩ := zix h
   refine zag (zbe (r := rStr) (b := b22) (o := 0) (n := n31) (m := x42.length) (xs := out11) (q := (0 + n31 * rStr.sz)) zba ti9 rfl hl38 rfl q187 q189 rfl ?_)
   obtain ⟨x47, n32, q191, q192, q193, h⟩ := zux h
   obtain rfl := zin q187 q191
   refine zdj (zdd (pre := []) (r := rStr) (vs := [(zS x45)]) (a := x45) ti9 rfl rfl rfl rfl hL99 1 rfl rfl hE127 q189 rfl q193 ?_)
   have hl39 : x42.length = List.length x47 := by rw [q193, List.length_set]; exact hl38
   intro w115 cs51 (hL100 : vL w w115 [ob20, some b22, ob10] [zab ([] ++ (cs42 ++ sp23)), zab ([] ++ (cs51 ++ [])), zab ([] ++ (cs11 ++ sp11))]) hS28 hE128 q194
   have hc65 : (cs51 ++ []).length = m14 * rStr.sz := zhc hc63 q194
   have K86 := ks w hS28
   refine zaq (zbf (zah rfl (zag (zbx (x := x43) (y := 1) (z := (iw (x43 + 1))) rfl rfl rfl ?_))))
   refine zag (zae (v := (zI (iw (x43 + 1)))) rfl (zaq ?_))
   have f70 := (hE128.mono (K86 None))
   obtain rfl := zad h
   refine zap ⟨(al11, x47, (iw (x43 + 1))), rfl, ?_⟩
   exact ⟨cs51, _, (zef ⟨rfl, rfl, rfl, rfl, rfl, trivial⟩), hL100, (zak K85 K86), f70, hl39, hc65, trivial⟩
  replace h := ite_f hc64 h
  refine zca rfl ?_
  have hp37 := hL99.pick [1] rfl rfl rfl
  have hL101 : vL w w114 [some b22] [zab ([] ++ (cs50 ++ []))] := hp37.1
  have K87 := ks w hp37.2
  have f71 := (hE127.mono (K87 None))
  obtain rfl := zad h
  obtain rfl := hd16 _ rfl
  replace h := g18
  try dsimp only at h
  refine zap ?_
  exact ⟨out11, cs50, _, rfl, (zef zrt), hL101, (zak K85 K87), f71, hl38, hc63, trivial⟩
 rintro _ w116 ⟨out10, cs49, u, rfl, rfl, hL102, K88, hE129, hl40, hc66, -⟩
 replace h := g18
 try dsimp only at h
 refine zal (zah rfl (zag (zae (v := (osv (some b22) 0 x42.length m14)) rfl ?_)))
 refine zag (zaj (v := (osv (some b22) 0 x42.length m14)) rfl ?_)
 refine zag (zaj (v := zT) rfl ?_)
 refine zaq (zbt ?_)
 obtain rfl := zad h
 refine ⟨[(osv (some b22) 0 x42.length m14), zT], ⟨rfl, rfl, trivial⟩, ⟨_, rfl, hL102.done, ?_⟩⟩
 exact ⟨some b22, m14, cs49, [], (by rw [← hl40]; rfl), (hL102.newOwn [0] rfl rfl rfl), (hE129.mono (zdy [0] rfl)), hc66, trivial⟩
end Go.Proofs.Ytaakoedphmeenaa.WT

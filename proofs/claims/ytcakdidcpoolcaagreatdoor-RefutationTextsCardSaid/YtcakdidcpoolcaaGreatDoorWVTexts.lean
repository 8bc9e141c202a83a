/- Walks, written by a program of mine (wip/tool); the kernel checks them. -/
import Derived.Test.YtcakdidcpoolcaaGreatDoorWVTextsx0
set_option maxRecDepth 100000
set_option maxHeartbeats 40000000
set_option linter.unusedVariables false
set_option linter.unusedSimpArgs false
namespace Go.Proofs.YtcakdidcpoolcaaGreatDoor.WV
open Go Go.RowKit Go.X Go.D Go.Proofs.YtcakdidcpoolcaaGreatDoor.WF Go.Proofs.YtcakdidcpoolcaaGreatDoor.WA Go.Proofs.YtcakdidcpoolcaaGreatDoor.WR Go.Proofs.YtcakdidcpoolcaaGreatDoor.WB Go.Proofs.YtcakdidcpoolcaaGreatDoor.WC Go.Proofs.YtcakdidcpoolcaaGreatDoor.WI Go.Proofs.YtcakdidcpoolcaaGreatDoor.WS
theorem vCheck_w (N : Nat) (l : (List RVar)) (c : RClause) (pc : Refut) (l_v : Value) (c_v : Value) (c_v1 : Value) (c_v2 : Value) (c_v3 : Value) (c_v4 : Value) (c_v5 : Value) (c_v6 : Value) (pc_v : Value) (pc_v1 : Value) (pc_v2 : Value) (pc_v3 : Value) (pc_v4 : Value) (w : World) (S : Nat → Prop) (l_h : Rs rRVar (vH w S [] w) l_v l) (c_h : Rs rI (vH w S [] w) c_v c.Null) (c_h1 : Rs rI (vH w S [] w) c_v1 c.NotNull) (c_h2 : Rs rRAux (vH w S [] w) c_v2 c.Auxiliary) (c_h3 : Rs rConstraint (vH w S [] w) c_v3 c.Ints) (c_h4 : Rs rTTest (vH w S [] w) c_v4 c.Tests) (c_h5 : Rs rArr2Int (vH w S [] w) c_v5 c.Same) (c_h6 : Rs rArr2Int (vH w S [] w) c_v6 c.Different) (pc_h : Rs rStep (vH w S [] w) pc_v pc.Proof.Steps) (pc_h1 : Rs rBig (vH w S [] w) pc_v1 pc.Proof.Form) (pc_h2 : Rs (rInt .u32) (vH w S [] w) pc_v2 pc.Proof.Bound.Digits) (pc_h3 : Rs rProof (vH w S [] w) pc_v3 pc.Proof.Children) (pc_h4 : Rs rRefut (vH w S [] w) pc_v4 pc.Children) (r : Bool) (h : vCheck N l c pc = some r) :
  Calls Tryz.prog 29 #[l_v, (zar #[c_v, c_v1, c_v2, c_v3, c_v4, c_v5, c_v6]), (zar #[(zI pc.Kind), (zI pc.Var), (zI pc.At), pc_v, pc_v1, (zab pc.Proof.Bound.Negative), pc_v2, pc_v3, pc_v4])] w (Ret w (fun v w' => (zab r) = v ∧ True)) := by
 unfold vCheck at h
 have hL : vL w w [] [] := Go.X.Loc.begin0 w
 refine calls_of (l := [l_v, (zar #[c_v, c_v1, c_v2, c_v3, c_v4, c_v5, c_v6]), (zar #[(zI pc.Kind), (zI pc.Var), (zI pc.At), pc_v, pc_v1, (zab pc.Proof.Bound.Negative), pc_v2, pc_v3, pc_v4])]) (rl := [.tmp 6]) (n := 13) Tryz.func29 rfl rfl rfl (zaf rfl) ?_
 refine zal (zah rfl (zag (zdu (cs := [c_v, c_v1, c_v2, c_v3, c_v4, c_v5, c_v6]) rfl rfl hL ?_)))
 intro b1 w2 hL3 hS5
 have K4 := ks w hS5
 refine zag (zdu (cs := [(zI pc.Kind), (zI pc.Var), (zI pc.At), pc_v, pc_v1, (zab pc.Proof.Bound.Negative), pc_v2, pc_v3, pc_v4]) rfl rfl hL3 ?_)
 intro b6 w7 hL8 hS10
 have K9 := ks w hS10
 refine zag (zam (v := zF) rfl ?_)
 refine zap (zal ?_)
 obtain ⟨r10, q10, h⟩ := zes h
 refine zcm 5 [] [] (fun W1 => [.det l_v, .det (zar #[c_v, c_v1, c_v2, c_v3, c_v4, c_v5, c_v6]), .det (zar #[(zI pc.Kind), (zI pc.Var), (zI pc.At), pc_v, pc_v1, (zab pc.Proof.Bound.Negative), pc_v2, pc_v3, pc_v4]), .det l_v, .rel (fun v Z w' => ∃ ob10 cap10 cs10 sp10, (zO ob10 r10 cap10) = v ∧ OwnC w' ob10 (zac ([] ++ (cs10 ++ sp10))) ∧ Els rArr2Int (vZ W1 w None [some b6, some b1] Z w') cs10 r10 ∧ (cs10 ++ sp10 : List Value).length = cap10 * rArr2Int.sz ∧ True) footV]) mixed rfl rfl rfl (fun _ => rfl) (fun _ => rfl) ?_ ?_
 ·
  intro W1 _
  exact ⟨fun v Z Z' w w' hΦ hz _ _ hs => by obtain ⟨ob10, cap10, cs10, sp10, rfl, hO10, hE10, hc10, -⟩ := hΦ; exact ⟨ob10, cap10, cs10, sp10, rfl, (hO10.stay (fun b hb => (zfc (ob := ob10) (o := 0) (n := r10.length) (cap := cap10)).2 (by rw [hb]; exact zbi)) hs), (hE10.mono (zdt hz hs)), hc10, trivial⟩, trivial⟩
 intro w10 hE11
 obtain ⟨hL10, K10⟩ := zl hL8 hE11
 refine zao (fun _ _ => zau (zai rfl (er rfl))) ?_
 refine zao (fun _ hE13 => zau (zbr (vs := [c_v, c_v1, c_v2, c_v3, c_v4, c_v5, c_v6]) zay rfl ti29 rfl ((hL10.ext hE13).at 1 rfl rfl) rfl rfl (er rfl))) ?_
 refine zao (fun _ hE14 => zau (zbr (vs := [(zI pc.Kind), (zI pc.Var), (zI pc.At), pc_v, pc_v1, (zab pc.Proof.Bound.Negative), pc_v2, pc_v3, pc_v4]) zdb rfl ti73 rfl ((hL10.ext hE14).at 0 rfl rfl) rfl rfl (er rfl))) ?_
 refine zao (fun _ _ => zau (zai rfl (er rfl))) ?_
 refine zdw ?_ ?_
 ·
  rintro w15 Z23 hE16 hZ14 ⟨-⟩
  have K11 := ke hL10 hE16
  refine zau (zbc en61 rfl rfl (vfirst_w N l l_v _ Any (((((l_h.mono (K4 S)).mono (K9 S)).mono (K10 S)).mono (K11 S)).mono vw_any) r10 q10) ?_)
  rintro _ w16 hE17 ⟨ob10, cap10, cs10, sp10, rfl, hN10, hE10, hc10, -⟩
  exact zdp hE17 hZ14 hN10 (fun b hb => footV_osv.1 hb) ⟨ob10, cap10, cs10, sp10, rfl, hN10.2.2.1, (hE10.mono zec), hc10, trivial⟩
 intro z4
 refine zcy ?_
 rintro w17 Z24 hE18 hZ15 ⟨⟨⟨ob10, cap10, cs10, sp10, rfl, hO10, hE10, hc10, -⟩, hB4⟩, -⟩ ap10
 have hB10 : ∀ b, some b ∈ ([ob10] : List (Option Nat)) → w10.heap.size ≤ b ∧ ¬ Z24 b := by
  intro b hb
  rcases List.mem_cons.1 hb with hb' | hb
  ·
   have := hB4 b ((zfc (ob := ob10) (o := 0) (n := r10.length) (cap := cap10)).2 (by rw [hb']; exact zbi)); exact ⟨this.1, this.2.2⟩
  cases hb
 replace hE10 := hE10.mono (zed hL10 hZ15 hB10)
 have hN11 : NewOwn w10 w17 [ob10] [zac ([] ++ (cs10 ++ sp10))] := (zdv zde hO10 (fun b hb => (hB10 b (by rw [← hb]; simp)).1) (fun b _ hb => by cases hb))
 have hp10 := hL10.adoptL hE18 hN11
 have hL13 := hp10.1
 have K12 := ks w hp10.2
 obtain ⟨r11, q11, h⟩ := zes h
 have f10 := ((((l_h.mono (K4 S)).mono (K9 S)).mono (K10 S)).mono (K12 S))
 have f11 := ((((c_h.mono (K4 S)).mono (K9 S)).mono (K10 S)).mono (K12 S))
 have f12 := ((((c_h1.mono (K4 S)).mono (K9 S)).mono (K10 S)).mono (K12 S))
 have f13 := ((((c_h2.mono (K4 S)).mono (K9 S)).mono (K10 S)).mono (K12 S))
 have f14 := ((((c_h3.mono (K4 S)).mono (K9 S)).mono (K10 S)).mono (K12 S))
 have f15 := ((((c_h4.mono (K4 S)).mono (K9 S)).mono (K10 S)).mono (K12 S))
 have f16 := ((((c_h5.mono (K4 S)).mono (K9 S)).mono (K10 S)).mono (K12 S))
 have f17 := ((((c_h6.mono (K4 S)).mono (K9 S)).mono (K10 S)).mono (K12 S))
 have f18 := ((((pc_h.mono (K4 S)).mono (K9 S)).mono (K10 S)).mono (K12 S))
 have f19 := ((((pc_h1.mono (K4 S)).mono (K9 S)).mono (K10 S)).mono (K12 S))
 have f20 := ((((pc_h2.mono (K4 S)).mono (K9 S)).mono (K10 S)).mono (K12 S))
 have f21 := ((((pc_h3.mono (K4 S)).mono (K9 S)).mono (K10 S)).mono (K12 S))
 have f22 := ((((pc_h4.mono (K4 S)).mono (K9 S)).mono (K10 S)).mono (K12 S))
 refine zag (zbc en60 rfl rfl (vcheck_w N l c pc r10 l_v c_v c_v1 c_v2 c_v3 c_v4 c_v5 c_v6 pc_v pc_v1 pc_v2 pc_v3 pc_v4 (zO ob10 r10 cap10) _ Any (f10.mono vw_any) (f11.mono vw_any) (f12.mono vw_any) (f13.mono vw_any) (f14.mono vw_any) (f15.mono vw_any) (f16.mono vw_any) (f17.mono vw_any) (f18.mono vw_any) (f19.mono vw_any) (f20.mono vw_any) (f21.mono vw_any) (f22.mono vw_any) (zey (pre := []) (o := 0) (n := r10.length) (cap := cap10) (hL13.at 0 rfl rfl) hE10 vw_any rfl rfl rfl hc10) r11 q11) ?_)
 rintro _ w18 hE19 ⟨rfl, -⟩
 have hL14 := hL13.ext hE19
 refine zag (zam (v := (zab r11)) rfl ?_)
 refine zap (zbl ?_)
 obtain rfl := zae h
 refine ⟨[(zab r11)], zrt, ⟨_, rfl, hL14.done, ?_⟩⟩
 exact zrt
theorem vFormat_w (N : Nat) : ∀ (pa : Refut) (pa_v : Value) (pa_v1 : Value) (pa_v2 : Value) (pa_v3 : Value) (pa_v4 : Value) (w : World) (S : Nat → Prop) (pa_h : Rs rStep (vH w S [] w) pa_v pa.Proof.Steps) (pa_h1 : Rs rBig (vH w S [] w) pa_v1 pa.Proof.Form) (pa_h2 : Rs (rInt .u32) (vH w S [] w) pa_v2 pa.Proof.Bound.Digits) (pa_h3 : Rs rProof (vH w S [] w) pa_v3 pa.Proof.Children) (pa_h4 : Rs rRefut (vH w S [] w) pa_v4 pa.Children) (r : (List UInt8)) (h : vFormat N pa = some r), Calls Tryz.prog 33 #[(zar #[(zI pa.Kind), (zI pa.Var), (zI pa.At), pa_v, pa_v1, (zab pa.Proof.Bound.Negative), pa_v2, pa_v3, pa_v4])] w (Ret w (fun v w' => (zS r) = v ∧ True)) := by
 induction N with
 | zero => intro pa pa_v pa_v1 pa_v2 pa_v3 pa_v4 w S pa_h pa_h1 pa_h2 pa_h3 pa_h4 r h; cases (show (none : Option (List UInt8)) = some r from h)
 | succ N ih =>
  intro pa pa_v pa_v1 pa_v2 pa_v3 pa_v4 w S pa_h pa_h1 pa_h2 pa_h3 pa_h4 r h
  replace h : vFormat_step N (vFormat N) pa = some r := h
  unfold vFormat_step at h
  have hL : vL w w [] [] := Go.X.Loc.begin0 w
  refine calls_of (l := [(zar #[(zI pa.Kind), (zI pa.Var), (zI pa.At), pa_v, pa_v1, (zab pa.Proof.Bound.Negative), pa_v2, pa_v3, pa_v4])]) (rl := [.tmp 2]) (n := 49) Tryz.func33 rfl rfl rfl (zaf rfl) ?_
  refine zal (zah rfl (zag (zdu (cs := [(zI pa.Kind), (zI pa.Var), (zI pa.At), pa_v, pa_v1, (zab pa.Proof.Bound.Negative), pa_v2, pa_v3, pa_v4]) rfl rfl hL ?_)))
  intro b1 w2 hL3 hS5
  have K4 := ks w hS5
  refine zag (zam (v := (zS ([] : List UInt8))) rfl ?_)
  refine zap (zal (zal (zah rfl (zag (zak (q := 0) zdb rfl ti3 rfl rfl rfl ?_)))))
  refine zag (zas (v := (zI pa.Kind)) zat rfl rfl (hL3.at 0 rfl rfl) rfl ?_)
  refine zap (zbh (zal (zah rfl (zag (zeb (x := pa.Kind) (y := 0) ((pa.Kind : Int) = 0) rfl rfl zbd ?_)))))
  refine zag (zam (v := (zab (decide ((pa.Kind : Int) = 0)))) rfl (zap ?_))
  refine zbf ((pa.Kind : Int) = 0) rfl (fun hc6 => ?_) (fun hc6 => ?_)
  ·
   replace h := ite_t hc6 h
   refine zal (zah rfl (zag (zak (q := 1) zdb rfl ti3 rfl rfl rfl ?_)))
   refine zag (zas (v := (zI pa.Var)) zat rfl rfl (hL3.at 0 rfl rfl) rfl ?_)
   obtain ⟨r7, q8, h⟩ := zes h
   refine zag (zbc en67 rfl rfl (fmtI_w N pa.Var _ Any r7 q8) ?_)
   rintro _ w10 hE10 ⟨rfl, -⟩
   have hL10 := hL3.ext hE10
   obtain ⟨u10, q10, h⟩ := zes h
   have q11 := chk_some q10
   refine zag (OpY.sAdd (x := ([110, 117, 108, 108, 32, 120] : List UInt8)) (y := r7) rfl rfl q11 ?_)
   refine zag (zam (v := (zbo (s8 (([110, 117, 108, 108, 32, 120] : List UInt8) ++ r7)))) rfl ?_)
   refine zap (zbl ?_)
   obtain rfl := zae h
   refine ⟨[(zbo (s8 (([110, 117, 108, 108, 32, 120] : List UInt8) ++ r7)))], zrt, ⟨_, rfl, hL10.done, ?_⟩⟩
   exact zrt
  replace h := ite_f hc6 h
  refine zal (zah rfl (zag (zeb (x := pa.Kind) (y := 1) ((pa.Kind : Int) = 1) rfl rfl zbd ?_)))
  refine zag (zam (v := (zab (decide ((pa.Kind : Int) = 1)))) rfl (zap ?_))
  refine zbf ((pa.Kind : Int) = 1) rfl (fun hc10 => ?_) (fun hc10 => ?_)
  ·
   replace h := ite_t hc10 h
   refine zal (zah rfl (zag (zam (v := (zS ([116, 101, 120, 116] : List UInt8))) rfl ?_)))
   refine zap (zbl ?_)
   obtain rfl := zae h
   refine ⟨[(zS ([116, 101, 120, 116] : List UInt8))], zrt, ⟨_, rfl, hL3.done, ?_⟩⟩
   exact zrt
  replace h := ite_f hc10 h
  refine zal (zah rfl (zag (zeb (x := pa.Kind) (y := 2) ((pa.Kind : Int) = 2) rfl rfl zbd ?_)))
  refine zag (zam (v := (zab (decide ((pa.Kind : Int) = 2)))) rfl (zap ?_))
  refine zbf ((pa.Kind : Int) = 2) rfl (fun hc11 => ?_) (fun hc11 => ?_)
  ·
   replace h := ite_t hc11 h
   refine zal (zah rfl (zag (zak (q := 3) zdb rfl ti70 rfl rfl rfl ?_)))
   refine zag (zbr (vs := [pa_v, pa_v1, (zab pa.Proof.Bound.Negative), pa_v2, pa_v3]) zdk rfl ti70 rfl (hL3.at 0 rfl rfl) rfl rfl ?_)
   obtain ⟨r10, q12, h⟩ := zes h
   have f10 := (pa_h.mono (K4 S))
   have f11 := (pa_h1.mono (K4 S))
   have f12 := (pa_h2.mono (K4 S))
   have f13 := (pa_h3.mono (K4 S))
   refine zag (zbc en65 rfl rfl (cSize_w N pa.Proof pa_v pa_v1 pa_v2 pa_v3 _ Any (f10.mono vw_any) (f11.mono vw_any) (f12.mono vw_any) (f13.mono vw_any) r10 q12) ?_)
   rintro _ w11 hE11 ⟨rfl, -⟩
   have hL11 := hL3.ext hE11
   obtain ⟨r11, q13, h⟩ := zes h
   refine zag (zbc en67 rfl rfl (fmtI_w N r10 _ Any r11 q13) ?_)
   rintro _ w12 hE12 ⟨rfl, -⟩
   have hL12 := hL11.ext hE12
   obtain ⟨u11, q14, h⟩ := zes h
   have q15 := chk_some q14
   refine zag (OpY.sAdd (x := ([105, 110, 116, 101, 103, 101, 114, 115, 32] : List UInt8)) (y := r11) rfl rfl q15 ?_)
   refine zag (zam (v := (zbo (s8 (([105, 110, 116, 101, 103, 101, 114, 115, 32] : List UInt8) ++ r11)))) rfl ?_)
   refine zap (zbl ?_)
   obtain rfl := zae h
   refine ⟨[(zbo (s8 (([105, 110, 116, 101, 103, 101, 114, 115, 32] : List UInt8) ++ r11)))], zrt, ⟨_, rfl, hL12.done, ?_⟩⟩
   exact zrt
  replace h := ite_f hc11 h
  refine zal (zah rfl (zag (zeb (x := pa.Kind) (y := 3) ((pa.Kind : Int) = 3) rfl rfl zbd ?_)))
  refine zag (zam (v := (zab (decide ((pa.Kind : Int) = 3)))) rfl (zap ?_))
  refine zbf ((pa.Kind : Int) = 3) rfl (fun hc12 => ?_) (fun hc12 => ?_)
  ·
   replace h := ite_t hc12 h
   refine zal (zah rfl (zag (zcj (cs := [(zaj none), zN]) ti135 rfl hL3 ?_)))
   intro b10 w13 hL13 hS10
   refine zap (zal ?_)
   obtain ⟨r12, q16, h⟩ := zes h
   obtain ⟨u12, q17, h⟩ := zes h
   have q18 := chk_some q17
   obtain ⟨u13, q19, h⟩ := zes h
   have q20 := chk_some q19
   obtain ⟨r13, q21, h⟩ := zes h
   refine zcm 8 [] [] (fun W1 => [.det (zaj (some ⟨b1, 1, none⟩)), .det (zI pa.Var), .det (zS r12), .det (zbo (s8 (([108, 101, 110, 103, 116, 104, 32, 120] : List UInt8) ++ r12))), .det (zbo (s8 ((([108, 101, 110, 103, 116, 104, 32, 120] : List UInt8) ++ r12) ++ ([32, 60, 61, 32] : List UInt8)))), .det (zaj (some ⟨b1, 2, none⟩)), .det (zI pa.At), .det (zS r13)]) mixed rfl rfl rfl (fun _ => rfl) (fun _ => rfl) ?_ ?_
   ·
    intro W1 _
    exact trivial
   intro w14 hE13
   have hL14 := hL13.ext hE13
   refine zao (fun _ _ => zau (zak zdb rfl ti3 rfl rfl rfl (er rfl))) ?_
   refine zao (fun _ hE15 => zau (zas zat rfl rfl ((hL14.ext hE15).at 1 rfl rfl) rfl (er rfl))) ?_
   refine zen ?_ ?_
   ·
    rintro w17 Z21 hE16 hZ12 ⟨-⟩
    refine zau (zbc en67 rfl rfl (fmtI_w N pa.Var _ Any r12 q16) ?_)
    rintro _ w18 hE17 ⟨rfl, -⟩
    exact ⟨hE17, rfl⟩
   refine zao (fun _ _ => zau (OpY.sAdd (x := ([108, 101, 110, 103, 116, 104, 32, 120] : List UInt8)) (y := r12) rfl rfl q18 (er rfl))) ?_
   refine zao (fun _ _ => zau (OpY.sAdd (x := (([108, 101, 110, 103, 116, 104, 32, 120] : List UInt8) ++ r12)) (y := ([32, 60, 61, 32] : List UInt8)) rfl rfl q20 (er rfl))) ?_
   refine zao (fun _ _ => zau (zak zdb rfl ti3 rfl rfl rfl (er rfl))) ?_
   refine zao (fun _ hE21 => zau (zas zat rfl rfl ((hL14.ext hE21).at 1 rfl rfl) rfl (er rfl))) ?_
   refine zen ?_ ?_
   ·
    rintro w23 Z26 hE22 hZ17 ⟨-⟩
    refine zau (zbc en67 rfl rfl (fmtI_w N pa.At _ Any r13 q21) ?_)
    rintro _ w24 hE23 ⟨rfl, -⟩
    exact ⟨hE23, rfl⟩
   refine zcy ?_
   rintro w25 Z27 hE24 hZ18 ⟨-⟩ ap10
   have hB10 := @zhb w14 Z27
   obtain ⟨u14, q22, h⟩ := zes h
   have q23 := chk_some q22
   refine zag (OpY.sAdd (x := ((([108, 101, 110, 103, 116, 104, 32, 120] : List UInt8) ++ r12) ++ ([32, 60, 61, 32] : List UInt8))) (y := r13) rfl rfl q23 ?_)
   cases h
  replace h := ite_f hc12 h
  refine zbk (zbu (zal (zah rfl (zag (zam (v := (zS ([105, 110, 118, 97, 108, 105, 100] : List UInt8))) rfl ?_)))))
  refine zap (zbl ?_)
  obtain rfl := zae h
  refine ⟨[(zS ([105, 110, 118, 97, 108, 105, 100] : List UInt8))], zrt, ⟨_, rfl, hL3.done, ?_⟩⟩
  exact zrt
end Go.Proofs.YtcakdidcpoolcaaGreatDoor.WV

/- Walks, written by a program of mine (wip/tool); the kernel checks them. -/
import Derived.Test.YtaakoedphmeenaaWRLengthsx0
set_option maxRecDepth 100000
set_option maxHeartbeats 40000000
set_option linter.unusedVariables false
set_option linter.unusedSimpArgs false
namespace Go.Proofs.Ytaakoedphmeenaa.WR
open Go Go.RowKit Go.X Go.D Go.Proofs.Ytaakoedphmeenaa.WA
theorem rWords_w (N : Nat) (p : TProb) (vclass : (List Int)) (most : Int) (p_v : Value) (p_v1 : Value) (p_v2 : Value) (p_v3 : Value) (p_v4 : Value) (vclass_v : Value) (w : World) (S : Nat → Prop) (p_h : Rs rI (vH w S [] w) p_v p.Min) (p_h1 : Rs rI (vH w S [] w) p_v1 p.Max) (p_h2 : Rs rTTest (vH w S [] w) p_v2 p.Tests) (p_h3 : Rs rArr2Int (vH w S [] w) p_v3 p.Same) (p_h4 : Rs rArr2Int (vH w S [] w) p_v4 p.Different) (vclass_h : Rs rI (vH w S [] w) vclass_v vclass) (r : ((List (List UInt8)) × (List Int))) (h : rWords N p vclass most = some r) :
  Calls Try.prog 37 #[(zbq #[p_v, p_v1, p_v2, p_v3, p_v4]), vclass_v, (zI most)] w (Ret w (fun v w' => ∃ (v0_0 : Value) (v1_0 : Value), .tuple #[v0_0, v1_0] = v ∧ Rs rStr (vH w None [] w') v0_0 r.1 ∧ Rs rI (vH w None [] w') v1_0 r.2 ∧ True)) := by
 unfold rWords at h
 have hL : vL w w [] [] := Go.X.Loc.begin0 w
 refine calls_of (l := [(zbq #[p_v, p_v1, p_v2, p_v3, p_v4]), vclass_v, (zI most)]) (rl := [.tmp 6, .tmp 7]) (n := 76) Try.func37 rfl rfl rfl (zai rfl) ?_
 refine zal (zah rfl (zag (zdp (cs := [p_v, p_v1, p_v2, p_v3, p_v4]) rfl rfl hL ?_)))
 intro b1 w2 hL3 hS5
 have K4 := ks w hS5
 refine zag (zaj (v := zN) rfl ?_)
 refine zag (zaj (v := zN) rfl ?_)
 refine zaq (zal (zah rfl (zag (zdx zba ti9 hL3 ?_))))
 intro b6 w10 hL10 hS10
 have hE10 : Els rStr (vH w None [some b1] w2) [] [] := zcm
 have K10 := ks w hS10
 refine zag (zdx zao ti3 hL10 ?_)
 intro b10 w11 hL11 hS11
 have hE11 : Els rI (vH w None [some b6, some b1] w10) [] [] := zcm
 have K11 := ks w hS11
 refine zag (zaj (v := (osv (some b6) 0 (List.length ([] : (List (List UInt8)))) 0)) rfl ?_)
 refine zag (zaj (v := (osv (some b10) 0 (List.length ([] : (List Int))) 0)) rfl ?_)
 refine zaq (zal (zah rfl ?_))
 have hE12 : Els rStr (vH w None [some b10, some b6, some b1] w11) [(zS ([] : List UInt8))] [([] : List UInt8)] := (zcp (a := [(zS ([] : List UInt8))]) rfl zcm)
 refine zag (zcl (r := rStr) (vs := [(zS ([] : List UInt8))]) (css := [[(zS ([] : List UInt8))]]) (xs := [([] : List UInt8)]) zba ti9 (zai rfl) rfl rfl ⟨rfl, rfl, trivial⟩ (zai rfl) hE12 rfl hL11 ?_)
 intro b11 w12 hc10 hL12 hS12
 have K12 := ks w hS12
 refine zag (zaj (v := (osv (some b11) 0 1 1)) rfl ?_)
 refine zaq (zal (zal (zah rfl (zag (zaj (v := (zI 0)) rfl (zaq ?_))))))
 obtain ⟨s10, hl10, g10⟩ := zee h
 refine zbs (fun e w' => ∃ (out10 : (List (List UInt8))) (lengths10 : (List Int)) (ob10 : Option Nat) (cap10 : Nat) (sp10 : List Value) (cs10 : List Value) (ln10 : Nat) (ob11 : Option Nat) (cap11 : Nat) (sp11 : List Value) (cs11 : List Value) (ln11 : Nat) (u : Env), (out10, lengths10) = s10 ∧ e = upds [(8, (osv ob10 0 ln10 cap10)), (9, (osv ob11 0 ln11 cap11))] u ∧ vL w w' [ob10, ob11] [zab ([] ++ (cs10 ++ sp10)), zab ([] ++ (cs11 ++ sp11))] ∧ Keep w.heap.size [some b11, some b10, some b6, some b1] w12 [ob10, ob11] w' ∧ Els rStr (vH w None [ob10, ob11] w') cs10 out10 ∧ ln10 = List.length out10 ∧ (cs10 ++ sp10).length = cap10 * rStr.sz ∧ Els rI (vH w None [ob10, ob11] w') cs11 lengths10 ∧ ln11 = List.length lengths10 ∧ (cs11 ++ sp11).length = cap11 * rI.sz ∧ True) ?_ ?_
 ·
  refine zbc ?_
  have hp10 := hL12.pick [3, 2, 1, 0] rfl rfl rfl
  have hL13 : vL w w12 [some b1, some b6, some b10, some b11] [zab [p_v, p_v1, p_v2, p_v3, p_v4], zab ([] ++ ([] ++ [])), zab ([] ++ ([] ++ [])), zab ([] ++ ([(zS ([] : List UInt8))] ++ []))] := hp10.1
  have K13 := ks w hp10.2
  have f10 := ((((hE10.mono (K10 None)).mono (K11 None)).mono (K12 None)).mono (K13 None))
  have f11 := (((hE11.mono (K11 None)).mono (K12 None)).mono (K13 None))
  have f12 := ((hE12.mono (K12 None)).mono (K13 None))
  refine zbw hl10 (fun (ss : ((List (List UInt8)) × (List Int) × (List (List UInt8)) × Int)) (e : Env) (w' : World) => match ss with | (out11, lengths11, front10, n10) => ∃ (ob12 : Option Nat) (cap12 : Nat) (sp12 : List Value) (cs12 : List Value) (ln12 : Nat) (ob13 : Option Nat) (cap13 : Nat) (sp13 : List Value) (cs13 : List Value) (ln13 : Nat) (ob14 : Option Nat) (cap14 : Nat) (sp14 : List Value) (cs14 : List Value) (ln14 : Nat) (u : Env), e = upds [(1, vclass_v), (2, (zI most)), (3, (zam (some ⟨b1, 0, none⟩))), (8, (osv ob12 0 ln12 cap12)), (9, (osv ob13 0 ln13 cap13)), (10, (osv ob14 0 ln14 cap14)), (11, (zI n10))] u ∧ vL w w' [some b1, ob12, ob13, ob14] [zab [p_v, p_v1, p_v2, p_v3, p_v4], zab ([] ++ (cs12 ++ sp12)), zab ([] ++ (cs13 ++ sp13)), zab ([] ++ (cs14 ++ sp14))] ∧ Keep w.heap.size [some b11, some b10, some b6, some b1] w12 [some b1, ob12, ob13, ob14] w' ∧ Els rStr (vH w None [some b1, ob12, ob13, ob14] w') cs12 out11 ∧ ln12 = List.length out11 ∧ (cs12 ++ sp12).length = cap12 * rStr.sz ∧ Els rI (vH w None [some b1, ob12, ob13, ob14] w') cs13 lengths11 ∧ ln13 = List.length lengths11 ∧ (cs13 ++ sp13).length = cap13 * rI.sz ∧ Els rStr (vH w None [some b1, ob12, ob13, ob14] w') cs14 front10 ∧ ln14 = List.length front10 ∧ (cs14 ++ sp14).length = cap14 * rStr.sz ∧ True) ⟨some b6, 0, [], [], (List.length ([] : (List (List UInt8)))), some b10, 0, [], [], (List.length ([] : (List Int))), some b11, 1, [], [(zS ([] : List UInt8))], 1, _, (zef ⟨rfl, rfl, rfl, rfl, rfl, rfl, rfl, trivial⟩), hL13, K13, f10, rfl, (show ([] ++ [] : List Value).length = 0 * rStr.sz by simp), f11, rfl, (show ([] ++ [] : List Value).length = 0 * rI.sz by simp), f12, rfl, hc10, trivial⟩ ?_
  rintro ⟨out11, lengths11, front10, n10⟩ oo _ w13 ⟨ob12, cap12, sp12, cs12, ln12, ob13, cap13, sp13, cs13, ln13, ob14, cap14, sp14, cs14, ln14, u, rfl, hL14, K14, hE13, rfl, hc11, hE14, rfl, hc12, hE15, rfl, hc13, -⟩ h hd10
  rw [rWords_b1] at h
  refine zal (zal (zah rfl (zag (zae (v := (zI n10)) rfl ?_))))
  refine zag (zea (x := n10) (y := 2) ((n10 : Int) ≤ 2) rfl rfl zbi (zaq ?_))
  refine zbj ((n10 : Int) ≤ 2) rfl (fun hc14 => ?_) (fun hc14 => ?_)
  ·
   replace h := ite_t hc14 h
   refine zbl (zal (zbc (zal (zah rfl (zag (zdx zba ti9 hL14 ?_))))))
   intro b12 w14 hL15 hS13
   have hE16 : Els rStr (vH w None [some b1, ob12, ob13, ob14] w13) [] [] := zcm
   have K15 := ks w hS13
   refine zag (zaj (v := (osv (some b12) 0 (List.length ([] : (List (List UInt8)))) 0)) rfl ?_)
   refine zag (zaj (v := zF) rfl ?_)
   refine zaq (zal (zal (zah rfl (zag (zaj (v := (zI 0)) rfl (zaq ?_))))))
   obtain ⟨s11, hl11, g11⟩ := zee h
   refine zbs (fun e w' => ∃ (out12 : (List (List UInt8))) (next10 : (List (List UInt8))) (some10 : Bool) (ob15 : Option Nat) (cap15 : Nat) (sp15 : List Value) (cs15 : List Value) (ln15 : Nat) (ob16 : Option Nat) (cap16 : Nat) (sp16 : List Value) (cs16 : List Value) (ln16 : Nat) (u : Env), (out12, next10, some10) = s11 ∧ e = upds [(1, vclass_v), (2, (zI most)), (3, (zam (some ⟨b1, 0, none⟩))), (8, (osv ob15 0 ln15 cap15)), (9, (zO ob13 lengths11 cap13)), (11, (zI n10)), (12, (osv ob16 0 ln16 cap16)), (13, (zac some10))] u ∧ vL w w' [some b1, ob15, ob13, ob16] [zab [p_v, p_v1, p_v2, p_v3, p_v4], zab ([] ++ (cs15 ++ sp15)), zab ([] ++ (cs13 ++ sp13)), zab ([] ++ (cs16 ++ sp16))] ∧ Keep w.heap.size [some b12, some b1, ob12, ob13, ob14] w14 [some b1, ob15, ob13, ob16] w' ∧ Els rStr (vH w None [some b1, ob15, ob13, ob16] w') cs15 out12 ∧ ln15 = List.length out12 ∧ (cs15 ++ sp15).length = cap15 * rStr.sz ∧ Els rStr (vH w None [some b1, ob15, ob13, ob16] w') cs16 next10 ∧ ln16 = List.length next10 ∧ (cs16 ++ sp16).length = cap16 * rStr.sz ∧ True) ?_ ?_
   ·
    refine zbc ?_
    have hp11 := hL15.pick [1, 2, 3, 4, 0] rfl rfl rfl
    have hL16 : vL w w14 [some b1, ob12, ob13, ob14, some b12] [zab [p_v, p_v1, p_v2, p_v3, p_v4], zab ([] ++ (cs12 ++ sp12)), zab ([] ++ (cs13 ++ sp13)), zab ([] ++ (cs14 ++ sp14)), zab ([] ++ ([] ++ []))] := hp11.1
    have K16 := ks w hp11.2
    have f13 := ((hE13.mono (K15 None)).mono (K16 None))
    have f14 := ((hE16.mono (K15 None)).mono (K16 None))
    refine zbw hl11 (fun (ss : ((List (List UInt8)) × (List (List UInt8)) × Bool × Int)) (e : Env) (w' : World) => match ss with | (out13, next11, some11, i10) => ∃ (ob17 : Option Nat) (cap17 : Nat) (sp17 : List Value) (cs17 : List Value) (ln17 : Nat) (ob18 : Option Nat) (cap18 : Nat) (sp18 : List Value) (cs18 : List Value) (ln18 : Nat) (u : Env), e = upds [(1, vclass_v), (2, (zI most)), (3, (zam (some ⟨b1, 0, none⟩))), (8, (osv ob17 0 ln17 cap17)), (9, (zO ob13 lengths11 cap13)), (10, (zO ob14 front10 cap14)), (11, (zI n10)), (12, (osv ob18 0 ln18 cap18)), (13, (zac some11)), (14, (zI i10))] u ∧ vL w w' [some b1, ob17, ob13, ob14, ob18] [zab [p_v, p_v1, p_v2, p_v3, p_v4], zab ([] ++ (cs17 ++ sp17)), zab ([] ++ (cs13 ++ sp13)), zab ([] ++ (cs14 ++ sp14)), zab ([] ++ (cs18 ++ sp18))] ∧ Keep w.heap.size [some b12, some b1, ob12, ob13, ob14] w14 [some b1, ob17, ob13, ob14, ob18] w' ∧ Els rStr (vH w None [some b1, ob17, ob13, ob14, ob18] w') cs17 out13 ∧ ln17 = List.length out13 ∧ (cs17 ++ sp17).length = cap17 * rStr.sz ∧ Els rStr (vH w None [some b1, ob17, ob13, ob14, ob18] w') cs18 next11 ∧ ln18 = List.length next11 ∧ (cs18 ++ sp18).length = cap18 * rStr.sz ∧ True) ⟨ob12, cap12, sp12, cs12, out11.length, some b12, 0, [], [], (List.length ([] : (List (List UInt8)))), _, (zef ⟨rfl, rfl, rfl, rfl, rfl, rfl, rfl, rfl, rfl, rfl, trivial⟩), hL16, K16, f13, rfl, hc11, f14, rfl, (show ([] ++ [] : List Value).length = 0 * rStr.sz by simp), trivial⟩ ?_
    rintro ⟨out13, next11, some11, i10⟩ oo _ w15 ⟨ob17, cap17, sp17, cs17, ln17, ob18, cap18, sp18, cs18, ln18, u, rfl, hL17, K17, hE17, rfl, hc15, hE18, rfl, hc16, -⟩ h hd11
    rw [rWords_b2] at h
    refine zal (zal (zah rfl (zag (zae (v := (zI i10)) rfl ?_))))
    refine zag (zae (v := (zO ob14 front10 cap14)) rfl ?_)
    have f15 := ((hE15.mono (K15 None)).mono (K17 None))
    refine zag (zcj (pre := []) (r := rStr) (xs := front10) zba rfl (hL17.at 3 rfl rfl) f15 rfl rfl ?_)
    refine zag (zcg (x := i10) (y := (front10.length : Int)) ((i10 : Int) < (front10.length : Int)) rfl rfl zbi (zaq ?_))
    refine zbj ((i10 : Int) < (front10.length : Int)) rfl (fun hc17 => ?_) (fun hc17 => ?_)
    ·
     replace h := ite_t hc17 h
     refine zbl (zal (zbc (zal (zal ?_))))
     obtain ⟨x10, n11, q11, q12, q13, h⟩ := zix h
     obtain ⟨b13, hb10⟩ := hL17.row_some 3 rfl rfl (zev (pre := []) f15 q12 (Nat.lt_of_sub_eq_succ rfl))
     obtain ⟨vs10, q14, q15, q16⟩ := zeo (pre := []) (sp := sp14) f15 q12
     obtain rfl := q15
     refine zcy 6 [] [] (fun W1 => [.det (zbq #[p_v, p_v1, p_v2, p_v3, p_v4]), .det vclass_v, .det (zO ob14 front10 cap14), .det (zI i10), .det (zam (some ⟨b13, (0 + n11 * rStr.sz), none⟩)), .det (zS x10)]) mixed rfl rfl rfl (fun _ => rfl) (fun _ => rfl) ?_ ?_
     ·
      intro W1 _
      exact trivial
     intro w16 hE19
     obtain ⟨hL18, K18⟩ := zl hL17 hE19
     refine zay (fun _ hE20 => zar (zct (vs := [p_v, p_v1, p_v2, p_v3, p_v4]) zbb rfl ti26 rfl ((hL18.ext hE20).at 0 rfl rfl) rfl rfl (er rfl))) ?_
     refine zay (fun _ _ => zar (zae rfl (er rfl))) ?_
     refine zay (fun _ _ => zar (zae rfl (er rfl))) ?_
     refine zay (fun _ _ => zar (zae rfl (er rfl))) ?_
     refine zay (fun _ _ => zar (zbe (r := rStr) (b := b13) (o := 0) (n := n11) (m := front10.length) (xs := front10) (q := (0 + n11 * rStr.sz)) zba ti9 (zem hb10) rfl rfl q11 q13 rfl (er rfl))) ?_
     refine zay (fun _ hE25 => zar (zbu zax rfl rfl (zeq hb10 ((hL18.ext hE25).at 3 rfl rfl)) q16 (er rfl))) ?_
     refine zdh ?_
     rintro w23 Z25 hE26 hZ16 ⟨-⟩ ap10
     have hB10 := @zhb w16 Z25
     obtain ⟨hL21, K19⟩ := zl hL18 hE26
     obtain ⟨r10, q17, h⟩ := zee h
     have f16 := (((((((((p_h.mono (K4 S)).mono (K10 S)).mono (K11 S)).mono (K12 S)).mono (K14 S)).mono (K15 S)).mono (K17 S)).mono (K18 S)).mono (K19 S))
     have f17 := (((((((((p_h1.mono (K4 S)).mono (K10 S)).mono (K11 S)).mono (K12 S)).mono (K14 S)).mono (K15 S)).mono (K17 S)).mono (K18 S)).mono (K19 S))
     have f18 := (((((((((p_h2.mono (K4 S)).mono (K10 S)).mono (K11 S)).mono (K12 S)).mono (K14 S)).mono (K15 S)).mono (K17 S)).mono (K18 S)).mono (K19 S))
     have f19 := (((((((((p_h3.mono (K4 S)).mono (K10 S)).mono (K11 S)).mono (K12 S)).mono (K14 S)).mono (K15 S)).mono (K17 S)).mono (K18 S)).mono (K19 S))
     have f20 := (((((((((p_h4.mono (K4 S)).mono (K10 S)).mono (K11 S)).mono (K12 S)).mono (K14 S)).mono (K15 S)).mono (K17 S)).mono (K18 S)).mono (K19 S))
     have f21 := (((((((((vclass_h.mono (K4 S)).mono (K10 S)).mono (K11 S)).mono (K12 S)).mono (K14 S)).mono (K15 S)).mono (K17 S)).mono (K18 S)).mono (K19 S))
     refine zag (zbz en63 rfl rfl (rWord_w N p vclass x10 p_v p_v1 p_v2 p_v3 p_v4 vclass_v _ Any (f16.mono vw_any) (f17.mono vw_any) (f18.mono vw_any) (f19.mono vw_any) (f20.mono vw_any) (f21.mono vw_any) r10 q17) ?_)
     rintro _ w24 hE27 ⟨rfl, -⟩
     obtain ⟨hL22, K20⟩ := zl hL21 hE27
     refine zaq ?_
     obtain ⟨s12, h, g12⟩ := zee h
     refine zbs (fun e w' => ∃ (out14 : (List (List UInt8))) (some12 : Bool) (ob19 : Option Nat) (cap19 : Nat) (sp19 : List Value) (cs19 : List Value) (ln19 : Nat) (u : Env), (out14, some12) = s12 ∧ e = upds [(1, vclass_v), (2, (zI most)), (3, (zam (some ⟨b1, 0, none⟩))), (8, (osv ob19 0 ln19 cap19)), (9, (zO ob13 lengths11 cap13)), (10, (zO ob14 front10 cap14)), (11, (zI n10)), (12, (zO ob18 next11 cap18)), (13, (zac some12)), (14, (zI i10))] u ∧ vL w w' [some b1, ob19, ob13, ob14, ob18] [zab [p_v, p_v1, p_v2, p_v3, p_v4], zab ([] ++ (cs19 ++ sp19)), zab ([] ++ (cs13 ++ sp13)), zab ([] ++ (cs14 ++ sp14)), zab ([] ++ (cs18 ++ sp18))] ∧ Keep w.heap.size [some b1, ob17, ob13, ob14, ob18] w24 [some b1, ob19, ob13, ob14, ob18] w' ∧ Els rStr (vH w None [some b1, ob19, ob13, ob14, ob18] w') cs19 out14 ∧ ln19 = List.length out14 ∧ (cs19 ++ sp19).length = cap19 * rStr.sz ∧ True) ?_ ?_
     ·
      refine zch r10 rfl (fun hc18 => ?_) (fun hc18 => ?_)
      ·
       replace h := ite_t hc18 h
       refine zal (zah rfl (zag (zaj (v := zT) rfl ?_)))
       refine zaq (zal (zah rfl (zag (zae (v := (zO ob17 out13 cap17)) rfl ?_))))
       have f22 := (((hE17.mono (K18 None)).mono (K19 None)).mono (K20 None))
       refine zag (zcj (pre := []) (r := rStr) (xs := out13) zba rfl (hL22.at 1 rfl rfl) f22 rfl rfl ?_)
       refine zag (zae (v := (zI most)) rfl ?_)
       refine zag (zcg (x := (out13.length : Int)) (y := most) (((out13.length : Int) : Int) < most) rfl rfl zbi (zaq ?_))
       refine zbj (((out13.length : Int) : Int) < most) rfl (fun hc19 => ?_) (fun hc19 => ?_)
       ·
        replace h := ite_t hc19 h
        refine zah rfl (zag (zae (v := (zO ob17 out13 cap17)) rfl ?_))
        refine zag (zae (v := (zO ob14 front10 cap14)) rfl ?_)
        refine zag (zae (v := (zI i10)) rfl ?_)
        obtain ⟨x11, n12, q19, q20, q21, h⟩ := zix h
        refine zag (zbe (r := rStr) (b := b13) (o := 0) (n := n12) (m := front10.length) (xs := front10) (q := (0 + n12 * rStr.sz)) zba ti9 (zem hb10) rfl rfl q19 q21 rfl ?_)
        have f23 := (((f15.mono (K18 None)).mono (K19 None)).mono (K20 None))
        obtain ⟨vs11, q22, q23, q24⟩ := zeo (pre := []) (sp := sp14) f23 q20
        obtain rfl := q23
        refine zag (zbu (v := (zS x11)) zax rfl rfl (zeq hb10 (hL22.at 3 rfl rfl)) q24 ?_)
        have hE28 : Els rStr (vH w None [some b1, ob17, ob13, ob14, ob18] w24) [(zS x11)] [x11] := (zcp (a := [(zS x11)]) rfl zcm)
        refine zag (zcl (r := rStr) (vs := [(zS x11)]) (css := [[(zS x11)]]) (xs := [x11]) zba ti9 (zai rfl) rfl rfl ⟨rfl, rfl, trivial⟩ (zai rfl) hE28 rfl hL22 ?_)
        intro b14 w25 hc20 hL23 hS14
        have K21 := ks w hS14
        obtain ⟨x12, q25, h⟩ := zee h
        obtain ⟨q26, q27, q28⟩ := zer q25
        have f24 := (hE28.mono (K21 None))
        have f25 := (f22.mono (K21 None))
        refine zag (zcx (r := rStr) (H := (vH w None [some b14, some b1, ob17, ob13, ob14, ob18] w25)) (cs := cs17) (sp := sp17) (xs := out13) (ys := [x11]) (Y := x12) (n := out13.length) (cap := cap17) (i := 2) zba ti9 rfl rfl rfl rfl hL23 rfl rfl f25 rfl hc15 (zdw (pre := []) (o := 0) (n := 1) (cap := 1) (hL23.at 0 rfl rfl) f24 rfl rfl rfl) (zci (fun _ _ _ _ h => h) f24) q26 q27 q28 ?_)
        intro ob20 cap20 sp20 cs20 w26 hE29 hc21 (hL24 : vL w w26 [some b14, some b1, ob20, ob13, ob14, ob18] [zab ([] ++ ([(zS x11)] ++ [])), zab [p_v, p_v1, p_v2, p_v3, p_v4], zab ([] ++ (cs20 ++ sp20)), zab ([] ++ (cs13 ++ sp13)), zab ([] ++ (cs14 ++ sp14)), zab ([] ++ (cs18 ++ sp18))]) hS15
        have K22 := ks w hS15
        refine zag (zaj (v := (zO ob20 x12 cap20)) rfl (zaq ?_))
        have hp12 := hL24.pick [1, 2, 3, 4, 5] rfl rfl rfl
        have hL25 : vL w w26 [some b1, ob20, ob13, ob14, ob18] [zab [p_v, p_v1, p_v2, p_v3, p_v4], zab ([] ++ (cs20 ++ sp20)), zab ([] ++ (cs13 ++ sp13)), zab ([] ++ (cs14 ++ sp14)), zab ([] ++ (cs18 ++ sp18))] := hp12.1
        have K23 := ks w hp12.2
        have f26 := ((hE29.mono (K22 None)).mono (K23 None))
        obtain rfl := zad h
        refine zap ?_
        exact ⟨x12, true, ob20, cap20, sp20, cs20, x12.length, _, rfl, (zef ⟨rfl, rfl, rfl, rfl, rfl, rfl, rfl, rfl, rfl, rfl, trivial⟩), hL25, (zak (zak K21 K22) K23), f26, rfl, hc21, trivial⟩
       replace h := ite_f hc19 h
       refine zbl ?_
       obtain rfl := zad h
       refine zap ?_
       exact ⟨out13, true, ob17, cap17, sp17, cs17, out13.length, _, rfl, (zef ⟨rfl, rfl, rfl, rfl, rfl, rfl, rfl, rfl, rfl, rfl, trivial⟩), hL22, zbp, f22, rfl, hc15, trivial⟩
      replace h := ite_f hc18 h
      refine zbl ?_
      have f27 := (((hE17.mono (K18 None)).mono (K19 None)).mono (K20 None))
      obtain rfl := zad h
      refine zap ?_
      exact ⟨out13, some11, ob17, cap17, sp17, cs17, out13.length, _, rfl, (zef ⟨rfl, rfl, rfl, rfl, rfl, rfl, rfl, rfl, rfl, rfl, trivial⟩), hL22, zbp, f27, rfl, hc15, trivial⟩
     rintro _ w27 ⟨out14, some12, ob19, cap19, sp19, cs19, ln19, u, rfl, rfl, hL26, K24, hE30, rfl, hc22, -⟩
     replace h := g12
     try dsimp only at h
     refine zal (zah rfl (zag (zaj (v := (zI 32)) rfl (zaq ?_))))
     obtain ⟨s13, hl12, g13⟩ := zee h
     refine zbs (fun e w' => ∃ (next12 : (List (List UInt8))) (ob21 : Option Nat) (cap21 : Nat) (sp21 : List Value) (cs21 : List Value) (ln20 : Nat) (u : Env), next12 = s13 ∧ e = upds [(1, vclass_v), (2, (zI most)), (3, (zam (some ⟨b1, 0, none⟩))), (8, (zO ob19 out14 cap19)), (9, (zO ob13 lengths11 cap13)), (10, (zO ob14 front10 cap14)), (11, (zI n10)), (12, (osv ob21 0 ln20 cap21)), (13, (zac some12)), (14, (zI i10))] u ∧ vL w w' [some b1, ob19, ob13, ob14, ob21] [zab [p_v, p_v1, p_v2, p_v3, p_v4], zab ([] ++ (cs19 ++ sp19)), zab ([] ++ (cs13 ++ sp13)), zab ([] ++ (cs14 ++ sp14)), zab ([] ++ (cs21 ++ sp21))] ∧ Keep w.heap.size [some b1, ob19, ob13, ob14, ob18] w27 [some b1, ob19, ob13, ob14, ob21] w' ∧ Els rStr (vH w None [some b1, ob19, ob13, ob14, ob21] w') cs21 next12 ∧ ln20 = List.length next12 ∧ (cs21 ++ sp21).length = cap21 * rStr.sz ∧ True) ?_ ?_
     ·
      refine zbc ?_
      have f28 := ((((hE18.mono (K18 None)).mono (K19 None)).mono (K20 None)).mono (K24 None))
      refine zbw hl12 (fun (ss : ((List (List UInt8)) × Int)) (e : Env) (w' : World) => match ss with | (next13, c10) => ∃ (ob22 : Option Nat) (cap22 : Nat) (sp22 : List Value) (cs22 : List Value) (ln21 : Nat) (u : Env), e = upds [(1, vclass_v), (2, (zI most)), (3, (zam (some ⟨b1, 0, none⟩))), (8, (zO ob19 out14 cap19)), (9, (zO ob13 lengths11 cap13)), (10, (zO ob14 front10 cap14)), (11, (zI n10)), (12, (osv ob22 0 ln21 cap22)), (13, (zac some12)), (14, (zI i10)), (15, (zI c10))] u ∧ vL w w' [some b1, ob19, ob13, ob14, ob22] [zab [p_v, p_v1, p_v2, p_v3, p_v4], zab ([] ++ (cs19 ++ sp19)), zab ([] ++ (cs13 ++ sp13)), zab ([] ++ (cs14 ++ sp14)), zab ([] ++ (cs22 ++ sp22))] ∧ Keep w.heap.size [some b1, ob19, ob13, ob14, ob18] w27 [some b1, ob19, ob13, ob14, ob22] w' ∧ Els rStr (vH w None [some b1, ob19, ob13, ob14, ob22] w') cs22 next13 ∧ ln21 = List.length next13 ∧ (cs22 ++ sp22).length = cap22 * rStr.sz ∧ True) ⟨ob18, cap18, sp18, cs18, next11.length, _, (zef ⟨rfl, rfl, rfl, rfl, rfl, rfl, rfl, rfl, rfl, rfl, rfl, trivial⟩), hL26, zbp, f28, rfl, hc16, trivial⟩ ?_
      rintro ⟨next13, c10⟩ oo _ w28 ⟨ob22, cap22, sp22, cs22, ln21, u, rfl, hL27, K25, hE31, rfl, hc23, -⟩ h hd12
      rw [rWords_b3] at h
      refine zal (zal ?_)
      obtain ⟨s14, h, g14⟩ := zee h
      refine zbs (fun e w' => ∃ (x13 : Bool) (u : Env), x13 = s14 ∧ e = upds [(1, vclass_v), (2, (zI most)), (3, (zam (some ⟨b1, 0, none⟩))), (8, (zO ob19 out14 cap19)), (9, (zO ob13 lengths11 cap13)), (10, (zO ob14 front10 cap14)), (11, (zI n10)), (12, (zO ob22 next13 cap22)), (13, (zac some12)), (14, (zI i10)), (15, (zI c10)), (53, (zac x13))] u ∧ vL w w' [some b1, ob19, ob13, ob14, ob22] [zab [p_v, p_v1, p_v2, p_v3, p_v4], zab ([] ++ (cs19 ++ sp19)), zab ([] ++ (cs13 ++ sp13)), zab ([] ++ (cs14 ++ sp14)), zab ([] ++ (cs22 ++ sp22))] ∧ Keep w.heap.size [some b1, ob19, ob13, ob14, ob22] w28 [some b1, ob19, ob13, ob14, ob22] w' ∧ True) ?_ ?_
      ·
       refine zah rfl (zag (zae (v := (zI c10)) rfl ?_))
       refine zag (zea (x := c10) (y := 126) ((c10 : Int) ≤ 126) rfl rfl zbi ?_)
       refine zag (zae (v := (zac (decide ((c10 : Int) ≤ 126)))) rfl ?_)
       by_cases hc24 : (c10 : Int) ≤ 126
       ·
        replace h := ite_t hc24 h
        refine zaz rfl rfl (zed hc24) (zae (v := (zI n10)) rfl ?_)
        refine zaz rfl rfl (zed hc24) (zcg (x := n10) (y := 2) ((n10 : Int) < 2) rfl rfl zbi ?_)
        refine zag (zbn (t := (decide ((c10 : Int) ≤ 126))) (v := (zac (decide ((n10 : Int) < 2)))) rfl (zed hc24) rfl (zaq ?_))
        obtain rfl := zad h
        refine zap ?_
        exact ⟨(decide ((n10 : Int) < 2)), _, rfl, (zef ⟨rfl, rfl, rfl, rfl, rfl, rfl, rfl, rfl, rfl, rfl, rfl, rfl, trivial⟩), hL27, zbp, trivial⟩
       replace h := ite_f hc24 h
       refine zbg rfl rfl (zec hc24) (zbg rfl rfl (zec hc24) ?_)
       refine zag (zbh (t := (decide ((c10 : Int) ≤ 126))) (v := zF) rfl (zec hc24) rfl (zaq ?_))
       obtain rfl := zad h
       refine zap ?_
       exact ⟨false, _, rfl, (zef ⟨rfl, rfl, rfl, rfl, rfl, rfl, rfl, rfl, rfl, rfl, rfl, rfl, trivial⟩), hL27, zbp, trivial⟩
      rintro _ w29 ⟨x13, u, rfl, rfl, hL28, K26, -⟩
      replace h := g14
      try dsimp only at h
      refine zch x13 rfl (fun hc25 => ?_) (fun hc25 => ?_)
      ·
       replace h := ite_t hc25 h
       refine zbl (zal (zbc ?_))
       obtain ⟨x14, n13, q30, q31, q32, h⟩ := zix h
       have f29 := ((((((f15.mono (K18 None)).mono (K19 None)).mono (K20 None)).mono (K24 None)).mono (K25 None)).mono (K26 None))
       obtain ⟨b15, hb11⟩ := hL28.row_some 3 rfl rfl (zev (pre := []) f29 q31 (Nat.lt_of_sub_eq_succ rfl))
       obtain ⟨vs12, q33, q34, q35⟩ := zeo (pre := []) (sp := sp14) f29 q31
       obtain rfl := q34
       obtain ⟨u10, q36, h⟩ := zee h
       have q37 := chk_some q36
       refine zcy 11 [] [] (fun W1 => [.det (zO ob22 next13 cap22), .det (zO ob14 front10 cap14), .det (zI i10), .det (zam (some ⟨b15, (0 + n13 * rStr.sz), none⟩)), .det (zS x14), .det (zI c10), .det (zaa .u8 (uw8 c10)), .rel (fun v Z w' => ∃ b16 cs23, (osv (some b16) 0 1 1) = v ∧ OwnC w' (some b16) (zab ([] ++ (cs23 ++ []))) ∧ Els (rInt .u8) (vZ W1 w None [some b1, ob19, ob13, ob14, ob22] Z w') cs23 [(uw8 c10)] ∧ (cs23 ++ [] : List Value).length = 1 * (rInt .u8).sz ∧ True) footV, .det (zaf (s8 (bstr [(uw8 c10)]))), .det (zaf (s8 (x14 ++ (bstr [(uw8 c10)])))), .rel (fun v Z w' => ∃ b17 cs24, (osv (some b17) 0 1 1) = v ∧ OwnC w' (some b17) (zab ([] ++ (cs24 ++ []))) ∧ Els rStr (vZ W1 w None [some b1, ob19, ob13, ob14, ob22] Z w') cs24 [(x14 ++ (bstr [(uw8 c10)]))] ∧ (cs24 ++ [] : List Value).length = 1 * rStr.sz ∧ True) footV]) mixed rfl rfl rfl (fun _ => rfl) (fun _ => rfl) ?_ ?_
       ·
        intro W1 _
        exact ⟨fun v Z Z' w w' hΦ hz _ _ hs => by obtain ⟨b16, cs23, rfl, hO10, hE32, hc26, -⟩ := hΦ; exact ⟨b16, cs23, rfl, (hO10.stay (fun b hb => by cases hb; exact zbm) hs), (hE32.mono (zdv hz hs)), hc26, trivial⟩, ⟨fun v Z Z' w w' hΦ hz _ _ hs => by obtain ⟨b17, cs24, rfl, hO11, hE33, hc27, -⟩ := hΦ; exact ⟨b17, cs24, rfl, (hO11.stay (fun b hb => by cases hb; exact zbm) hs), (hE33.mono (zdv hz hs)), hc27, trivial⟩, trivial⟩⟩
       intro w30 hE34
       obtain ⟨hL29, K27⟩ := zl hL28 hE34
       refine zay (fun _ _ => zar (zae rfl (er rfl))) ?_
       refine zay (fun _ _ => zar (zae rfl (er rfl))) ?_
       refine zay (fun _ _ => zar (zae rfl (er rfl))) ?_
       refine zay (fun _ _ => zar (zbe (r := rStr) (b := b15) (o := 0) (n := n13) (m := front10.length) (xs := front10) (q := (0 + n13 * rStr.sz)) zba ti9 (zem hb11) rfl rfl q30 q32 rfl (er rfl))) ?_
       refine zay (fun _ hE39 => zar (zbu zax rfl rfl (zeq hb11 ((hL29.ext hE39).at 3 rfl rfl)) q35 (er rfl))) ?_
       refine zay (fun _ _ => zar (zae rfl (er rfl))) ?_
       refine zay (fun _ _ => zar (zdq zaw zcu rfl rfl (er rfl))) ?_
       refine zeb ?_ ?_
       ·
        rintro w38 Z33 hE42 hZ24 ⟨-⟩
        have hE43 : Els (rInt .u8) (vZ w30 w None [some b1, ob19, ob13, ob14, ob22] Z33 w38) [(zaa .u8 (uw8 c10))] [(uw8 c10)] := (zcp (a := [(zaa .u8 (uw8 c10))]) rfl zcm)
        refine zar (zcl (r := (rInt .u8)) (vs := [(zaa .u8 (uw8 c10))]) (css := [[(zaa .u8 (uw8 c10))]]) (xs := [(uw8 c10)]) zcb ti5 (zai rfl) rfl rfl ⟨rfl, rfl, trivial⟩ (zai rfl) hE43 rfl (Go.X.Loc.begin0 w38) ?_)
        intro b16 w39 hc28 hL31 hS16
        have hN10 : NewOwn w38 w39 [some b16] [zab ([] ++ ([(zaa .u8 (uw8 c10))] ++ []))] := hL31.newOwn [0] rfl rfl rfl
        exact Made.ext hL31.done hZ24 hN10 (fun _ h => h) ⟨b16, [(zaa .u8 (uw8 c10))], rfl, hN10.2.2.1, (hE43.mono (Zv.grow hL31.done)), hc28, trivial⟩
       intro z7
       refine DrH.det ?_ ?_
       ·
        rintro w40 Z34 hE44 hZ25 ⟨⟨⟨b16, cs23, rfl, hO10, hE32, hc26, -⟩, hB7⟩, -⟩
        refine zar (OpY.strRow (pre := []) (cs := cs23) (sp := []) (xs := [(uw8 c10)]) zcb zax zcu rfl hO10 hE32 rfl ?_)
        exact ⟨Ext.refl _, rfl⟩
       refine zay (fun _ _ => zar (OpY.sAdd (x := x14) (y := (bstr [(uw8 c10)])) rfl rfl q37 (er rfl))) ?_
       refine zeb ?_ ?_
       ·
        rintro w42 Z36 hE46 hZ27 ⟨-, -⟩
        have hE47 : Els rStr (vZ w30 w None [some b1, ob19, ob13, ob14, ob22] Z36 w42) [(zaf (s8 (x14 ++ (bstr [(uw8 c10)]))))] [(x14 ++ (bstr [(uw8 c10)]))] := (zcp (a := [(zaf (s8 (x14 ++ (bstr [(uw8 c10)]))))]) rfl zcm)
        refine zar (zcl (r := rStr) (vs := [(zaf (s8 (x14 ++ (bstr [(uw8 c10)]))))]) (css := [[(zaf (s8 (x14 ++ (bstr [(uw8 c10)]))))]]) (xs := [(x14 ++ (bstr [(uw8 c10)]))]) zba ti9 (zai rfl) rfl rfl ⟨rfl, rfl, trivial⟩ (zai rfl) hE47 rfl (Go.X.Loc.begin0 w42) ?_)
        intro b17 w43 hc29 hL32 hS17
        have hN11 : NewOwn w42 w43 [some b17] [zab ([] ++ ([(zaf (s8 (x14 ++ (bstr [(uw8 c10)]))))] ++ []))] := hL32.newOwn [0] rfl rfl rfl
        exact Made.ext hL32.done hZ27 hN11 (fun _ h => h) ⟨b17, [(zaf (s8 (x14 ++ (bstr [(uw8 c10)]))))], rfl, hN11.2.2.1, (hE47.mono (Zv.grow hL32.done)), hc29, trivial⟩
       intro z10
       refine zdh ?_
       rintro w44 Z37 hE48 hZ28 ⟨⟨⟨b17, cs24, rfl, hO11, hE33, hc27, -⟩, hB11⟩, ⟨⟨b16, cs23, rfl, hO10, hE32, hc26, -⟩, hB7⟩, -⟩ ap11
       have hB12 : ∀ b, some b ∈ ([some b17, some b16] : List (Option Nat)) → w30.heap.size ≤ b ∧ ¬ Z37 b := by
        intro b hb
        rcases List.mem_cons.1 hb with hb' | hb
        ·
         have := hB11 b (by rw [hb']; exact zbm); exact ⟨this.1, this.2.2⟩
        rcases List.mem_cons.1 hb with hb' | hb
        ·
         have := hB7 b (by rw [hb']; exact zbm); exact ⟨this.1, this.2.2⟩
        cases hb
       replace hE33 := hE33.mono (Zv.fin hL29 hZ28 hB12)
       replace hE32 := hE32.mono (Zv.fin hL29 hZ28 hB12)
       have hN12 : NewOwn w30 w44 [some b17, some b16] [zab ([] ++ (cs24 ++ [])), zab ([] ++ (cs23 ++ []))] := (zdz (zdz NewOwn.nil hO10 (fun b hb => (hB12 b (by rw [← hb]; simp)).1) (fun b _ hb => by cases hb)) hO11 (fun b hb => (hB12 b (by rw [← hb]; simp)).1) (fun b hb hm => (List.mem_cons.1 hm).elim (fun e => apE (ap11.1) rfl rfl b ((zek (ob := (some b17)) (o := 0) (n := 1) (cap := 1)).2 hb) ((zek (ob := (some b16)) (o := 0) (n := 1) (cap := 1)).2 (by rw [e]; exact zbm))) (fun hm => by cases hm)))
       have hp13 := hL29.adoptL hE48 hN12
       have hL33 := hp13.1
       have K28 := ks w hp13.2
       obtain ⟨x15, q38, h⟩ := zee h
       obtain ⟨q39, q40, q41⟩ := zer q38
       have f30 := (((hE31.mono (K26 None)).mono (K27 None)).mono (K28 None))
       refine zag (zcx (r := rStr) (H := (vH w None [some b17, some b16, some b1, ob19, ob13, ob14, ob22] w44)) (cs := cs22) (sp := sp22) (xs := next13) (ys := [(x14 ++ (bstr [(uw8 c10)]))]) (Y := x15) (n := next13.length) (cap := cap22) (i := 6) zba ti9 rfl rfl rfl rfl hL33 rfl rfl f30 rfl hc23 (zdw (pre := []) (o := 0) (n := 1) (cap := 1) (hL33.at 0 rfl rfl) hE33 rfl rfl rfl) (zci (fun _ _ _ _ h => h) hE33) q39 q40 q41 ?_)
       intro ob23 cap23 sp23 cs25 w45 hE49 hc30 (hL34 : vL w w45 [some b17, some b16, some b1, ob19, ob13, ob14, ob23] [zab ([] ++ (cs24 ++ [])), zab ([] ++ (cs23 ++ [])), zab [p_v, p_v1, p_v2, p_v3, p_v4], zab ([] ++ (cs19 ++ sp19)), zab ([] ++ (cs13 ++ sp13)), zab ([] ++ (cs14 ++ sp14)), zab ([] ++ (cs25 ++ sp23))]) hS18
       have K29 := ks w hS18
       refine zag (zaj (v := (zO ob23 x15 cap23)) rfl ?_)
       refine zaq (zbf (zah rfl (zag (zae (v := (zI c10)) rfl ?_))))
       refine zag (zbx (x := c10) (y := 1) (z := (iw (c10 + 1))) rfl rfl rfl ?_)
       refine zag (zaj (v := (zI (iw (c10 + 1)))) rfl (zaq ?_))
       have hp14 := hL34.pick [2, 3, 4, 5, 6] rfl rfl rfl
       have hL35 : vL w w45 [some b1, ob19, ob13, ob14, ob23] [zab [p_v, p_v1, p_v2, p_v3, p_v4], zab ([] ++ (cs19 ++ sp19)), zab ([] ++ (cs13 ++ sp13)), zab ([] ++ (cs14 ++ sp14)), zab ([] ++ (cs25 ++ sp23))] := hp14.1
       have K30 := ks w hp14.2
       have f31 := ((hE49.mono (K29 None)).mono (K30 None))
       obtain rfl := zad h
       refine zap ⟨(x15, (iw (c10 + 1))), rfl, ?_⟩
       exact ⟨ob23, cap23, sp23, cs25, x15.length, _, (zef ⟨rfl, rfl, rfl, rfl, rfl, rfl, rfl, rfl, rfl, rfl, rfl, trivial⟩), hL35, (zak (zak (zak (zak (zak K25 K26) K27) K28) K29) K30), f31, rfl, hc30, trivial⟩
      replace h := ite_f hc25 h
      refine zca rfl ?_
      have f32 := (hE31.mono (K26 None))
      obtain rfl := zad h
      obtain rfl := hd12 _ rfl
      replace h := g13
      try dsimp only at h
      refine zap ?_
      exact ⟨next13, ob22, cap22, sp22, cs22, next13.length, _, rfl, (zef ⟨rfl, rfl, rfl, rfl, rfl, rfl, rfl, rfl, rfl, rfl, trivial⟩), hL28, (zak K25 K26), f32, rfl, hc23, trivial⟩
     rintro _ w46 ⟨next12, ob21, cap21, sp21, cs21, ln20, u, rfl, rfl, hL36, K31, hE50, rfl, hc31, -⟩
     replace h := g13
     try dsimp only at h
     refine zbf (zah rfl (zag (zae (v := (zI i10)) rfl ?_)))
     refine zag (zbx (x := i10) (y := 1) (z := (iw (i10 + 1))) rfl rfl rfl ?_)
     refine zag (zaj (v := (zI (iw (i10 + 1)))) rfl (zaq ?_))
     have f33 := (hE30.mono (K31 None))
     obtain rfl := zad h
     refine zap ⟨(out14, next12, some12, (iw (i10 + 1))), rfl, ?_⟩
     exact ⟨ob19, cap19, sp19, cs19, out14.length, ob21, cap21, sp21, cs21, next12.length, _, (zef ⟨rfl, rfl, rfl, rfl, rfl, rfl, rfl, rfl, rfl, rfl, trivial⟩), hL36, (zak (zak (zak (zak (zak K17 K18) K19) K20) K24) K31), f33, rfl, hc22, hE50, rfl, hc31, trivial⟩
    replace h := ite_f hc17 h
    refine zca rfl ?_
    have hp15 := hL17.pick [0, 1, 2, 4] rfl rfl rfl
    have hL37 : vL w w15 [some b1, ob17, ob13, ob18] [zab [p_v, p_v1, p_v2, p_v3, p_v4], zab ([] ++ (cs17 ++ sp17)), zab ([] ++ (cs13 ++ sp13)), zab ([] ++ (cs18 ++ sp18))] := hp15.1
    have K32 := ks w hp15.2
    have f34 := (hE17.mono (K32 None))
    have f35 := (hE18.mono (K32 None))
    obtain rfl := zad h
    obtain rfl := hd11 _ rfl
    replace h := g11
    try dsimp only at h
    refine zap ?_
    exact ⟨out13, next11, some11, ob17, cap17, sp17, cs17, out13.length, ob18, cap18, sp18, cs18, next11.length, _, rfl, (zef ⟨rfl, rfl, rfl, rfl, rfl, rfl, rfl, rfl, trivial⟩), hL37, (zak K17 K32), f34, rfl, hc15, f35, rfl, hc16, trivial⟩
   rintro _ w47 ⟨out12, next10, some10, ob15, cap15, sp15, cs15, ln15, ob16, cap16, sp16, cs16, ln16, u, rfl, rfl, hL38, K33, hE51, rfl, hc32, hE52, rfl, hc33, -⟩
   replace h := g11
   try dsimp only at h
   refine zal (zal (zah rfl (zag (zae (v := (zac some10)) rfl (zaq ?_)))))
   refine zch some10 rfl (fun hc34 => ?_) (fun hc34 => ?_)
   ·
    replace h := ite_t hc34 h
    refine zah rfl (zag (zae (v := (zO ob13 lengths11 cap13)) rfl ?_))
    refine zag (zae (v := (zI n10)) rfl ?_)
    have hE53 : Els rI (vH w None [some b1, ob15, ob13, ob16] w47) [(zI n10)] [n10] := (zcp (a := [(zI n10)]) rfl zcm)
    refine zag (zcl (r := rI) (vs := [(zI n10)]) (css := [[(zI n10)]]) (xs := [n10]) zao ti3 (zai rfl) rfl rfl ⟨rfl, rfl, trivial⟩ (zai rfl) hE53 rfl hL38 ?_)
    intro b18 w48 hc35 hL39 hS19
    have K34 := ks w hS19
    obtain ⟨x16, q42, h⟩ := zee h
    obtain ⟨q43, q44, q45⟩ := zer q42
    have f36 := (hE53.mono (K34 None))
    have f37 := (((hE14.mono (K15 None)).mono (K33 None)).mono (K34 None))
    refine zag (zcx (r := rI) (H := (vH w None [some b18, some b1, ob15, ob13, ob16] w48)) (cs := cs13) (sp := sp13) (xs := lengths11) (ys := [n10]) (Y := x16) (n := lengths11.length) (cap := cap13) (i := 3) zao ti3 rfl rfl rfl rfl hL39 rfl rfl f37 rfl hc12 (zdw (pre := []) (o := 0) (n := 1) (cap := 1) (hL39.at 0 rfl rfl) f36 rfl rfl rfl) (zci (fun _ _ _ _ h => h) f36) q43 q44 q45 ?_)
    intro ob24 cap24 sp24 cs26 w49 hE54 hc36 (hL40 : vL w w49 [some b18, some b1, ob15, ob24, ob16] [zab ([] ++ ([(zI n10)] ++ [])), zab [p_v, p_v1, p_v2, p_v3, p_v4], zab ([] ++ (cs15 ++ sp15)), zab ([] ++ (cs26 ++ sp24)), zab ([] ++ (cs16 ++ sp16))]) hS20
    have K35 := ks w hS20
    refine zag (zaj (v := (zO ob24 x16 cap24)) rfl ?_)
    refine zaq (zah rfl (zag (zae (v := (zO ob16 next10 cap16)) rfl ?_)))
    refine zag (zaj (v := (zO ob16 next10 cap16)) rfl ?_)
    refine zaq (zbf (zah rfl (zag (zae (v := (zI n10)) rfl ?_))))
    refine zag (zbx (x := n10) (y := 1) (z := (iw (n10 + 1))) rfl rfl rfl ?_)
    refine zag (zaj (v := (zI (iw (n10 + 1)))) rfl (zaq ?_))
    have hp16 := hL40.pick [1, 2, 3, 4] rfl rfl rfl
    have hL41 : vL w w49 [some b1, ob15, ob24, ob16] [zab [p_v, p_v1, p_v2, p_v3, p_v4], zab ([] ++ (cs15 ++ sp15)), zab ([] ++ (cs26 ++ sp24)), zab ([] ++ (cs16 ++ sp16))] := hp16.1
    have K36 := ks w hp16.2
    have f38 := (((hE51.mono (K34 None)).mono (K35 None)).mono (K36 None))
    have f39 := ((hE54.mono (K35 None)).mono (K36 None))
    have f40 := (((hE52.mono (K34 None)).mono (K35 None)).mono (K36 None))
    obtain rfl := zad h
    refine zap ⟨(out12, x16, next10, (iw (n10 + 1))), rfl, ?_⟩
    exact ⟨ob15, cap15, sp15, cs15, out12.length, ob24, cap24, sp24, cs26, x16.length, ob16, cap16, sp16, cs16, next10.length, _, (zef ⟨rfl, rfl, rfl, rfl, rfl, rfl, rfl, trivial⟩), hL41, (zak (zak (zak (zak (zak K14 K15) K33) K34) K35) K36), f38, rfl, hc32, f39, rfl, hc36, f40, rfl, hc33, trivial⟩
   replace h := ite_f hc34 h
   refine zbl (zah rfl (zag (zae (v := (zO ob16 next10 cap16)) rfl ?_)))
   refine zag (zaj (v := (zO ob16 next10 cap16)) rfl ?_)
   refine zaq (zbf (zah rfl (zag (zae (v := (zI n10)) rfl ?_))))
   refine zag (zbx (x := n10) (y := 1) (z := (iw (n10 + 1))) rfl rfl rfl ?_)
   refine zag (zaj (v := (zI (iw (n10 + 1)))) rfl (zaq ?_))
   have f41 := ((hE14.mono (K15 None)).mono (K33 None))
   obtain rfl := zad h
   refine zap ⟨(out12, lengths11, next10, (iw (n10 + 1))), rfl, ?_⟩
   exact ⟨ob15, cap15, sp15, cs15, out12.length, ob13, cap13, sp13, cs13, lengths11.length, ob16, cap16, sp16, cs16, next10.length, _, (zef ⟨rfl, rfl, rfl, rfl, rfl, rfl, rfl, trivial⟩), hL38, (zak (zak K14 K15) K33), hE51, rfl, hc32, f41, rfl, hc12, hE52, rfl, hc33, trivial⟩
  replace h := ite_f hc14 h
  refine zca rfl ?_
  have hp17 := hL14.pick [1, 2] rfl rfl rfl
  have hL42 : vL w w13 [ob12, ob13] [zab ([] ++ (cs12 ++ sp12)), zab ([] ++ (cs13 ++ sp13))] := hp17.1
  have K37 := ks w hp17.2
  have f42 := (hE13.mono (K37 None))
  have f43 := (hE14.mono (K37 None))
  obtain rfl := zad h
  obtain rfl := hd10 _ rfl
  replace h := g10
  try dsimp only at h
  refine zap ?_
  exact ⟨out11, lengths11, ob12, cap12, sp12, cs12, out11.length, ob13, cap13, sp13, cs13, lengths11.length, _, rfl, (zef ⟨rfl, rfl, trivial⟩), hL42, (zak K14 K37), f42, rfl, hc11, f43, rfl, hc12, trivial⟩
 rintro _ w50 ⟨out10, lengths10, ob10, cap10, sp10, cs10, ln10, ob11, cap11, sp11, cs11, ln11, u, rfl, rfl, hL43, K38, hE55, rfl, hc37, hE56, rfl, hc38, -⟩
 replace h := g10
 try dsimp only at h
 refine zal (zah rfl (zag (zae (v := (zO ob10 out10 cap10)) rfl ?_)))
 refine zag (zae (v := (zO ob11 lengths10 cap11)) rfl ?_)
 refine zag (zaj (v := (zO ob10 out10 cap10)) rfl ?_)
 refine zag (zaj (v := (zO ob11 lengths10 cap11)) rfl (zaq ?_))
 have f44 := hL43.freezeRow 0 rfl rfl hE55 rfl rfl rfl hc37
 have hp18 := hL43.pick [1] rfl rfl rfl
 have hL44 : vL w w50 [ob11] [zab ([] ++ (cs11 ++ sp11))] := hp18.1
 have K39 := ks w hp18.2
 have f45 := (hE56.mono (K39 None))
 have f46 := hL44.freezeRow 0 rfl rfl f45 rfl rfl rfl hc38
 have hp19 := hL44.pick [] rfl rfl rfl
 have hL45 : vL w w50 [] [] := hp19.1
 have K40 := ks w hp19.2
 refine zbt ?_
 obtain rfl := zad h
 refine ⟨[(zO ob10 out10 cap10), (zO ob11 lengths10 cap11)], ⟨rfl, rfl, trivial⟩, ⟨_, rfl, hL45.done, ?_⟩⟩
 have f47 := (f44.mono (K40 None))
 exact ⟨(zO ob10 out10 cap10), (zO ob11 lengths10 cap11), rfl, (f47.mono Hv.out), (f46.mono Hv.out), trivial⟩
theorem rLengths_w (N : Nat) (p : TProb) (pb : Int) (p_v : Value) (p_v1 : Value) (p_v2 : Value) (p_v3 : Value) (p_v4 : Value) (w : World) (S : Nat → Prop) (p_h : Rs rI (vH w S [] w) p_v p.Min) (p_h1 : Rs rI (vH w S [] w) p_v1 p.Max) (p_h2 : Rs rTTest (vH w S [] w) p_v2 p.Tests) (p_h3 : Rs rArr2Int (vH w S [] w) p_v3 p.Same) (p_h4 : Rs rArr2Int (vH w S [] w) p_v4 p.Different) (r : (List Int)) (h : rLengths N p pb = some r) :
  Calls Try.prog 23 #[(zbq #[p_v, p_v1, p_v2, p_v3, p_v4]), (zI pb)] w (Ret w (fun v w' => ∃ (v0_0 : Value), v0_0 = v ∧ Rs rI (vH w None [] w') v0_0 r ∧ True)) := by
 unfold rLengths at h
 have hL : vL w w [] [] := Go.X.Loc.begin0 w
 refine calls_of (l := [(zbq #[p_v, p_v1, p_v2, p_v3, p_v4]), (zI pb)]) (rl := [.tmp 4]) (n := 46) Try.func23 rfl rfl rfl (zai rfl) ?_
 refine zal (zah rfl (zag (zdp (cs := [p_v, p_v1, p_v2, p_v3, p_v4]) rfl rfl hL ?_)))
 intro b1 w2 hL3 hS5
 have K4 := ks w hS5
 refine zag (zaj (v := zN) rfl ?_)
 refine zaq (zal (zah rfl (zag (zct (vs := [p_v, p_v1, p_v2, p_v3, p_v4]) zbb rfl ti26 rfl (hL3.at 0 rfl rfl) rfl rfl ?_))))
 obtain ⟨r6, q7, h⟩ := zee h
 have f10 := (p_h.mono (K4 S))
 have f11 := (p_h1.mono (K4 S))
 have f12 := (p_h2.mono (K4 S))
 have f13 := (p_h3.mono (K4 S))
 have f14 := (p_h4.mono (K4 S))
 refine zag (zbz en21 rfl rfl (rClasses_w N p p_v p_v1 p_v2 p_v3 p_v4 _ Any (f10.mono vw_any) (f11.mono vw_any) (f12.mono vw_any) (f13.mono vw_any) (f14.mono vw_any) r6 q7) ?_)
 rintro _ w10 hE10 ⟨ob8, cap9, cs10, sp10, rfl, hN10, hE11, hc10, -⟩
 replace hE11 := hE11.mono (zbv (S := None) hL3 [ob8])
 have hp10 := hL3.adoptL hE10 hN10
 have hL10 := hp10.1
 have K10 := ks w hp10.2
 refine zag (zaj (v := (zO ob8 r6 cap9)) rfl ?_)
 refine zaq (zal (zal (zah rfl (zag (zaj (v := (zI 0)) rfl (zaq ?_))))))
 obtain ⟨s10, hl10, g10⟩ := zee h
 refine zbs (fun e w' => ∃  (u : Env), (Sum.inl ()) = s10 ∧ e = upds [] u ∧ vL w w' [] [] ∧ Keep w.heap.size [ob8, some b1] w10 [] w' ∧ True) ?_ ?_
 ·
  refine zbc ?_
  have hp11 := hL10.pick [1, 0] rfl rfl rfl
  have hL11 : vL w w10 [some b1, ob8] [zab [p_v, p_v1, p_v2, p_v3, p_v4], zab ([] ++ (cs10 ++ sp10))] := hp11.1
  have K11 := ks w hp11.2
  refine zbw hl10 (fun (ss : Int) (e : Env) (w' : World) => match ss with | i10 => ∃ (u : Env), e = upds [(1, (zI pb)), (2, (zam (some ⟨b1, 0, none⟩))), (5, (zO ob8 r6 cap9)), (6, (zI i10))] u ∧ vL w w' [some b1, ob8] [zab [p_v, p_v1, p_v2, p_v3, p_v4], zab ([] ++ (cs10 ++ sp10))] ∧ Keep w.heap.size [ob8, some b1] w10 [some b1, ob8] w' ∧ True) ⟨_, (zef ⟨rfl, rfl, rfl, rfl, trivial⟩), hL11, K11, trivial⟩ ?_
  rintro i10 oo _ w11 ⟨u, rfl, hL12, K12, -⟩ h hd10
  rw [rLengths_b1] at h
  refine zal (zal (zah rfl (zag (zae (v := (zI i10)) rfl ?_))))
  refine zag (zae (v := (zO ob8 r6 cap9)) rfl ?_)
  have f15 := (hE11.mono (K12 None))
  refine zag (zcj (pre := []) (r := (rSl rI)) (xs := r6) zdb rfl (hL12.at 1 rfl rfl) f15 rfl rfl ?_)
  refine zag (zcg (x := i10) (y := (r6.length : Int)) ((i10 : Int) < (r6.length : Int)) rfl rfl zbi (zaq ?_))
  refine zbj ((i10 : Int) < (r6.length : Int)) rfl (fun hc11 => ?_) (fun hc11 => ?_)
  ·
   replace h := ite_t hc11 h
   refine zbl (zal (zbc (zal (zah rfl (zag (zaj (v := (zI 0)) rfl (zaq ?_)))))))
   obtain ⟨s11, hl11, g11⟩ := zee h
   refine zbs (fun e w' => ∃  (u : Env), (Sum.inl ()) = s11 ∧ e = upds [(1, (zI pb)), (2, (zam (some ⟨b1, 0, none⟩))), (5, (zO ob8 r6 cap9)), (6, (zI i10))] u ∧ vL w w' [some b1, ob8] [zab [p_v, p_v1, p_v2, p_v3, p_v4], zab ([] ++ (cs10 ++ sp10))] ∧ Keep w.heap.size [some b1, ob8] w11 [some b1, ob8] w' ∧ True) ?_ ?_
   ·
    refine zbc ?_
    refine zbw hl11 (fun (ss : Int) (e : Env) (w' : World) => match ss with | k10 => ∃ (u : Env), e = upds [(1, (zI pb)), (2, (zam (some ⟨b1, 0, none⟩))), (5, (zO ob8 r6 cap9)), (6, (zI i10)), (7, (zI k10))] u ∧ vL w w' [some b1, ob8] [zab [p_v, p_v1, p_v2, p_v3, p_v4], zab ([] ++ (cs10 ++ sp10))] ∧ Keep w.heap.size [some b1, ob8] w11 [some b1, ob8] w' ∧ True) ⟨_, (zef ⟨rfl, rfl, rfl, rfl, rfl, trivial⟩), hL12, zbp, trivial⟩ ?_
    rintro k10 oo _ w12 ⟨u, rfl, hL13, K13, -⟩ h hd11
    rw [rLengths_b2] at h
    refine zal (zal (zah rfl (zag (zae (v := (zI k10)) rfl ?_))))
    refine zag (zae (v := (zO ob8 r6 cap9)) rfl ?_)
    refine zag (zae (v := (zI i10)) rfl ?_)
    obtain ⟨x10, n10, q11, q12, q13, h⟩ := zix h
    have f16 := (f15.mono (K13 None))
    obtain ⟨b10, hb10⟩ := hL13.row_some 1 rfl rfl (zev (pre := []) f16 q12 (Nat.lt_of_sub_eq_succ rfl))
    refine zag (zbe (r := (rSl rI)) (b := b10) (o := 0) (n := n10) (m := r6.length) (xs := r6) (q := (0 + n10 * (rSl rI).sz)) zdb ti22 (zem hb10) rfl rfl q11 q13 rfl ?_)
    obtain ⟨vs10, q14, q15, q16⟩ := zeo (pre := []) (sp := sp10) f16 q12
    obtain ⟨v10, rfl, k11⟩ := q15
    refine zag (zbu (v := v10) zao rfl rfl (zeq hb10 (hL13.at 1 rfl rfl)) q16 ?_)
    refine zag (zcf (v := v10) zao rfl k11 ?_)
    refine zag (zcg (x := k10) (y := (x10.length : Int)) ((k10 : Int) < (x10.length : Int)) rfl rfl zbi (zaq ?_))
    refine zbj ((k10 : Int) < (x10.length : Int)) rfl (fun hc12 => ?_) (fun hc12 => ?_)
    ·
     replace h := ite_t hc12 h
     refine zbl (zal (zbc (zal (zah rfl (zag (zae (v := (zO ob8 r6 cap9)) rfl ?_))))))
     refine zag (zae (v := (zI i10)) rfl ?_)
     obtain ⟨x11, n11, q18, q19, q20, h⟩ := zix h
     refine zag (zbe (r := (rSl rI)) (b := b10) (o := 0) (n := n11) (m := r6.length) (xs := r6) (q := (0 + n11 * (rSl rI).sz)) zdb ti22 (zem hb10) rfl rfl q18 q20 rfl ?_)
     obtain ⟨vs11, q21, q22, q23⟩ := zeo (pre := []) (sp := sp10) f16 q19
     obtain ⟨v11, rfl, k12⟩ := q22
     refine zag (zbu (v := v11) zao rfl rfl (zeq hb10 (hL13.at 1 rfl rfl)) q23 ?_)
     refine zag (zae (v := (zI k10)) rfl ?_)
     obtain ⟨x12, n12, q25, q26, -, h⟩ := zix h
     obtain ⟨b11, o10, c10, vs12, q27, q28, f17, q29⟩ := zdc k12 q26
     obtain rfl := q29
     refine zag (zby (r := rI) (v := v11) (n := n12) (m := (o10 + n12 * rI.sz)) zao ti3 rfl q27 rfl q25 q26 rfl ?_)
     refine zag (zce (v := (zI x12)) zaw rfl rfl zel f17 ?_)
     refine zag (zae (v := (zI pb)) rfl ?_)
     refine zag (zcv (x := x12) (y := pb) ((x12 : Int) = pb) rfl rfl zbi (zaq ?_))
     refine zbj ((x12 : Int) = pb) rfl (fun hc13 => ?_) (fun hc13 => ?_)
     ·
      replace h := ite_t hc13 h
      refine zal ?_
      obtain ⟨x13, n13, q31, q32, q33, h⟩ := zix h
      obtain ⟨vs13, q34, q35, q36⟩ := zeo (pre := []) (sp := sp10) f16 q32
      obtain ⟨v12, rfl, k13⟩ := q35
      obtain ⟨r10, q37, h⟩ := zee h
      refine zcy 10 [] [] (fun W1 => [.det (zbq #[p_v, p_v1, p_v2, p_v3, p_v4]), .det (zO ob8 r6 cap9), .det (zI i10), .det (zam (some ⟨b10, (0 + n13 * (rSl rI).sz), none⟩)), .det v12, .rel (fun v Z w' => ∃ v13 v14, (Value.tuple #[v13, v14]) = v ∧ Rs rStr (vZ W1 w None [some b1, ob8] Z w') v13 r10.1 ∧ Rs rI (vZ W1 w None [some b1, ob8] Z w') v14 r10.2 ∧ True) (fun _ => []), .rel (fun v Z w' => ∃ v15 v16, (Value.tuple #[v15, v16]) = v ∧ Rs rStr (vZ W1 w None [some b1, ob8] Z w') v15 r10.1 ∧ Rs rI (vZ W1 w None [some b1, ob8] Z w') v16 r10.2 ∧ True) (fun _ => []), .fn 6 (tg 0), .fn 6 (tg 1), .rel (fun v Z w' => ∃ v17, v17 = v ∧ Rs rStr (vZ W1 w None [some b1, ob8] Z w') v17 r10.1 ∧ True) (fun _ => [])]) mixed rfl rfl rfl (fun _ => rfl) (fun _ => rfl) ?_ ?_
      ·
       intro W1 _
       exact ⟨fun v Z Z' w w' hΦ hz _ _ hs => by obtain ⟨v13, v14, rfl, k14, k15, -⟩ := hΦ; exact ⟨v13, v14, rfl, (k14.mono (zdv hz hs)), (k15.mono (zdv hz hs)), trivial⟩, ⟨fun v Z Z' w w' hΦ hz _ _ hs => by obtain ⟨v15, v16, rfl, k16, k17, -⟩ := hΦ; exact ⟨v15, v16, rfl, (k16.mono (zdv hz hs)), (k17.mono (zdv hz hs)), trivial⟩, ⟨fun v Z Z' w w' hΦ hz _ _ hs => by obtain ⟨v17, rfl, k18, -⟩ := hΦ; exact ⟨v17, rfl, (k18.mono (zdv hz hs)), trivial⟩, trivial⟩⟩⟩
      intro w13 hE12
      obtain ⟨hL14, K14⟩ := zl hL13 hE12
      refine zay (fun _ hE13 => zar (zct (vs := [p_v, p_v1, p_v2, p_v3, p_v4]) zbb rfl ti26 rfl ((hL14.ext hE13).at 0 rfl rfl) rfl rfl (er rfl))) ?_
      refine zay (fun _ _ => zar (zae rfl (er rfl))) ?_
      refine zay (fun _ _ => zar (zae rfl (er rfl))) ?_
      refine zay (fun _ _ => zar (zbe (r := (rSl rI)) (b := b10) (o := 0) (n := n13) (m := r6.length) (xs := r6) (q := (0 + n13 * (rSl rI).sz)) zdb ti22 (zem hb10) rfl rfl q31 q33 rfl (er rfl))) ?_
      refine zay (fun _ hE17 => zar (zbu zao rfl rfl (zeq hb10 ((hL14.ext hE17).at 1 rfl rfl)) q36 (er rfl))) ?_
      refine zeb ?_ ?_
      ·
       rintro w19 Z24 hE18 hZ15 ⟨-⟩
       have K15 := ke hL14 hE18
       refine zar (zbz en37 rfl rfl (rWords_w N p x13 1 p_v p_v1 p_v2 p_v3 p_v4 v12 _ Any ((((((f10.mono (K10 S)).mono (K12 S)).mono (K13 S)).mono (K14 S)).mono (K15 S)).mono vw_any) ((((((f11.mono (K10 S)).mono (K12 S)).mono (K13 S)).mono (K14 S)).mono (K15 S)).mono vw_any) ((((((f12.mono (K10 S)).mono (K12 S)).mono (K13 S)).mono (K14 S)).mono (K15 S)).mono vw_any) ((((((f13.mono (K10 S)).mono (K12 S)).mono (K13 S)).mono (K14 S)).mono (K15 S)).mono vw_any) ((((((f14.mono (K10 S)).mono (K12 S)).mono (K13 S)).mono (K14 S)).mono (K15 S)).mono vw_any) (((k13.mono (K14 None)).mono (K15 None)).mono vw_any) r10 q37) ?_)
       rintro _ w20 hE19 ⟨v13, v14, rfl, k14, k15, -⟩
       exact Made.ext hE19 hZ15 NewOwn.nil (fun _ h => h) ⟨v13, v14, rfl, (k14.mono Zv.made), (k15.mono Zv.made), trivial⟩
      intro z5
      refine zeb ?_ ?_
      ·
       rintro w21 Z25 hE20 hZ16 ⟨⟨⟨v13, v14, rfl, k14, k15, -⟩, hB5⟩, -⟩
       refine zar (zae (v := (Value.tuple #[v13, v14])) rfl ?_)
       exact Go.X.Made.same ⟨v13, v14, rfl, k14, k15, trivial⟩
      intro z6
      refine DrH.fn rfl ?_ ?_
      ·
       rintro w22 Z26 hE21 hZ17 ⟨⟨⟨v15, v16, rfl, k16, k17, -⟩, hB6⟩, -, -⟩
       refine zar (zck (vs := [v15, v16]) (v := v15) rfl rfl ?_)
       exact ⟨Ext.refl _, rfl⟩
      refine DrH.fn rfl ?_ ?_
      ·
       rintro w23 Z27 hE22 hZ18 ⟨⟨⟨v15, v16, rfl, k16, k17, -⟩, hB6⟩, -, -⟩
       refine zar (zck (vs := [v15, v16]) (v := v16) rfl rfl ?_)
       exact ⟨Ext.refl _, rfl⟩
      refine zeb ?_ ?_
      ·
       rintro w24 Z28 hE23 hZ19 ⟨⟨⟨v15, v16, rfl, k16, k17, -⟩, hB6⟩, ⟨⟨v13, v14, rfl, k14, k15, -⟩, hB5⟩, -⟩
       refine zar (zaj (v := v15) rfl ?_)
       exact Go.X.Made.same ⟨v15, rfl, k16, trivial⟩
      intro z9
      refine zdh ?_
      rintro w25 Z29 hE24 hZ20 ⟨⟨⟨v17, rfl, k18, -⟩, hB9⟩, ⟨⟨v15, v16, rfl, k16, k17, -⟩, hB6⟩, ⟨⟨v13, v14, rfl, k14, k15, -⟩, hB5⟩, -⟩ ap10
      have hB10 := @zhb w13 Z29
      replace k18 := k18.mono (Zv.fin hL14 hZ20 hB10)
      replace k16 := k16.mono (Zv.fin hL14 hZ20 hB10)
      replace k17 := k17.mono (Zv.fin hL14 hZ20 hB10)
      replace k14 := k14.mono (Zv.fin hL14 hZ20 hB10)
      replace k15 := k15.mono (Zv.fin hL14 hZ20 hB10)
      have hL17 := hL14.ext hE24
      refine zag (zaj (v := v16) rfl ?_)
      refine zaq (zal (zah rfl (zag (zae (v := v16) rfl ?_))))
      refine zag (zaj (v := v16) rfl ?_)
      refine zaq (zbt ?_)
      obtain rfl := zad h
      obtain rfl := hd11 _ rfl
      replace h := g11
      try dsimp only at h
      obtain rfl := zad h
      obtain rfl := hd10 _ rfl
      replace h := g10
      try dsimp only at h
      obtain rfl := zad h
      refine ⟨[v16], zrt, ⟨_, rfl, hL17.done, ?_⟩⟩
      exact ⟨v16, rfl, (k17.mono Hv.out), trivial⟩
     replace h := ite_f hc13 h
     refine zbl (zbf (zah rfl (zag (zae (v := (zI k10)) rfl ?_))))
     refine zag (zbx (x := k10) (y := 1) (z := (iw (k10 + 1))) rfl rfl rfl ?_)
     refine zag (zaj (v := (zI (iw (k10 + 1)))) rfl (zaq ?_))
     obtain rfl := zad h
     refine zap ⟨(iw (k10 + 1)), rfl, ?_⟩
     exact ⟨_, (zef ⟨rfl, rfl, rfl, rfl, rfl, trivial⟩), hL13, K13, trivial⟩
    replace h := ite_f hc12 h
    refine zca rfl ?_
    obtain rfl := zad h
    obtain rfl := hd11 _ rfl
    replace h := g11
    try dsimp only at h
    refine zap ?_
    exact ⟨_, rfl, (zef ⟨rfl, rfl, rfl, rfl, trivial⟩), hL13, K13, trivial⟩
   rintro _ w26 ⟨u, rfl, rfl, hL18, K16, -⟩
   replace h := g11
   try dsimp only at h
   refine zbf (zah rfl (zag (zae (v := (zI i10)) rfl ?_)))
   refine zag (zbx (x := i10) (y := 1) (z := (iw (i10 + 1))) rfl rfl rfl ?_)
   refine zag (zaj (v := (zI (iw (i10 + 1)))) rfl (zaq ?_))
   obtain rfl := zad h
   refine zap ⟨(iw (i10 + 1)), rfl, ?_⟩
   exact ⟨_, (zef ⟨rfl, rfl, rfl, rfl, trivial⟩), hL18, (zak K12 K16), trivial⟩
  replace h := ite_f hc11 h
  refine zca rfl ?_
  have hp12 := hL12.pick [] rfl rfl rfl
  have hL19 : vL w w11 [] [] := hp12.1
  have K17 := ks w hp12.2
  obtain rfl := zad h
  obtain rfl := hd10 _ rfl
  replace h := g10
  try dsimp only at h
  refine zap ?_
  exact ⟨_, rfl, (zef trivial), hL19, (zak K12 K17), trivial⟩
 rintro _ w27 ⟨u, rfl, rfl, hL20, K18, -⟩
 replace h := g10
 try dsimp only at h
 refine zal (zah rfl (zag (zaj (v := zN) rfl ?_)))
 refine zaq (zbt ?_)
 obtain rfl := zad h
 refine ⟨[zN], zrt, ⟨_, rfl, hL20.done, ?_⟩⟩
 exact ⟨zN, rfl, Rs.nil, trivial⟩
theorem rSmall_w (N : Nat) (p : TProb) (p_v : Value) (p_v1 : Value) (p_v2 : Value) (p_v3 : Value) (p_v4 : Value) (w : World) (S : Nat → Prop) (p_h : Rs rI (vH w S [] w) p_v p.Min) (p_h1 : Rs rI (vH w S [] w) p_v1 p.Max) (p_h2 : Rs rTTest (vH w S [] w) p_v2 p.Tests) (p_h3 : Rs rArr2Int (vH w S [] w) p_v3 p.Same) (p_h4 : Rs rArr2Int (vH w S [] w) p_v4 p.Different) (r : Bool) (h : rSmall N p = some r) :
  Calls Try.prog 12 #[(zbq #[p_v, p_v1, p_v2, p_v3, p_v4])] w (Ret w (fun v w' => (zac r) = v ∧ True)) := by
 unfold rSmall at h
 have hL : vL w w [] [] := Go.X.Loc.begin0 w
 refine calls_of (l := [(zbq #[p_v, p_v1, p_v2, p_v3, p_v4])]) (rl := [.tmp 2]) (n := 35) Try.func12 rfl rfl rfl (zai rfl) ?_
 refine zal (zah rfl (zag (zdp (cs := [p_v, p_v1, p_v2, p_v3, p_v4]) rfl rfl hL ?_)))
 intro b1 w2 hL3 hS5
 have K4 := ks w hS5
 refine zag (zaj (v := zF) rfl ?_)
 refine zaq (zal (zah rfl (zag (zau (q := 1) zbb rfl ti22 rfl rfl rfl ?_))))
 refine zag (zav (v := p_v1) zao rfl rfl (hL3.at 0 rfl rfl) rfl ?_)
 have f6 := (p_h1.mono (K4 S))
 refine zag (zcf (v := p_v1) zao rfl f6 ?_)
 refine zag (zea (x := (p.Max.length : Int)) (y := 6) (((p.Max.length : Int) : Int) ≤ 6) rfl rfl zbi ?_)
 refine zag (zae (v := (zac (decide (((p.Max.length : Int) : Int) ≤ 6)))) rfl ?_)
 by_cases hc7 : ((p.Max.length : Int) : Int) ≤ 6
 ·
  replace h := ite_t hc7 h
  refine zaz rfl rfl (zed hc7) (zau (q := 0) zbb rfl ti22 rfl rfl rfl ?_)
  refine zaz rfl rfl (zed hc7) (zav (v := p_v) zao rfl rfl (hL3.at 0 rfl rfl) rfl ?_)
  have f8 := (p_h.mono (K4 S))
  refine zaz rfl rfl (zed hc7) (zcf (v := p_v) zao rfl f8 ?_)
  refine zaz rfl rfl (zed hc7) (zea (x := (p.Min.length : Int)) (y := 6) (((p.Min.length : Int) : Int) ≤ 6) rfl rfl zbi ?_)
  refine zag (zbn (t := (decide (((p.Max.length : Int) : Int) ≤ 6))) (v := (zac (decide (((p.Min.length : Int) : Int) ≤ 6)))) rfl (zed hc7) rfl ?_)
  refine zag (zae (v := (zac (decide (((p.Min.length : Int) : Int) ≤ 6)))) rfl ?_)
  by_cases hc9 : ((p.Min.length : Int) : Int) ≤ 6
  ·
   replace h := ite_t hc9 h
   refine zaz rfl rfl (zed hc9) (zau (q := 2) zbb rfl ti23 rfl rfl rfl ?_)
   refine zaz rfl rfl (zed hc9) (zav (v := p_v2) zbk rfl rfl (hL3.at 0 rfl rfl) rfl ?_)
   have f10 := (p_h2.mono (K4 S))
   refine zaz rfl rfl (zed hc9) (zcf (v := p_v2) zbk rfl f10 ?_)
   refine zaz rfl rfl (zed hc9) (zea (x := (p.Tests.length : Int)) (y := 8) (((p.Tests.length : Int) : Int) ≤ 8) rfl rfl zbi ?_)
   refine zag (zbn (t := (decide (((p.Min.length : Int) : Int) ≤ 6))) (v := (zac (decide (((p.Tests.length : Int) : Int) ≤ 8)))) rfl (zed hc9) rfl ?_)
   refine zag (zae (v := (zac (decide (((p.Tests.length : Int) : Int) ≤ 8)))) rfl ?_)
   by_cases hc10 : ((p.Tests.length : Int) : Int) ≤ 8
   ·
    replace h := ite_t hc10 h
    refine zaz rfl rfl (zed hc10) (zau (q := 3) zbb rfl ti24 rfl rfl rfl ?_)
    refine zaz rfl rfl (zed hc10) (zav (v := p_v3) zbr rfl rfl (hL3.at 0 rfl rfl) rfl ?_)
    have f11 := (p_h3.mono (K4 S))
    refine zaz rfl rfl (zed hc10) (zcf (v := p_v3) zbr rfl f11 ?_)
    refine zaz rfl rfl (zed hc10) (zea (x := (p.Same.length : Int)) (y := 8) (((p.Same.length : Int) : Int) ≤ 8) rfl rfl zbi ?_)
    refine zag (zbn (t := (decide (((p.Tests.length : Int) : Int) ≤ 8))) (v := (zac (decide (((p.Same.length : Int) : Int) ≤ 8)))) rfl (zed hc10) rfl ?_)
    refine zag (zae (v := (zac (decide (((p.Same.length : Int) : Int) ≤ 8)))) rfl ?_)
    by_cases hc11 : ((p.Same.length : Int) : Int) ≤ 8
    ·
     replace h := ite_t hc11 h
     refine zaz rfl rfl (zed hc11) (zau (q := 4) zbb rfl ti24 rfl rfl rfl ?_)
     refine zaz rfl rfl (zed hc11) (zav (v := p_v4) zbr rfl rfl (hL3.at 0 rfl rfl) rfl ?_)
     have f12 := (p_h4.mono (K4 S))
     refine zaz rfl rfl (zed hc11) (zcf (v := p_v4) zbr rfl f12 ?_)
     refine zaz rfl rfl (zed hc11) (zea (x := (p.Different.length : Int)) (y := 8) (((p.Different.length : Int) : Int) ≤ 8) rfl rfl zbi ?_)
     refine zag (zbn (t := (decide (((p.Same.length : Int) : Int) ≤ 8))) (v := (zac (decide (((p.Different.length : Int) : Int) ≤ 8)))) rfl (zed hc11) rfl ?_)
     refine zag (zae (v := (zac (decide (((p.Different.length : Int) : Int) ≤ 8)))) rfl ?_)
     by_cases hc12 : ((p.Different.length : Int) : Int) ≤ 8
     ·
      replace h := ite_t hc12 h
      refine zaz rfl rfl (zed hc12) (zct (vs := [p_v, p_v1, p_v2, p_v3, p_v4]) zbb rfl ti26 rfl (hL3.at 0 rfl rfl) rfl rfl ?_)
      obtain ⟨r10, q10, h⟩ := zee h
      refine zaz rfl rfl (zed hc12) (zbz en24 rfl rfl (rValid_w N p p_v p_v1 p_v2 p_v3 p_v4 _ Any (f8.mono vw_any) (f6.mono vw_any) (f10.mono vw_any) (f11.mono vw_any) (f12.mono vw_any) r10 q10) ?_)
      rintro _ w10 hE10 ⟨rfl, -⟩
      have hL10 := hL3.ext hE10
      refine zag (zbn (t := (decide (((p.Different.length : Int) : Int) ≤ 8))) (v := (zac r10)) rfl (zed hc12) rfl ?_)
      refine zag (zaj (v := (zac r10)) rfl ?_)
      refine zaq (zbt ?_)
      obtain rfl := zad h
      refine ⟨[(zac r10)], zrt, ⟨_, rfl, hL10.done, ?_⟩⟩
      exact zrt
     replace h := ite_f hc12 h
     refine zbg rfl rfl (zec hc12) (zbg rfl rfl (zec hc12) ?_)
     refine zag (zbh (t := (decide (((p.Different.length : Int) : Int) ≤ 8))) (v := zF) rfl (zec hc12) rfl ?_)
     refine zag (zaj (v := zF) rfl ?_)
     refine zaq (zbt ?_)
     obtain rfl := zad h
     refine ⟨[zF], zrt, ⟨_, rfl, hL3.done, ?_⟩⟩
     exact zrt
    replace h := ite_f hc11 h
    refine zbg rfl rfl (zec hc11) (zbg rfl rfl (zec hc11) (zbg rfl rfl (zec hc11) (zbg rfl rfl (zec hc11) ?_)))
    refine zag (zbh (t := (decide (((p.Same.length : Int) : Int) ≤ 8))) (v := zF) rfl (zec hc11) rfl ?_)
    refine zag (zae (v := zF) rfl ?_)
    refine zbg rfl rfl rfl (zbg rfl rfl rfl ?_)
    refine zag (zbh (t := false) (v := zF) rfl rfl rfl ?_)
    refine zag (zaj (v := zF) rfl ?_)
    refine zaq (zbt ?_)
    obtain rfl := zad h
    refine ⟨[zF], zrt, ⟨_, rfl, hL3.done, ?_⟩⟩
    exact zrt
   replace h := ite_f hc10 h
   refine zbg rfl rfl (zec hc10) (zbg rfl rfl (zec hc10) (zbg rfl rfl (zec hc10) (zbg rfl rfl (zec hc10) ?_)))
   refine zag (zbh (t := (decide (((p.Tests.length : Int) : Int) ≤ 8))) (v := zF) rfl (zec hc10) rfl ?_)
   refine zag (zae (v := zF) rfl ?_)
   refine zbg rfl rfl rfl (zbg rfl rfl rfl (zbg rfl rfl rfl (zbg rfl rfl rfl ?_)))
   refine zag (zbh (t := false) (v := zF) rfl rfl rfl ?_)
   refine zag (zae (v := zF) rfl ?_)
   refine zbg rfl rfl rfl (zbg rfl rfl rfl ?_)
   refine zag (zbh (t := false) (v := zF) rfl rfl rfl ?_)
   refine zag (zaj (v := zF) rfl ?_)
   refine zaq (zbt ?_)
   obtain rfl := zad h
   refine ⟨[zF], zrt, ⟨_, rfl, hL3.done, ?_⟩⟩
   exact zrt
  replace h := ite_f hc9 h
  refine zbg rfl rfl (zec hc9) (zbg rfl rfl (zec hc9) (zbg rfl rfl (zec hc9) (zbg rfl rfl (zec hc9) ?_)))
  refine zag (zbh (t := (decide (((p.Min.length : Int) : Int) ≤ 6))) (v := zF) rfl (zec hc9) rfl ?_)
  refine zag (zae (v := zF) rfl ?_)
  refine zbg rfl rfl rfl (zbg rfl rfl rfl (zbg rfl rfl rfl (zbg rfl rfl rfl ?_)))
  refine zag (zbh (t := false) (v := zF) rfl rfl rfl ?_)
  refine zag (zae (v := zF) rfl ?_)
  refine zbg rfl rfl rfl (zbg rfl rfl rfl (zbg rfl rfl rfl (zbg rfl rfl rfl ?_)))
  refine zag (zbh (t := false) (v := zF) rfl rfl rfl ?_)
  refine zag (zae (v := zF) rfl ?_)
  refine zbg rfl rfl rfl (zbg rfl rfl rfl ?_)
  refine zag (zbh (t := false) (v := zF) rfl rfl rfl ?_)
  refine zag (zaj (v := zF) rfl ?_)
  refine zaq (zbt ?_)
  obtain rfl := zad h
  refine ⟨[zF], zrt, ⟨_, rfl, hL3.done, ?_⟩⟩
  exact zrt
 replace h := ite_f hc7 h
 refine zbg rfl rfl (zec hc7) (zbg rfl rfl (zec hc7) (zbg rfl rfl (zec hc7) (zbg rfl rfl (zec hc7) ?_)))
 refine zag (zbh (t := (decide (((p.Max.length : Int) : Int) ≤ 6))) (v := zF) rfl (zec hc7) rfl ?_)
 refine zag (zae (v := zF) rfl ?_)
 refine zbg rfl rfl rfl (zbg rfl rfl rfl (zbg rfl rfl rfl (zbg rfl rfl rfl ?_)))
 refine zag (zbh (t := false) (v := zF) rfl rfl rfl ?_)
 refine zag (zae (v := zF) rfl ?_)
 refine zbg rfl rfl rfl (zbg rfl rfl rfl (zbg rfl rfl rfl (zbg rfl rfl rfl ?_)))
 refine zag (zbh (t := false) (v := zF) rfl rfl rfl ?_)
 refine zag (zae (v := zF) rfl ?_)
 refine zbg rfl rfl rfl (zbg rfl rfl rfl (zbg rfl rfl rfl (zbg rfl rfl rfl ?_)))
 refine zag (zbh (t := false) (v := zF) rfl rfl rfl ?_)
 refine zag (zae (v := zF) rfl ?_)
 refine zbg rfl rfl rfl (zbg rfl rfl rfl ?_)
 refine zag (zbh (t := false) (v := zF) rfl rfl rfl ?_)
 refine zag (zaj (v := zF) rfl ?_)
 refine zaq (zbt ?_)
 obtain rfl := zad h
 refine ⟨[zF], zrt, ⟨_, rfl, hL3.done, ?_⟩⟩
 exact zrt
theorem rShort_w (N : Nat) (p : TProb) (p_v : Value) (p_v1 : Value) (p_v2 : Value) (p_v3 : Value) (p_v4 : Value) (w : World) (S : Nat → Prop) (p_h : Rs rI (vH w S [] w) p_v p.Min) (p_h1 : Rs rI (vH w S [] w) p_v1 p.Max) (p_h2 : Rs rTTest (vH w S [] w) p_v2 p.Tests) (p_h3 : Rs rArr2Int (vH w S [] w) p_v3 p.Same) (p_h4 : Rs rArr2Int (vH w S [] w) p_v4 p.Different) (r : Bool) (h : rShort N p = some r) :
  Calls Try.prog 16 #[(zbq #[p_v, p_v1, p_v2, p_v3, p_v4])] w (Ret w (fun v w' => (zac r) = v ∧ True)) := by
 unfold rShort at h
 have hL : vL w w [] [] := Go.X.Loc.begin0 w
 refine calls_of (l := [(zbq #[p_v, p_v1, p_v2, p_v3, p_v4])]) (rl := [.tmp 2]) (n := 25) Try.func16 rfl rfl rfl (zai rfl) ?_
 refine zal (zah rfl (zag (zdp (cs := [p_v, p_v1, p_v2, p_v3, p_v4]) rfl rfl hL ?_)))
 intro b1 w2 hL3 hS5
 have K4 := ks w hS5
 refine zag (zaj (v := zF) rfl ?_)
 refine zaq (zal (zal (zah rfl (zag (zaj (v := (zI 0)) rfl (zaq ?_))))))
 obtain ⟨s10, hl10, g10⟩ := zee h
 refine zbs (fun e w' => ∃  (u : Env), (Sum.inl ()) = s10 ∧ e = upds [(1, (zam (some ⟨b1, 0, none⟩)))] u ∧ vL w w' [some b1] [zab [p_v, p_v1, p_v2, p_v3, p_v4]] ∧ Keep w.heap.size [some b1] w2 [some b1] w' ∧ True) ?_ ?_
 ·
  refine zbc ?_
  refine zbw hl10 (fun (ss : Int) (e : Env) (w' : World) => match ss with | i10 => ∃ (u : Env), e = upds [(1, (zam (some ⟨b1, 0, none⟩))), (3, (zI i10))] u ∧ vL w w' [some b1] [zab [p_v, p_v1, p_v2, p_v3, p_v4]] ∧ Keep w.heap.size [some b1] w2 [some b1] w' ∧ True) ⟨_, (zef ⟨rfl, rfl, trivial⟩), hL3, zbp, trivial⟩ ?_
  rintro i10 oo _ w10 ⟨u, rfl, hL10, K10, -⟩ h hd10
  rw [rShort_b1] at h
  refine zal (zal (zah rfl (zag (zae (v := (zI i10)) rfl ?_))))
  refine zag (zau (q := 1) zbb rfl ti22 rfl rfl rfl ?_)
  refine zag (zav (v := p_v1) zao rfl rfl (hL10.at 0 rfl rfl) rfl ?_)
  have f10 := ((p_h1.mono (K4 S)).mono (K10 S))
  refine zag (zcf (v := p_v1) zao rfl f10 ?_)
  refine zag (zcg (x := i10) (y := (p.Max.length : Int)) ((i10 : Int) < (p.Max.length : Int)) rfl rfl zbi (zaq ?_))
  refine zbj ((i10 : Int) < (p.Max.length : Int)) rfl (fun hc10 => ?_) (fun hc10 => ?_)
  ·
   replace h := ite_t hc10 h
   refine zbl (zal (zbc (zal (zah rfl (zag (zau (q := 1) zbb rfl ti22 rfl rfl rfl ?_))))))
   refine zag (zav (v := p_v1) zao rfl rfl (hL10.at 0 rfl rfl) rfl ?_)
   refine zag (zae (v := (zI i10)) rfl ?_)
   obtain ⟨x10, n10, q11, q12, -, h⟩ := zix h
   obtain ⟨b10, o10, c10, vs10, q13, q14, f11, q15⟩ := zdc f10 q12
   obtain rfl := q15
   refine zag (zby (r := rI) (v := p_v1) (n := n10) (m := (o10 + n10 * rI.sz)) zao ti3 rfl q13 rfl q11 q12 rfl ?_)
   refine zag (zce (v := (zI x10)) zaw rfl rfl zel f11 ?_)
   refine zag (OpY.gtr (x := x10) (y := 2) ((x10 : Int) > 2) rfl rfl zbi (zaq ?_))
   refine zbj ((x10 : Int) > 2) rfl (fun hc11 => ?_) (fun hc11 => ?_)
   ·
    replace h := ite_t hc11 h
    refine zal (zah rfl (zag (zaj (v := zF) rfl ?_)))
    refine zaq (zbt ?_)
    obtain rfl := zad h
    obtain rfl := hd10 _ rfl
    replace h := g10
    try dsimp only at h
    obtain rfl := zad h
    refine ⟨[zF], zrt, ⟨_, rfl, hL10.done, ?_⟩⟩
    exact zrt
   replace h := ite_f hc11 h
   refine zbl (zbf (zah rfl (zag (zae (v := (zI i10)) rfl ?_))))
   refine zag (zbx (x := i10) (y := 1) (z := (iw (i10 + 1))) rfl rfl rfl ?_)
   refine zag (zaj (v := (zI (iw (i10 + 1)))) rfl (zaq ?_))
   obtain rfl := zad h
   refine zap ⟨(iw (i10 + 1)), rfl, ?_⟩
   exact ⟨_, (zef ⟨rfl, rfl, trivial⟩), hL10, K10, trivial⟩
  replace h := ite_f hc10 h
  refine zca rfl ?_
  obtain rfl := zad h
  obtain rfl := hd10 _ rfl
  replace h := g10
  try dsimp only at h
  refine zap ?_
  exact ⟨_, rfl, (zef zrt), hL10, K10, trivial⟩
 rintro _ w11 ⟨u, rfl, rfl, hL11, K11, -⟩
 replace h := g10
 try dsimp only at h
 refine zal (zah rfl (zag (zct (vs := [p_v, p_v1, p_v2, p_v3, p_v4]) zbb rfl ti26 rfl (hL11.at 0 rfl rfl) rfl rfl ?_)))
 obtain ⟨r10, q16, h⟩ := zee h
 have f12 := ((p_h.mono (K4 S)).mono (K11 S))
 have f13 := ((p_h1.mono (K4 S)).mono (K11 S))
 have f14 := ((p_h2.mono (K4 S)).mono (K11 S))
 have f15 := ((p_h3.mono (K4 S)).mono (K11 S))
 have f16 := ((p_h4.mono (K4 S)).mono (K11 S))
 refine zag (zbz en12 rfl rfl (rSmall_w N p p_v p_v1 p_v2 p_v3 p_v4 _ Any (f12.mono vw_any) (f13.mono vw_any) (f14.mono vw_any) (f15.mono vw_any) (f16.mono vw_any) r10 q16) ?_)
 rintro _ w12 hE10 ⟨rfl, -⟩
 obtain ⟨hL12, K12⟩ := zl hL11 hE10
 refine zag (zae (v := (zac r10)) rfl ?_)
 by_cases hc12 : r10 = true
 ·
  replace h := ite_t hc12 h
  refine zaz rfl rfl hc12 (zau (q := 1) zbb rfl ti22 rfl rfl rfl ?_)
  refine zaz rfl rfl hc12 (zav (v := p_v1) zao rfl rfl (hL12.at 0 rfl rfl) rfl ?_)
  have f17 := (f13.mono (K12 S))
  refine zaz rfl rfl hc12 (zcf (v := p_v1) zao rfl f17 ?_)
  refine zaz rfl rfl hc12 (zea (x := (p.Max.length : Int)) (y := 3) (((p.Max.length : Int) : Int) ≤ 3) rfl rfl zbi ?_)
  refine zag (zbn (t := r10) (v := (zac (decide (((p.Max.length : Int) : Int) ≤ 3)))) rfl hc12 rfl ?_)
  refine zag (zaj (v := (zac (decide (((p.Max.length : Int) : Int) ≤ 3)))) rfl ?_)
  refine zaq (zbt ?_)
  obtain rfl := zad h
  refine ⟨[(zac (decide (((p.Max.length : Int) : Int) ≤ 3)))], zrt, ⟨_, rfl, hL12.done, ?_⟩⟩
  exact zrt
 replace h := ite_f hc12 h
 refine zbg rfl rfl (zeg hc12) (zbg rfl rfl (zeg hc12) (zbg rfl rfl (zeg hc12) (zbg rfl rfl (zeg hc12) ?_)))
 refine zag (zbh (t := r10) (v := zF) rfl (zeg hc12) rfl ?_)
 refine zag (zaj (v := zF) rfl ?_)
 refine zaq (zbt ?_)
 obtain rfl := zad h
 refine ⟨[zF], zrt, ⟨_, rfl, hL12.done, ?_⟩⟩
 exact zrt
end Go.Proofs.Ytaakoedphmeenaa.WR

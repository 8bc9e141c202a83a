/- Walks, written by a program of mine (wip/tool); the kernel checks them. -/
import Derived.Test.YtaakoedphmeenaaProg
import Derived.Test.YtaakoedphmeenaaSqValid
import Derived.Test.YtaakoedphmeenaaPA
set_option maxRecDepth 100000
set_option maxHeartbeats 40000000
set_option linter.unusedVariables false
set_option linter.unusedSimpArgs false
namespace Go.Proofs.Ytaakoedphmeenaa.WA
open Go Go.RowKit Go.X Go.D 
theorem mixed : Try.prog.follows .mixedOrders = true := by kernel_rfl
theorem ti9 : TI Try.prog 9 1 16 (zah ⟨#[]⟩) := TI.mk (by kernel_rfl)
theorem ti5 : TI Try.prog 5 1 1 (zaa .u8 0) := TI.mk (by kernel_rfl)
theorem ti3 : TI Try.prog 3 1 8 (zI 0) := TI.mk (by kernel_rfl)
theorem en69 : Go.X.Enters Try.prog 69 := ⟨Try.f69, Try.func69, by kernel_rfl, by kernel_rfl⟩
theorem ti4 : TI Try.prog 4 1 1 zF := TI.mk (by kernel_rfl)
theorem ti44 : TI Try.prog 44 4 40 (zbo #[(zI 0), (zI 0), zF, (zah ⟨#[]⟩)]) := TI.mk (by kernel_rfl)
theorem en53 : Go.X.Enters Try.prog 53 := ⟨Try.f53, Try.func53, by kernel_rfl, by kernel_rfl⟩
theorem en54 : Go.X.Enters Try.prog 54 := ⟨Try.f54, Try.func54, by kernel_rfl, by kernel_rfl⟩
theorem en55 : Go.X.Enters Try.prog 55 := ⟨Try.f55, Try.func55, by kernel_rfl, by kernel_rfl⟩
theorem ti79 : TI Try.prog 79 1 4 (zaa .u32 0) := TI.mk (by kernel_rfl)
theorem ti23 : TI Try.prog 23 1 24 zN := TI.mk (by kernel_rfl)
theorem ti27 : TI Try.prog 27 1 24 zN := TI.mk (by kernel_rfl)
theorem en74 : Go.X.Enters Try.prog 74 := ⟨Try.f74, Try.func74, by kernel_rfl, by kernel_rfl⟩
theorem ti91 : TI Try.prog 91 1 8 (Value.map none) := TI.mk (by kernel_rfl)
theorem en64 : Go.X.Enters Try.prog 64 := ⟨Try.f64, Try.func64, by kernel_rfl, by kernel_rfl⟩
theorem pl93 : placesT Try.prog 93 = some [(0, 1), (1, 1), (2, 1), (3, 1)] := by kernel_rfl
theorem ti93 : TI Try.prog 93 4 64 (zbo #[zN, (zI 0), zN, (Value.map none)]) := TI.mk (by kernel_rfl)
theorem en65 : Go.X.Enters Try.prog 65 := ⟨Try.f65, Try.func65, by kernel_rfl, by kernel_rfl⟩
theorem mky_9 : MKey Try.prog 9 (fun x : List UInt8 => zS x) := MKey.str zba
theorem pValid_w (N : Nat) (t : TTest)  (w : World) (S : Nat → Prop)  (r : Bool) (h : pValid N t = some r) :
  Calls Try.prog 49 #[(zbo #[(zI t.Var), (zI t.Kind), (zac t.Negated), (zS t.Text)])] w (Ret w (fun v w' => (zac r) = v ∧ True)) := by
 unfold pValid at h
 have hL : vL w w [] [] := Go.X.Loc.begin0 w
 refine calls_of (l := [(zbo #[(zI t.Var), (zI t.Kind), (zac t.Negated), (zS t.Text)])]) (rl := [.tmp 2]) (n := 34) Try.func49 rfl rfl rfl (zai rfl) ?_
 refine zan (zaf rfl (zag (zdr (cs := [(zI t.Var), (zI t.Kind), (zac t.Negated), (zS t.Text)]) rfl rfl hL ?_)))
 intro b1 w2 hL3 hS5
 refine zag (zal (v := zF) rfl ?_)
 refine zas (zan (zan (zaf rfl (zag (zau (q := 3) zbg rfl ti9 rfl rfl rfl ?_)))))
 refine zag (zav (v := (zS t.Text)) zba rfl rfl (hL3.at 0 rfl rfl) rfl ?_)
 refine zag (OpY.strBytes (H := (vH w None [some b1] w2)) (s := t.Text) zba zcs zcx rfl hL3 ?_)
 intro b6 cap7 sp9 cs8 w10 hE10 hc10 hL10 hS10
 have K10 := ks w hS10
 have f10 := (hE10.mono (K10 None))
 refine zag (zcj (pre := []) (r := (rInt .u8)) (xs := (sby t.Text)) zcs rfl (hL10.at 0 rfl rfl) f10 rfl rfl ?_)
 refine zag (zae (v := (zI 0)) rfl (zas ?_))
 obtain ⟨s10, hl10, g10⟩ := zdt h
 refine zbu (fun e w' => ∃  (u : Env), (Sum.inl ()) = s10 ∧ e = upds [(1, (zak (some ⟨b1, 0, none⟩)))] u ∧ vL w w' [some b1] [zab [(zI t.Var), (zI t.Kind), (zac t.Negated), (zS t.Text)]] ∧ Keep w.heap.size [some b6, some b1] w10 [some b1] w' ∧ True) ?_ ?_
 ·
  refine zbb ?_
  have hp10 := hL10.pick [1, 0] rfl rfl rfl
  have hL11 : vL w w10 [some b1, some b6] [zab [(zI t.Var), (zI t.Kind), (zac t.Negated), (zS t.Text)], zab ([] ++ (cs8 ++ sp9))] := hp10.1
  have K11 := ks w hp10.2
  refine zca hl10 (fun (ss : Int) (e : Env) (w' : World) => match ss with | x10 => ∃ (u : Env), e = upds [(1, (zak (some ⟨b1, 0, none⟩))), (7, (osv (some b6) 0 (List.length (sby t.Text)) cap7)), (8, (zI (List.length (sby t.Text) : Int))), (9, (zI x10))] u ∧ vL w w' [some b1, some b6] [zab [(zI t.Var), (zI t.Kind), (zac t.Negated), (zS t.Text)], zab ([] ++ (cs8 ++ sp9))] ∧ Keep w.heap.size [some b6, some b1] w10 [some b1, some b6] w' ∧ True) ⟨_, (zdx ⟨rfl, rfl, rfl, rfl, trivial⟩), hL11, K11, trivial⟩ ?_
  rintro x10 oo _ w11 ⟨u, rfl, hL12, K12, -⟩ h hd10
  rw [pValid_b1] at h
  refine zan (zaf rfl (zag (zck (x := x10) (y := (List.length (sby t.Text) : Int)) ((x10 : Int) < (List.length (sby t.Text) : Int)) rfl rfl zbk ?_)))
  refine zas (zan ?_)
  refine zbm ((x10 : Int) < (List.length (sby t.Text) : Int)) rfl (fun hc11 => ?_) (fun hc11 => ?_)
  ·
   replace h := ite_t hc11 h
   refine zbl (zan (zbb (zan (zaf rfl ?_))))
   obtain ⟨x11, n10, q11, q12, q13, h⟩ := zix h
   refine zag (zbd (r := (rInt .u8)) (b := b6) (o := 0) (n := n10) (m := (List.length (sby t.Text))) (xs := (sby t.Text)) (q := (0 + n10 * (rInt .u8).sz)) zcs ti5 rfl rfl rfl q11 q13 rfl ?_)
   have f11 := (f10.mono (K12 None))
   obtain ⟨vs10, q14, q15, q16⟩ := zee (pre := []) (sp := sp9) f11 q12
   obtain rfl := q15
   refine zag (zbx (v := (zaa .u8 x11)) zcx rfl rfl (hL12.at 1 rfl rfl) q16 ?_)
   refine zag (zal (v := (zaa .u8 x11)) rfl ?_)
   refine zas (zan ?_)
   obtain ⟨s11, h, g11⟩ := zdt h
   refine zbu (fun e w' => ∃ (x12 : Bool) (u : Env), x12 = s11 ∧ e = upds [(1, (zak (some ⟨b1, 0, none⟩))), (7, (osv (some b6) 0 (List.length (sby t.Text)) cap7)), (8, (zI (List.length (sby t.Text) : Int))), (9, (zI x10)), (18, (zac x12))] u ∧ vL w w' [some b1, some b6] [zab [(zI t.Var), (zI t.Kind), (zac t.Negated), (zS t.Text)], zab ([] ++ (cs8 ++ sp9))] ∧ Keep w.heap.size [some b1, some b6] w11 [some b1, some b6] w' ∧ True) ?_ ?_
   ·
    refine zaf rfl (zag (zae (v := (zaa .u8 x11)) rfl ?_))
    refine zag (zck (x := x11) (y := 32) ((x11 : Int) < 32) rfl rfl zbk ?_)
    refine zag (zae (v := (zac (decide ((x11 : Int) < 32)))) rfl ?_)
    by_cases hc12 : (x11 : Int) < 32
    ·
     replace h := ite_t hc12 h
     refine zbe rfl rfl (zdv hc12) (zbe rfl rfl (zdv hc12) ?_)
     refine zag (zbr (t := (decide ((x11 : Int) < 32))) (v := zT) rfl (zdv hc12) rfl (zas ?_))
     obtain rfl := zad h
     refine zat ?_
     exact ⟨true, _, rfl, (zdx ⟨rfl, rfl, rfl, rfl, rfl, trivial⟩), hL12, zbt, trivial⟩
    replace h := ite_f hc12 h
    refine zaz rfl rfl (zdu hc12) (zae (v := (zaa .u8 x11)) rfl ?_)
    refine zaz rfl rfl (zdu hc12) (OpY.gtr (x := x11) (y := 126) ((x11 : Int) > 126) rfl rfl zbk ?_)
    refine zag (zbp (t := (decide ((x11 : Int) < 32))) (v := (zac (decide ((x11 : Int) > 126)))) rfl (zdu hc12) rfl (zas ?_))
    obtain rfl := zad h
    refine zat ?_
    exact ⟨(decide ((x11 : Int) > 126)), _, rfl, (zdx ⟨rfl, rfl, rfl, rfl, rfl, trivial⟩), hL12, zbt, trivial⟩
   rintro _ w12 ⟨x12, u, rfl, rfl, hL13, K13, -⟩
   replace h := g11
   try dsimp only at h
   refine zch x12 rfl (fun hc13 => ?_) (fun hc13 => ?_)
   ·
    replace h := ite_t hc13 h
    refine zan (zaf rfl (zag (zal (v := zF) rfl ?_)))
    refine zas (zbq ?_)
    obtain rfl := zad h
    obtain rfl := hd10 _ rfl
    replace h := g10
    try dsimp only at h
    obtain rfl := zad h
    refine ⟨[zF], zrt, ⟨_, rfl, hL13.done, ?_⟩⟩
    exact zrt
   replace h := ite_f hc13 h
   refine zbl (zbh (zaf rfl (zag (zce (x := x10) (y := 1) (z := (iw (x10 + 1))) rfl rfl rfl ?_))))
   refine zag (zae (v := (zI (iw (x10 + 1)))) rfl (zas ?_))
   obtain rfl := zad h
   refine zat ⟨(iw (x10 + 1)), rfl, ?_⟩
   exact ⟨_, (zdx ⟨rfl, rfl, rfl, rfl, trivial⟩), hL13, (zam K12 K13), trivial⟩
  replace h := ite_f hc11 h
  refine zcf rfl ?_
  have hp11 := hL12.pick [0] rfl rfl rfl
  have hL14 : vL w w11 [some b1] [zab [(zI t.Var), (zI t.Kind), (zac t.Negated), (zS t.Text)]] := hp11.1
  have K14 := ks w hp11.2
  obtain rfl := zad h
  obtain rfl := hd10 _ rfl
  replace h := g10
  try dsimp only at h
  refine zat ?_
  exact ⟨_, rfl, (zdx zrt), hL14, (zam K12 K14), trivial⟩
 rintro _ w13 ⟨u, rfl, rfl, hL15, K15, -⟩
 replace h := g10
 try dsimp only at h
 refine zan (zaf rfl (zag (zau (q := 1) zbg rfl ti3 rfl rfl rfl ?_)))
 refine zag (zav (v := (zI t.Kind)) zaw rfl rfl (hL15.at 0 rfl rfl) rfl ?_)
 refine zag (OpY.geq (x := t.Kind) (y := 0) ((t.Kind : Int) ≥ 0) rfl rfl zbk ?_)
 refine zag (zae (v := (zac (decide ((t.Kind : Int) ≥ 0)))) rfl ?_)
 by_cases hc14 : (t.Kind : Int) ≥ 0
 ·
  replace h := ite_t hc14 h
  refine zaz rfl rfl (zdv hc14) (zau (q := 1) zbg rfl ti3 rfl rfl rfl ?_)
  refine zaz rfl rfl (zdv hc14) (zav (v := (zI t.Kind)) zaw rfl rfl (hL15.at 0 rfl rfl) rfl ?_)
  refine zaz rfl rfl (zdv hc14) (OpY.leq (x := t.Kind) (y := 3) ((t.Kind : Int) ≤ 3) rfl rfl zbk ?_)
  refine zag (zbr (t := (decide ((t.Kind : Int) ≥ 0))) (v := (zac (decide ((t.Kind : Int) ≤ 3)))) rfl (zdv hc14) rfl ?_)
  refine zag (zae (v := (zac (decide ((t.Kind : Int) ≤ 3)))) rfl ?_)
  by_cases hc15 : (t.Kind : Int) ≤ 3
  ·
   replace h := ite_t hc15 h
   refine zaz rfl rfl (zdv hc15) (zau (q := 3) zbg rfl ti9 rfl rfl rfl ?_)
   refine zaz rfl rfl (zdv hc15) (zav (v := (zS t.Text)) zba rfl rfl (hL15.at 0 rfl rfl) rfl ?_)
   refine zaz rfl rfl (zdv hc15) (zdp zba rfl ?_)
   refine zaz rfl rfl (zdv hc15) (OpY.leq (x := (t.Text.length : Int)) (y := 16) (((t.Text.length : Int) : Int) ≤ 16) rfl rfl zbk ?_)
   refine zag (zbr (t := (decide ((t.Kind : Int) ≤ 3))) (v := (zac (decide (((t.Text.length : Int) : Int) ≤ 16)))) rfl (zdv hc15) rfl ?_)
   refine zag (zal (v := (zac (decide (((t.Text.length : Int) : Int) ≤ 16)))) rfl ?_)
   refine zas (zbq ?_)
   obtain rfl := zad h
   refine ⟨[(zac (decide (((t.Text.length : Int) : Int) ≤ 16)))], zrt, ⟨_, rfl, hL15.done, ?_⟩⟩
   exact zrt
  replace h := ite_f hc15 h
  refine zbe rfl rfl (zdu hc15) (zbe rfl rfl (zdu hc15) (zbe rfl rfl (zdu hc15) (zbe rfl rfl (zdu hc15) ?_)))
  refine zag (zbp (t := (decide ((t.Kind : Int) ≤ 3))) (v := zF) rfl (zdu hc15) rfl ?_)
  refine zag (zal (v := zF) rfl ?_)
  refine zas (zbq ?_)
  obtain rfl := zad h
  refine ⟨[zF], zrt, ⟨_, rfl, hL15.done, ?_⟩⟩
  exact zrt
 replace h := ite_f hc14 h
 refine zbe rfl rfl (zdu hc14) (zbe rfl rfl (zdu hc14) (zbe rfl rfl (zdu hc14) ?_))
 refine zag (zbp (t := (decide ((t.Kind : Int) ≥ 0))) (v := zF) rfl (zdu hc14) rfl ?_)
 refine zag (zae (v := zF) rfl ?_)
 refine zbe rfl rfl rfl (zbe rfl rfl rfl (zbe rfl rfl rfl (zbe rfl rfl rfl ?_)))
 refine zag (zbp (t := false) (v := zF) rfl rfl rfl ?_)
 refine zag (zal (v := zF) rfl ?_)
 refine zas (zbq ?_)
 obtain rfl := zad h
 refine ⟨[zF], zrt, ⟨_, rfl, hL15.done, ?_⟩⟩
 exact zrt
theorem pClosure_w (N : Nat) (pattern : (List UInt8)) (vset : Int)  (w : World) (S : Nat → Prop)  (r : Int) (h : pClosure N pattern vset = some r) :
  Calls Try.prog 69 #[(zS pattern), (zaa .u32 vset)] w (Ret w (fun v w' => (zaa .u32 r) = v ∧ True)) := by
 unfold pClosure at h
 have hL : vL w w [] [] := Go.X.Loc.begin0 w
 refine calls_of (l := [(zS pattern), (zaa .u32 vset)]) (rl := [.tmp 4]) (n := 29) Try.func69 rfl rfl rfl (zai rfl) ?_
 refine zan (zaf rfl (zag (zal (v := (zaa .u32 0)) rfl ?_)))
 refine zas (zan (zan (zaf rfl (zag (zae (v := (zS pattern)) rfl ?_)))))
 refine zag (zdp zba rfl ?_)
 refine zag (zae (v := (zI 0)) rfl (zas ?_))
 obtain ⟨s10, hl10, g10⟩ := zdt h
 refine zbu (fun e w' => ∃ (vset10 : Int) (u : Env), vset10 = s10 ∧ e = upds [(1, (zaa .u32 vset10))] u ∧ vL w w' [] [] ∧ Keep w.heap.size [] w [] w' ∧ True) ?_ ?_
 ·
  refine zbb ?_
  refine zca hl10 (fun (ss : (Int × Int)) (e : Env) (w' : World) => match ss with | (vset11, x10) => ∃ (u : Env), e = upds [(0, (zS pattern)), (1, (zaa .u32 vset11)), (7, (zI (pattern.length : Int))), (8, (zI x10))] u ∧ vL w w' [] [] ∧ Keep w.heap.size [] w [] w' ∧ True) ⟨_, (zdx ⟨rfl, rfl, rfl, rfl, trivial⟩), hL, zbt, trivial⟩ ?_
  rintro ⟨vset11, x10⟩ oo _ w10 ⟨u, rfl, hL10, K10, -⟩ h hd10
  rw [pClosure_b1] at h
  refine zan (zaf rfl (zag (zck (x := x10) (y := (pattern.length : Int)) ((x10 : Int) < (pattern.length : Int)) rfl rfl zbk ?_)))
  refine zas (zan ?_)
  refine zbm ((x10 : Int) < (pattern.length : Int)) rfl (fun hc10 => ?_) (fun hc10 => ?_)
  ·
   replace h := ite_t hc10 h
   refine zbl (zan (zbb (zan (zaf rfl (zag (zae (v := (zI x10)) rfl ?_))))))
   refine zag (zal (v := (zI x10)) rfl ?_)
   refine zas (zan ?_)
   obtain ⟨s11, h, g11⟩ := zdt h
   refine zbu (fun e w' => ∃ (x11 : Bool) (u : Env), x11 = s11 ∧ e = upds [(0, (zS pattern)), (1, (zaa .u32 vset11)), (5, (zI x10)), (7, (zI (pattern.length : Int))), (8, (zI x10)), (21, (zac x11))] u ∧ vL w w' [] [] ∧ Keep w.heap.size [] w10 [] w' ∧ True) ?_ ?_
   ·
    refine zaf rfl (zag (zae (v := (zS pattern)) rfl ?_))
    refine zag (zae (v := (zI x10)) rfl ?_)
    obtain ⟨x12, n10, q11, q12, -, h⟩ := zix h
    refine zag (OpY.sIndex (xs := pattern) (i := x10) (n := n10) (a := x12) zba rfl rfl q11 q12 ?_)
    refine zag (zdn (x := (UInt8.toNat x12 : Int)) (y := 37) (((UInt8.toNat x12 : Int) : Int) = 37) rfl rfl zbk ?_)
    refine zag (zae (v := (zac (decide (((UInt8.toNat x12 : Int) : Int) = 37)))) rfl ?_)
    by_cases hc11 : ((UInt8.toNat x12 : Int) : Int) = 37
    ·
     replace h := ite_t hc11 h
     refine zaz rfl rfl (zdv hc11) (zae (v := (zaa .u32 vset11)) rfl ?_)
     refine zaz rfl rfl (zdv hc11) (zae (v := (zI x10)) rfl ?_)
     obtain ⟨u10, q13, h⟩ := zdt h
     have q14 := chk_some q13
     refine zaz rfl rfl (zdv hc11) (OpY.ishr (x := vset11) (y := x10) rfl rfl q14 ?_)
     refine zaz rfl rfl (zdv hc11) (OpY.iand (x := (bshr .u32 vset11 x10)) (y := 1) rfl rfl ?_)
     refine zaz rfl rfl (zdv hc11) (zdn (x := (band .u32 (bshr .u32 vset11 x10) 1)) (y := 1) (((band .u32 (bshr .u32 vset11 x10) 1) : Int) = 1) rfl rfl zbk ?_)
     refine zag (zbr (t := (decide (((UInt8.toNat x12 : Int) : Int) = 37))) (v := (zac (decide (((band .u32 (bshr .u32 vset11 x10) 1) : Int) = 1)))) rfl (zdv hc11) rfl (zas ?_))
     obtain rfl := zad h
     refine zat ?_
     exact ⟨(decide (((band .u32 (bshr .u32 vset11 x10) 1) : Int) = 1)), _, rfl, (zdx ⟨rfl, rfl, rfl, rfl, rfl, rfl, trivial⟩), hL10, zbt, trivial⟩
    replace h := ite_f hc11 h
    refine zbe rfl rfl (zdu hc11) (zbe rfl rfl (zdu hc11) (zbe rfl rfl (zdu hc11) (zbe rfl rfl (zdu hc11) (zbe rfl rfl (zdu hc11) ?_))))
    refine zag (zbp (t := (decide (((UInt8.toNat x12 : Int) : Int) = 37))) (v := zF) rfl (zdu hc11) rfl (zas ?_))
    obtain rfl := zad h
    refine zat ?_
    exact ⟨false, _, rfl, (zdx ⟨rfl, rfl, rfl, rfl, rfl, rfl, trivial⟩), hL10, zbt, trivial⟩
   rintro _ w11 ⟨x11, u, rfl, rfl, hL11, K11, -⟩
   replace h := g11
   try dsimp only at h
   refine zch x11 rfl (fun hc12 => ?_) (fun hc12 => ?_)
   ·
    replace h := ite_t hc12 h
    refine zaf rfl (zag (zae (v := (zaa .u32 vset11)) rfl ?_))
    refine zag (zae (v := (zI x10)) rfl ?_)
    refine zag (zce (x := x10) (y := 1) (z := (iw (x10 + 1))) rfl rfl rfl ?_)
    obtain ⟨u11, q15, h⟩ := zdt h
    have q16 := chk_some q15
    refine zag (OpY.ishl (x := 1) (y := (iw (x10 + 1))) rfl rfl q16 ?_)
    refine zag (OpY.ior (x := vset11) (y := (bshl .u32 1 (iw (x10 + 1)))) rfl rfl ?_)
    refine zag (zal (v := (zaa .u32 (bor .u32 vset11 (bshl .u32 1 (iw (x10 + 1)))))) rfl ?_)
    refine zas (zbh (zaf rfl (zag (zce (x := x10) (y := 1) (z := (iw (x10 + 1))) rfl rfl rfl ?_))))
    refine zag (zae (v := (zI (iw (x10 + 1)))) rfl (zas ?_))
    obtain rfl := zad h
    refine zat ⟨((bor .u32 vset11 (bshl .u32 1 (iw (x10 + 1)))), (iw (x10 + 1))), rfl, ?_⟩
    exact ⟨_, (zdx ⟨rfl, rfl, rfl, rfl, trivial⟩), hL11, (zam K10 K11), trivial⟩
   replace h := ite_f hc12 h
   refine zbl (zbh (zaf rfl (zag (zce (x := x10) (y := 1) (z := (iw (x10 + 1))) rfl rfl rfl ?_))))
   refine zag (zae (v := (zI (iw (x10 + 1)))) rfl (zas ?_))
   obtain rfl := zad h
   refine zat ⟨(vset11, (iw (x10 + 1))), rfl, ?_⟩
   exact ⟨_, (zdx ⟨rfl, rfl, rfl, rfl, trivial⟩), hL11, (zam K10 K11), trivial⟩
  replace h := ite_f hc10 h
  refine zcf rfl ?_
  obtain rfl := zad h
  obtain rfl := hd10 _ rfl
  replace h := g10
  try dsimp only at h
  refine zat ?_
  exact ⟨vset11, _, rfl, (zdx zrt), hL10, K10, trivial⟩
 rintro _ w12 ⟨vset10, u, rfl, rfl, hL12, K12, -⟩
 replace h := g10
 try dsimp only at h
 refine zan (zaf rfl (zag (zae (v := (zaa .u32 vset10)) rfl ?_)))
 refine zag (zal (v := (zaa .u32 vset10)) rfl ?_)
 refine zas (zbq ?_)
 obtain rfl := zad h
 refine ⟨[(zaa .u32 vset10)], zrt, ⟨_, rfl, hL12.done, ?_⟩⟩
 exact zrt
theorem pBegin_w (N : Nat) (t : TTest)  (w : World) (S : Nat → Prop)  (r : Int) (h : pBegin N t = some r) :
  Calls Try.prog 53 #[(zbo #[(zI t.Var), (zI t.Kind), (zac t.Negated), (zS t.Text)])] w (Ret w (fun v w' => (zaa .u32 r) = v ∧ True)) := by
 unfold pBegin at h
 have hL : vL w w [] [] := Go.X.Loc.begin0 w
 refine calls_of (l := [(zbo #[(zI t.Var), (zI t.Kind), (zac t.Negated), (zS t.Text)])]) (rl := [.tmp 2]) (n := 9) Try.func53 rfl rfl rfl (zai rfl) ?_
 refine zan (zaf rfl (zag (zdr (cs := [(zI t.Var), (zI t.Kind), (zac t.Negated), (zS t.Text)]) rfl rfl hL ?_)))
 intro b1 w2 hL3 hS5
 refine zag (zal (v := (zaa .u32 0)) rfl ?_)
 refine zas (zan (zan (zaf rfl (zag (zau (q := 1) zbg rfl ti3 rfl rfl rfl ?_)))))
 refine zag (zav (v := (zI t.Kind)) zaw rfl rfl (hL3.at 0 rfl rfl) rfl ?_)
 refine zag (zdn (x := t.Kind) (y := 1) ((t.Kind : Int) = 1) rfl rfl zbk (zas ?_))
 refine zbm ((t.Kind : Int) = 1) rfl (fun hc6 => ?_) (fun hc6 => ?_)
 ·
  replace h := ite_t hc6 h
  refine zan (zaf rfl (zag (zau (q := 3) zbg rfl ti9 rfl rfl rfl ?_)))
  refine zag (zav (v := (zS t.Text)) zba rfl rfl (hL3.at 0 rfl rfl) rfl ?_)
  obtain ⟨r7, q8, h⟩ := zdt h
  refine zag (zbz en69 rfl rfl (pClosure_w N t.Text 1 _ Any r7 q8) ?_)
  rintro _ w10 hE10 ⟨rfl, -⟩
  have hL10 := hL3.ext hE10
  refine zag (zal (v := (zaa .u32 r7)) rfl ?_)
  refine zas (zbq ?_)
  obtain rfl := zad h
  refine ⟨[(zaa .u32 r7)], zrt, ⟨_, rfl, hL10.done, ?_⟩⟩
  exact zrt
 replace h := ite_f hc6 h
 refine zbl (zan (zaf rfl (zag (zal (v := (zaa .u32 0)) rfl ?_))))
 refine zas (zbq ?_)
 obtain rfl := zad h
 refine ⟨[(zaa .u32 0)], zrt, ⟨_, rfl, hL3.done, ?_⟩⟩
 exact zrt
theorem pNext_w (N : Nat) (t : TTest) (s : Int) (c : Int)  (w : World) (S : Nat → Prop)  (r : Int) (h : pNext N t s c = some r) :
  Calls Try.prog 54 #[(zbo #[(zI t.Var), (zI t.Kind), (zac t.Negated), (zS t.Text)]), (zaa .u32 s), (zaa .u8 c)] w (Ret w (fun v w' => (zaa .u32 r) = v ∧ True)) := by
 unfold pNext at h
 have hL : vL w w [] [] := Go.X.Loc.begin0 w
 refine calls_of (l := [(zbo #[(zI t.Var), (zI t.Kind), (zac t.Negated), (zS t.Text)]), (zaa .u32 s), (zaa .u8 c)]) (rl := [.tmp 6]) (n := 81) Try.func54 rfl rfl rfl (zai rfl) ?_
 refine zan (zaf rfl (zag (zdr (cs := [(zI t.Var), (zI t.Kind), (zac t.Negated), (zS t.Text)]) rfl rfl hL ?_)))
 intro b1 w2 hL3 hS5
 refine zag (zal (v := (zaa .u32 0)) rfl ?_)
 refine zas (zan (zan (zaf rfl (zag (zau (q := 1) zbg rfl ti3 rfl rfl rfl ?_)))))
 refine zag (zav (v := (zI t.Kind)) zaw rfl rfl (hL3.at 0 rfl rfl) rfl ?_)
 refine zag (zdn (x := t.Kind) (y := 1) ((t.Kind : Int) = 1) rfl rfl zbk (zas ?_))
 refine zbm ((t.Kind : Int) = 1) rfl (fun hc6 => ?_) (fun hc6 => ?_)
 ·
  replace h := ite_t hc6 h
  refine zan (zaf rfl (zag (zal (v := (zaa .u32 0)) rfl ?_)))
  refine zas (zan (zan (zaf rfl (zag (zau (q := 3) zbg rfl ti9 rfl rfl rfl ?_)))))
  refine zag (zav (v := (zS t.Text)) zba rfl rfl (hL3.at 0 rfl rfl) rfl ?_)
  refine zag (zdp zba rfl ?_)
  refine zag (zae (v := (zI 0)) rfl (zas ?_))
  obtain ⟨s10, hl10, g10⟩ := zdt h
  refine zbu (fun e w' => ∃ (out10 : Int) (u : Env), out10 = s10 ∧ e = upds [(3, (zak (some ⟨b1, 0, none⟩))), (7, (zaa .u32 out10))] u ∧ vL w w' [some b1] [zab [(zI t.Var), (zI t.Kind), (zac t.Negated), (zS t.Text)]] ∧ Keep w.heap.size [some b1] w2 [some b1] w' ∧ True) ?_ ?_
  ·
   refine zbb ?_
   refine zca hl10 (fun (ss : (Int × Int)) (e : Env) (w' : World) => match ss with | (out11, x10) => ∃ (u : Env), e = upds [(1, (zaa .u32 s)), (2, (zaa .u8 c)), (3, (zak (some ⟨b1, 0, none⟩))), (7, (zaa .u32 out11)), (15, (zI (t.Text.length : Int))), (16, (zI x10))] u ∧ vL w w' [some b1] [zab [(zI t.Var), (zI t.Kind), (zac t.Negated), (zS t.Text)]] ∧ Keep w.heap.size [some b1] w2 [some b1] w' ∧ True) ⟨_, (zdx ⟨rfl, rfl, rfl, rfl, rfl, rfl, trivial⟩), hL3, zbt, trivial⟩ ?_
   rintro ⟨out11, x10⟩ oo _ w10 ⟨u, rfl, hL10, K10, -⟩ h hd10
   rw [pNext_b1] at h
   refine zan (zaf rfl (zag (zck (x := x10) (y := (t.Text.length : Int)) ((x10 : Int) < (t.Text.length : Int)) rfl rfl zbk ?_)))
   refine zas (zan ?_)
   refine zbm ((x10 : Int) < (t.Text.length : Int)) rfl (fun hc10 => ?_) (fun hc10 => ?_)
   ·
    replace h := ite_t hc10 h
    refine zbl (zan (zbb (zan (zaf rfl (zag (zae (v := (zI x10)) rfl ?_))))))
    refine zag (zal (v := (zI x10)) rfl ?_)
    refine zas (zan (zan (zaf rfl (zag (zae (v := (zaa .u32 s)) rfl ?_)))))
    refine zag (zae (v := (zI x10)) rfl ?_)
    obtain ⟨u10, q10, h⟩ := zdt h
    have q11 := chk_some q10
    refine zag (OpY.ishr (x := s) (y := x10) rfl rfl q11 ?_)
    refine zag (OpY.iand (x := (bshr .u32 s x10)) (y := 1) rfl rfl ?_)
    refine zag (zdn (x := (band .u32 (bshr .u32 s x10) 1)) (y := 0) (((band .u32 (bshr .u32 s x10) 1) : Int) = 0) rfl rfl zbk (zas ?_))
    refine zbm (((band .u32 (bshr .u32 s x10) 1) : Int) = 0) rfl (fun hc11 => ?_) (fun hc11 => ?_)
    ·
     replace h := ite_t hc11 h
     refine zcf rfl (zaf rfl (zag (zce (x := x10) (y := 1) (z := (iw (x10 + 1))) rfl rfl rfl ?_)))
     refine zag (zae (v := (zI (iw (x10 + 1)))) rfl (zas ?_))
     obtain rfl := zad h
     refine zat ⟨(out11, (iw (x10 + 1))), rfl, ?_⟩
     exact ⟨_, (zdx ⟨rfl, rfl, rfl, rfl, rfl, rfl, trivial⟩), hL10, K10, trivial⟩
    replace h := ite_f hc11 h
    refine zbl (zan (zaf rfl (zag (zau (q := 3) zbg rfl ti9 rfl rfl rfl ?_))))
    refine zag (zav (v := (zS t.Text)) zba rfl rfl (hL10.at 0 rfl rfl) rfl ?_)
    refine zag (zae (v := (zI x10)) rfl ?_)
    obtain ⟨x11, n10, q13, q14, -, h⟩ := zix h
    refine zag (OpY.sIndex (xs := t.Text) (i := x10) (n := n10) (a := x11) zba rfl rfl q13 q14 ?_)
    refine zag (zal (v := (zaa .u8 (UInt8.toNat x11 : Int))) rfl ?_)
    refine zas (zbb (zan (zaf rfl (zag (zae (v := (zaa .u8 (UInt8.toNat x11 : Int))) rfl ?_)))))
    refine zag (zdn (x := (UInt8.toNat x11 : Int)) (y := 37) (((UInt8.toNat x11 : Int) : Int) = 37) rfl rfl zbk ?_)
    refine zag (zal (v := (zac (decide (((UInt8.toNat x11 : Int) : Int) = 37)))) rfl (zas ?_))
    refine zbm (((UInt8.toNat x11 : Int) : Int) = 37) rfl (fun hc12 => ?_) (fun hc12 => ?_)
    ·
     replace h := ite_t hc12 h
     refine zaf rfl (zag (zae (v := (zaa .u32 out11)) rfl ?_))
     refine zag (zae (v := (zI x10)) rfl ?_)
     obtain ⟨u11, q15, h⟩ := zdt h
     have q16 := chk_some q15
     refine zag (OpY.ishl (x := 1) (y := x10) rfl rfl q16 ?_)
     refine zag (OpY.ior (x := out11) (y := (bshl .u32 1 x10)) rfl rfl ?_)
     refine zag (zal (v := (zaa .u32 (bor .u32 out11 (bshl .u32 1 x10)))) rfl ?_)
     refine zas (zbh (zbh (zaf rfl (zag (zce (x := x10) (y := 1) (z := (iw (x10 + 1))) rfl rfl rfl ?_)))))
     refine zag (zae (v := (zI (iw (x10 + 1)))) rfl (zas ?_))
     obtain rfl := zad h
     refine zat ⟨((bor .u32 out11 (bshl .u32 1 x10)), (iw (x10 + 1))), rfl, ?_⟩
     exact ⟨_, (zdx ⟨rfl, rfl, rfl, rfl, rfl, rfl, trivial⟩), hL10, K10, trivial⟩
    replace h := ite_f hc12 h
    refine zan ?_
    obtain ⟨s11, h, g11⟩ := zdt h
    refine zbu (fun e w' => ∃ (x12 : Bool) (u : Env), x12 = s11 ∧ e = upds [(1, (zaa .u32 s)), (2, (zaa .u8 c)), (3, (zak (some ⟨b1, 0, none⟩))), (7, (zaa .u32 out11)), (8, (zI x10)), (15, (zI (t.Text.length : Int))), (16, (zI x10)), (35, (zac x12))] u ∧ vL w w' [some b1] [zab [(zI t.Var), (zI t.Kind), (zac t.Negated), (zS t.Text)]] ∧ Keep w.heap.size [some b1] w10 [some b1] w' ∧ True) ?_ ?_
    ·
     refine zaf rfl (zag (zae (v := (zaa .u8 (UInt8.toNat x11 : Int))) rfl ?_))
     refine zag (zdn (x := (UInt8.toNat x11 : Int)) (y := 95) (((UInt8.toNat x11 : Int) : Int) = 95) rfl rfl zbk ?_)
     refine zag (zae (v := (zac (decide (((UInt8.toNat x11 : Int) : Int) = 95)))) rfl ?_)
     by_cases hc13 : ((UInt8.toNat x11 : Int) : Int) = 95
     ·
      replace h := ite_t hc13 h
      refine zbe rfl rfl (zdv hc13) (zbe rfl rfl (zdv hc13) (zbe rfl rfl (zdv hc13) ?_))
      refine zag (zbr (t := (decide (((UInt8.toNat x11 : Int) : Int) = 95))) (v := zT) rfl (zdv hc13) rfl ?_)
      refine zag (zal (v := zT) rfl (zas ?_))
      obtain rfl := zad h
      refine zat ?_
      exact ⟨true, _, rfl, (zdx ⟨rfl, rfl, rfl, rfl, rfl, rfl, rfl, rfl, trivial⟩), hL10, zbt, trivial⟩
     replace h := ite_f hc13 h
     refine zaz rfl rfl (zdu hc13) (zae (v := (zaa .u8 (UInt8.toNat x11 : Int))) rfl ?_)
     refine zaz rfl rfl (zdu hc13) (zae (v := (zaa .u8 c)) rfl ?_)
     refine zaz rfl rfl (zdu hc13) (zdn (x := (UInt8.toNat x11 : Int)) (y := c) (((UInt8.toNat x11 : Int) : Int) = c) rfl rfl zbk ?_)
     refine zag (zbp (t := (decide (((UInt8.toNat x11 : Int) : Int) = 95))) (v := (zac (decide (((UInt8.toNat x11 : Int) : Int) = c)))) rfl (zdu hc13) rfl ?_)
     refine zag (zal (v := (zac (decide (((UInt8.toNat x11 : Int) : Int) = c)))) rfl (zas ?_))
     obtain rfl := zad h
     refine zat ?_
     exact ⟨(decide (((UInt8.toNat x11 : Int) : Int) = c)), _, rfl, (zdx ⟨rfl, rfl, rfl, rfl, rfl, rfl, rfl, rfl, trivial⟩), hL10, zbt, trivial⟩
    rintro _ w11 ⟨x12, u, rfl, rfl, hL11, K11, -⟩
    replace h := g11
    try dsimp only at h
    refine zch x12 rfl (fun hc14 => ?_) (fun hc14 => ?_)
    ·
     replace h := ite_t hc14 h
     refine zaf rfl (zag (zae (v := (zaa .u32 out11)) rfl ?_))
     refine zag (zae (v := (zI x10)) rfl ?_)
     refine zag (zce (x := x10) (y := 1) (z := (iw (x10 + 1))) rfl rfl rfl ?_)
     obtain ⟨u12, q17, h⟩ := zdt h
     have q18 := chk_some q17
     refine zag (OpY.ishl (x := 1) (y := (iw (x10 + 1))) rfl rfl q18 ?_)
     refine zag (OpY.ior (x := out11) (y := (bshl .u32 1 (iw (x10 + 1)))) rfl rfl ?_)
     refine zag (zal (v := (zaa .u32 (bor .u32 out11 (bshl .u32 1 (iw (x10 + 1)))))) rfl ?_)
     refine zas (zbh (zbh (zaf rfl (zag (zce (x := x10) (y := 1) (z := (iw (x10 + 1))) rfl rfl rfl ?_)))))
     refine zag (zae (v := (zI (iw (x10 + 1)))) rfl (zas ?_))
     obtain rfl := zad h
     refine zat ⟨((bor .u32 out11 (bshl .u32 1 (iw (x10 + 1)))), (iw (x10 + 1))), rfl, ?_⟩
     exact ⟨_, (zdx ⟨rfl, rfl, rfl, rfl, rfl, rfl, trivial⟩), hL11, (zam K10 K11), trivial⟩
    replace h := ite_f hc14 h
    refine zbl (zbh (zbh (zaf rfl (zag (zce (x := x10) (y := 1) (z := (iw (x10 + 1))) rfl rfl rfl ?_)))))
    refine zag (zae (v := (zI (iw (x10 + 1)))) rfl (zas ?_))
    obtain rfl := zad h
    refine zat ⟨(out11, (iw (x10 + 1))), rfl, ?_⟩
    exact ⟨_, (zdx ⟨rfl, rfl, rfl, rfl, rfl, rfl, trivial⟩), hL11, (zam K10 K11), trivial⟩
   replace h := ite_f hc10 h
   refine zcf rfl ?_
   obtain rfl := zad h
   obtain rfl := hd10 _ rfl
   replace h := g10
   try dsimp only at h
   refine zat ?_
   exact ⟨out11, _, rfl, (zdx ⟨rfl, rfl, trivial⟩), hL10, K10, trivial⟩
  rintro _ w12 ⟨out10, u, rfl, rfl, hL12, K12, -⟩
  replace h := g10
  try dsimp only at h
  refine zan (zaf rfl (zag (zau (q := 3) zbg rfl ti9 rfl rfl rfl ?_)))
  refine zag (zav (v := (zS t.Text)) zba rfl rfl (hL12.at 0 rfl rfl) rfl ?_)
  refine zag (zae (v := (zaa .u32 out10)) rfl ?_)
  obtain ⟨r10, q19, h⟩ := zdt h
  refine zag (zbz en69 rfl rfl (pClosure_w N t.Text out10 _ Any r10 q19) ?_)
  rintro _ w13 hE10 ⟨rfl, -⟩
  have hL13 := hL12.ext hE10
  refine zag (zal (v := (zaa .u32 r10)) rfl ?_)
  refine zas (zbq ?_)
  obtain rfl := zad h
  refine ⟨[(zaa .u32 r10)], zrt, ⟨_, rfl, hL13.done, ?_⟩⟩
  exact zrt
 replace h := ite_f hc6 h
 refine zbl (zan (zbb (zan (zaf rfl (zag (zae (v := (zaa .u32 s)) rfl ?_))))))
 refine zag (OpY.geq (x := s) (y := 100) ((s : Int) ≥ 100) rfl rfl zbk ?_)
 refine zag (zal (v := (zac (decide ((s : Int) ≥ 100)))) rfl (zas ?_))
 refine zbm ((s : Int) ≥ 100) rfl (fun hc15 => ?_) (fun hc15 => ?_)
 ·
  replace h := ite_t hc15 h
  refine zan (zaf rfl (zag (zae (v := (zaa .u32 s)) rfl ?_)))
  refine zag (zal (v := (zaa .u32 s)) rfl ?_)
  refine zas (zbq ?_)
  obtain rfl := zad h
  refine ⟨[(zaa .u32 s)], zrt, ⟨_, rfl, hL3.done, ?_⟩⟩
  exact zrt
 replace h := ite_f hc15 h
 refine zan ?_
 obtain ⟨s12, h, g12⟩ := zdt h
 refine zbu (fun e w' => ∃ (x13 : Bool) (u : Env), x13 = s12 ∧ e = upds [(1, (zaa .u32 s)), (2, (zaa .u8 c)), (3, (zak (some ⟨b1, 0, none⟩))), (57, (zac x13))] u ∧ vL w w' [some b1] [zab [(zI t.Var), (zI t.Kind), (zac t.Negated), (zS t.Text)]] ∧ Keep w.heap.size [some b1] w2 [some b1] w' ∧ True) ?_ ?_
 ·
  refine zaf rfl (zag (zae (v := (zaa .u32 s)) rfl ?_))
  refine zag (OpY.convInt (x := s) (z := (iw s)) zdc zaw rfl rfl ?_)
  refine zag (zau (q := 3) zbg rfl ti9 rfl rfl rfl ?_)
  refine zag (zav (v := (zS t.Text)) zba rfl rfl (hL3.at 0 rfl rfl) rfl ?_)
  refine zag (zdp zba rfl ?_)
  refine zag (zdn (x := (iw s)) (y := (t.Text.length : Int)) (((iw s) : Int) = (t.Text.length : Int)) rfl rfl zbk ?_)
  refine zag (zae (v := (zac (decide (((iw s) : Int) = (t.Text.length : Int))))) rfl ?_)
  by_cases hc16 : ((iw s) : Int) = (t.Text.length : Int)
  ·
   replace h := ite_t hc16 h
   refine zbe rfl rfl (zdv hc16) (zbe rfl rfl (zdv hc16) (zbe rfl rfl (zdv hc16) (zbe rfl rfl (zdv hc16) (zbe rfl rfl (zdv hc16) (zbe rfl rfl (zdv hc16) ?_)))))
   refine zag (zbr (t := (decide (((iw s) : Int) = (t.Text.length : Int)))) (v := zT) rfl (zdv hc16) rfl ?_)
   refine zag (zal (v := zT) rfl (zas ?_))
   obtain rfl := zad h
   refine zat ?_
   exact ⟨true, _, rfl, (zdx ⟨rfl, rfl, rfl, rfl, trivial⟩), hL3, zbt, trivial⟩
  replace h := ite_f hc16 h
  refine zaz rfl rfl (zdu hc16) (zae (v := (zaa .u8 c)) rfl ?_)
  refine zaz rfl rfl (zdu hc16) (zau (q := 3) zbg rfl ti9 rfl rfl rfl ?_)
  refine zaz rfl rfl (zdu hc16) (zav (v := (zS t.Text)) zba rfl rfl (hL3.at 0 rfl rfl) rfl ?_)
  refine zaz rfl rfl (zdu hc16) (zae (v := (zaa .u32 s)) rfl ?_)
  obtain ⟨x14, n11, q21, q22, -, h⟩ := zix h
  refine zaz rfl rfl (zdu hc16) (OpY.sIndex (xs := t.Text) (i := s) (n := n11) (a := x14) zba rfl rfl q21 q22 ?_)
  refine zaz rfl rfl (zdu hc16) (OpY.gtr (x := c) (y := (UInt8.toNat x14 : Int)) ((c : Int) > (UInt8.toNat x14 : Int)) rfl rfl zbk ?_)
  refine zag (zbp (t := (decide (((iw s) : Int) = (t.Text.length : Int)))) (v := (zac (decide ((c : Int) > (UInt8.toNat x14 : Int))))) rfl (zdu hc16) rfl ?_)
  refine zag (zal (v := (zac (decide ((c : Int) > (UInt8.toNat x14 : Int))))) rfl (zas ?_))
  obtain rfl := zad h
  refine zat ?_
  exact ⟨(decide ((c : Int) > (UInt8.toNat x14 : Int))), _, rfl, (zdx ⟨rfl, rfl, rfl, rfl, trivial⟩), hL3, zbt, trivial⟩
 rintro _ w14 ⟨x13, u, rfl, rfl, hL14, K13, -⟩
 replace h := g12
 try dsimp only at h
 refine zch x13 rfl (fun hc17 => ?_) (fun hc17 => ?_)
 ·
  replace h := ite_t hc17 h
  refine zan (zaf rfl (zag (zal (v := (zaa .u32 101)) rfl ?_)))
  refine zas (zbq ?_)
  obtain rfl := zad h
  refine ⟨[(zaa .u32 101)], zrt, ⟨_, rfl, hL14.done, ?_⟩⟩
  exact zrt
 replace h := ite_f hc17 h
 refine zan (zaf rfl (zag (zae (v := (zaa .u8 c)) rfl ?_)))
 refine zag (zau (q := 3) zbg rfl ti9 rfl rfl rfl ?_)
 refine zag (zav (v := (zS t.Text)) zba rfl rfl (hL14.at 0 rfl rfl) rfl ?_)
 refine zag (zae (v := (zaa .u32 s)) rfl ?_)
 obtain ⟨x15, n12, q24, q25, -, h⟩ := zix h
 refine zag (OpY.sIndex (xs := t.Text) (i := s) (n := n12) (a := x15) zba rfl rfl q24 q25 ?_)
 refine zag (zck (x := c) (y := (UInt8.toNat x15 : Int)) ((c : Int) < (UInt8.toNat x15 : Int)) rfl rfl zbk ?_)
 refine zag (zal (v := (zac (decide ((c : Int) < (UInt8.toNat x15 : Int))))) rfl (zas ?_))
 refine zbm ((c : Int) < (UInt8.toNat x15 : Int)) rfl (fun hc18 => ?_) (fun hc18 => ?_)
 ·
  replace h := ite_t hc18 h
  refine zan (zaf rfl (zag (zal (v := (zaa .u32 100)) rfl ?_)))
  refine zas (zbq ?_)
  obtain rfl := zad h
  refine ⟨[(zaa .u32 100)], zrt, ⟨_, rfl, hL14.done, ?_⟩⟩
  exact zrt
 replace h := ite_f hc18 h
 refine zbl (zbh (zan (zaf rfl (zag (zae (v := (zaa .u32 s)) rfl ?_)))))
 refine zag (zce (x := s) (y := 1) (z := (uw32 (s + 1))) rfl rfl rfl ?_)
 refine zag (zal (v := (zaa .u32 (uw32 (s + 1)))) rfl ?_)
 refine zas (zbq ?_)
 obtain rfl := zad h
 refine ⟨[(zaa .u32 (uw32 (s + 1)))], zrt, ⟨_, rfl, hL14.done, ?_⟩⟩
 exact zrt
theorem pPassed_w (N : Nat) (t : TTest) (s : Int)  (w : World) (S : Nat → Prop)  (r : Bool) (h : pPassed N t s = some r) :
  Calls Try.prog 55 #[(zbo #[(zI t.Var), (zI t.Kind), (zac t.Negated), (zS t.Text)]), (zaa .u32 s)] w (Ret w (fun v w' => (zac r) = v ∧ True)) := by
 unfold pPassed at h
 have hL : vL w w [] [] := Go.X.Loc.begin0 w
 refine calls_of (l := [(zbo #[(zI t.Var), (zI t.Kind), (zac t.Negated), (zS t.Text)]), (zaa .u32 s)]) (rl := [.tmp 4]) (n := 51) Try.func55 rfl rfl rfl (zai rfl) ?_
 refine zan (zaf rfl (zag (zdr (cs := [(zI t.Var), (zI t.Kind), (zac t.Negated), (zS t.Text)]) rfl rfl hL ?_)))
 intro b1 w2 hL3 hS5
 refine zag (zal (v := zF) rfl ?_)
 refine zas (zan (zaf rfl (zag (zal (v := zF) rfl ?_))))
 refine zas (zan (zan (zaf rfl (zag (zau (q := 1) zbg rfl ti3 rfl rfl rfl ?_)))))
 refine zag (zav (v := (zI t.Kind)) zaw rfl rfl (hL3.at 0 rfl rfl) rfl (zas ?_))
 obtain ⟨s10, h, g10⟩ := zdt h
 refine zbu (fun e w' => ∃ (ok10 : Bool) (u : Env), ok10 = s10 ∧ e = upds [(2, (zak (some ⟨b1, 0, none⟩))), (5, (zac ok10))] u ∧ vL w w' [some b1] [zab [(zI t.Var), (zI t.Kind), (zac t.Negated), (zS t.Text)]] ∧ Keep w.heap.size [some b1] w2 [some b1] w' ∧ True) ?_ ?_
 ·
  refine zbb (zan (zaf rfl (zag (zdn (x := t.Kind) (y := 1) ((t.Kind : Int) = 1) rfl rfl zbk ?_))))
  refine zag (zal (v := (zac (decide ((t.Kind : Int) = 1)))) rfl (zas ?_))
  refine zbm ((t.Kind : Int) = 1) rfl (fun hc10 => ?_) (fun hc10 => ?_)
  ·
   replace h := ite_t hc10 h
   refine zaf rfl (zag (zae (v := (zaa .u32 s)) rfl ?_))
   refine zag (zau (q := 3) zbg rfl ti9 rfl rfl rfl ?_)
   refine zag (zav (v := (zS t.Text)) zba rfl rfl (hL3.at 0 rfl rfl) rfl ?_)
   refine zag (zdp zba rfl ?_)
   obtain ⟨u10, q10, h⟩ := zdt h
   have q11 := chk_some q10
   refine zag (OpY.ishr (x := s) (y := (t.Text.length : Int)) rfl rfl q11 ?_)
   refine zag (OpY.iand (x := (bshr .u32 s (t.Text.length : Int))) (y := 1) rfl rfl ?_)
   refine zag (zdn (x := (band .u32 (bshr .u32 s (t.Text.length : Int)) 1)) (y := 1) (((band .u32 (bshr .u32 s (t.Text.length : Int)) 1) : Int) = 1) rfl rfl zbk ?_)
   refine zag (zal (v := (zac (decide (((band .u32 (bshr .u32 s (t.Text.length : Int)) 1) : Int) = 1)))) rfl ?_)
   refine zas (zbh ?_)
   obtain rfl := zad h
   refine zat ?_
   exact ⟨(decide (((band .u32 (bshr .u32 s (t.Text.length : Int)) 1) : Int) = 1)), _, rfl, (zdx ⟨rfl, rfl, trivial⟩), hL3, zbt, trivial⟩
  replace h := ite_f hc10 h
  refine zan (zaf rfl (zag (zdn (x := t.Kind) (y := 0) ((t.Kind : Int) = 0) rfl rfl zbk ?_)))
  refine zag (zal (v := (zac (decide ((t.Kind : Int) = 0)))) rfl (zas ?_))
  refine zbm ((t.Kind : Int) = 0) rfl (fun hc11 => ?_) (fun hc11 => ?_)
  ·
   replace h := ite_t hc11 h
   refine zaf rfl (zag (zae (v := (zaa .u32 s)) rfl ?_))
   refine zag (OpY.convInt (x := s) (z := (iw s)) zdc zaw rfl rfl ?_)
   refine zag (zau (q := 3) zbg rfl ti9 rfl rfl rfl ?_)
   refine zag (zav (v := (zS t.Text)) zba rfl rfl (hL3.at 0 rfl rfl) rfl ?_)
   refine zag (zdp zba rfl ?_)
   refine zag (zdn (x := (iw s)) (y := (t.Text.length : Int)) (((iw s) : Int) = (t.Text.length : Int)) rfl rfl zbk ?_)
   refine zag (zal (v := (zac (decide (((iw s) : Int) = (t.Text.length : Int))))) rfl ?_)
   refine zas (zbh ?_)
   obtain rfl := zad h
   refine zat ?_
   exact ⟨(decide (((iw s) : Int) = (t.Text.length : Int))), _, rfl, (zdx ⟨rfl, rfl, trivial⟩), hL3, zbt, trivial⟩
  replace h := ite_f hc11 h
  refine zan (zaf rfl (zag (zdn (x := t.Kind) (y := 2) ((t.Kind : Int) = 2) rfl rfl zbk ?_)))
  refine zag (zal (v := (zac (decide ((t.Kind : Int) = 2)))) rfl (zas ?_))
  refine zbm ((t.Kind : Int) = 2) rfl (fun hc12 => ?_) (fun hc12 => ?_)
  ·
   replace h := ite_t hc12 h
   refine zaf rfl (zag (zae (v := (zaa .u32 s)) rfl ?_))
   refine zag (zdn (x := s) (y := 100) ((s : Int) = 100) rfl rfl zbk ?_)
   refine zag (zae (v := (zac (decide ((s : Int) = 100)))) rfl ?_)
   by_cases hc13 : (s : Int) = 100
   ·
    replace h := ite_t hc13 h
    refine zbe rfl rfl (zdv hc13) (zbe rfl rfl (zdv hc13) (zbe rfl rfl (zdv hc13) (zbe rfl rfl (zdv hc13) (zbe rfl rfl (zdv hc13) (zbe rfl rfl (zdv hc13) ?_)))))
    refine zag (zbr (t := (decide ((s : Int) = 100))) (v := zT) rfl (zdv hc13) rfl ?_)
    refine zag (zal (v := zT) rfl ?_)
    refine zas (zbh ?_)
    obtain rfl := zad h
    refine zat ?_
    exact ⟨true, _, rfl, (zdx ⟨rfl, rfl, trivial⟩), hL3, zbt, trivial⟩
   replace h := ite_f hc13 h
   refine zaz rfl rfl (zdu hc13) (zae (v := (zaa .u32 s)) rfl ?_)
   refine zaz rfl rfl (zdu hc13) (OpY.convInt (x := s) (z := (iw s)) zdc zaw rfl rfl ?_)
   refine zaz rfl rfl (zdu hc13) (zau (q := 3) zbg rfl ti9 rfl rfl rfl ?_)
   refine zaz rfl rfl (zdu hc13) (zav (v := (zS t.Text)) zba rfl rfl (hL3.at 0 rfl rfl) rfl ?_)
   refine zaz rfl rfl (zdu hc13) (zdp zba rfl ?_)
   refine zaz rfl rfl (zdu hc13) (zck (x := (iw s)) (y := (t.Text.length : Int)) (((iw s) : Int) < (t.Text.length : Int)) rfl rfl zbk ?_)
   refine zag (zbp (t := (decide ((s : Int) = 100))) (v := (zac (decide (((iw s) : Int) < (t.Text.length : Int))))) rfl (zdu hc13) rfl ?_)
   refine zag (zal (v := (zac (decide (((iw s) : Int) < (t.Text.length : Int))))) rfl ?_)
   refine zas (zbh ?_)
   obtain rfl := zad h
   refine zat ?_
   exact ⟨(decide (((iw s) : Int) < (t.Text.length : Int))), _, rfl, (zdx ⟨rfl, rfl, trivial⟩), hL3, zbt, trivial⟩
  replace h := ite_f hc12 h
  refine zaf rfl (zag (zae (v := (zaa .u32 s)) rfl ?_))
  refine zag (zdn (x := s) (y := 100) ((s : Int) = 100) rfl rfl zbk ?_)
  refine zag (zae (v := (zac (decide ((s : Int) = 100)))) rfl ?_)
  by_cases hc14 : (s : Int) = 100
  ·
   replace h := ite_t hc14 h
   refine zbe rfl rfl (zdv hc14) (zbe rfl rfl (zdv hc14) (zbe rfl rfl (zdv hc14) (zbe rfl rfl (zdv hc14) (zbe rfl rfl (zdv hc14) (zbe rfl rfl (zdv hc14) ?_)))))
   refine zag (zbr (t := (decide ((s : Int) = 100))) (v := zT) rfl (zdv hc14) rfl ?_)
   refine zag (zal (v := zT) rfl ?_)
   refine zas (zbh ?_)
   obtain rfl := zad h
   refine zat ?_
   exact ⟨true, _, rfl, (zdx ⟨rfl, rfl, trivial⟩), hL3, zbt, trivial⟩
  replace h := ite_f hc14 h
  refine zaz rfl rfl (zdu hc14) (zae (v := (zaa .u32 s)) rfl ?_)
  refine zaz rfl rfl (zdu hc14) (OpY.convInt (x := s) (z := (iw s)) zdc zaw rfl rfl ?_)
  refine zaz rfl rfl (zdu hc14) (zau (q := 3) zbg rfl ti9 rfl rfl rfl ?_)
  refine zaz rfl rfl (zdu hc14) (zav (v := (zS t.Text)) zba rfl rfl (hL3.at 0 rfl rfl) rfl ?_)
  refine zaz rfl rfl (zdu hc14) (zdp zba rfl ?_)
  refine zaz rfl rfl (zdu hc14) (OpY.leq (x := (iw s)) (y := (t.Text.length : Int)) (((iw s) : Int) ≤ (t.Text.length : Int)) rfl rfl zbk ?_)
  refine zag (zbp (t := (decide ((s : Int) = 100))) (v := (zac (decide (((iw s) : Int) ≤ (t.Text.length : Int))))) rfl (zdu hc14) rfl ?_)
  refine zag (zal (v := (zac (decide (((iw s) : Int) ≤ (t.Text.length : Int))))) rfl ?_)
  refine zas (zbh ?_)
  obtain rfl := zad h
  refine zat ?_
  exact ⟨(decide (((iw s) : Int) ≤ (t.Text.length : Int))), _, rfl, (zdx ⟨rfl, rfl, trivial⟩), hL3, zbt, trivial⟩
 rintro _ w10 ⟨ok10, u, rfl, rfl, hL10, K10, -⟩
 replace h := g10
 try dsimp only at h
 refine zan (zaf rfl (zag (zae (v := (zac ok10)) rfl ?_)))
 refine zag (zau (q := 2) zbg rfl ti4 rfl rfl rfl ?_)
 refine zag (zav (v := (zac t.Negated)) zdm rfl rfl (hL10.at 0 rfl rfl) rfl ?_)
 refine zag (OpY.neqBool (x := ok10) (y := t.Negated) zdm rfl rfl ?_)
 refine zag (zal (v := (zac (!(ok10 == t.Negated)))) rfl ?_)
 refine zas (zbq ?_)
 obtain rfl := zad h
 refine ⟨[(zac (!(ok10 == t.Negated)))], zrt, ⟨_, rfl, hL10.done, ?_⟩⟩
 exact zrt
theorem pPasses_w (N : Nat) (t : TTest) (text : (List UInt8))  (w : World) (S : Nat → Prop)  (r : Bool) (h : pPasses N t text = some r) :
  Calls Try.prog 28 #[(zbo #[(zI t.Var), (zI t.Kind), (zac t.Negated), (zS t.Text)]), (zS text)] w (Ret w (fun v w' => (zac r) = v ∧ True)) := by
 unfold pPasses at h
 have hL : vL w w [] [] := Go.X.Loc.begin0 w
 refine calls_of (l := [(zbo #[(zI t.Var), (zI t.Kind), (zac t.Negated), (zS t.Text)]), (zS text)]) (rl := [.tmp 4]) (n := 25) Try.func28 rfl rfl rfl (zai rfl) ?_
 refine zan (zaf rfl (zag (zdr (cs := [(zI t.Var), (zI t.Kind), (zac t.Negated), (zS t.Text)]) rfl rfl hL ?_)))
 intro b1 w2 hL3 hS5
 refine zag (zal (v := zF) rfl ?_)
 refine zas (zan (zaf rfl (zag (zcu (vs := [(zI t.Var), (zI t.Kind), (zac t.Negated), (zS t.Text)]) zbg rfl ti44 rfl (hL3.at 0 rfl rfl) rfl rfl ?_))))
 obtain ⟨r6, q7, h⟩ := zdt h
 refine zag (zbz en53 rfl rfl (pBegin_w N t _ Any r6 q7) ?_)
 rintro _ w9 hE10 ⟨rfl, -⟩
 have hL10 := hL3.ext hE10
 refine zag (zal (v := (zaa .u32 r6)) rfl ?_)
 refine zas (zan (zan (zaf rfl (zag (zae (v := (zS text)) rfl ?_)))))
 refine zag (OpY.strBytes (H := (vH w None [some b1] w9)) (s := text) zba zcs zcx rfl hL10 ?_)
 intro b10 cap10 sp10 cs10 w10 hE11 hc10 hL11 hS10
 have K10 := ks w hS10
 have f10 := (hE11.mono (K10 None))
 refine zag (zcj (pre := []) (r := (rInt .u8)) (xs := (sby text)) zcs rfl (hL11.at 0 rfl rfl) f10 rfl rfl ?_)
 refine zag (zae (v := (zI 0)) rfl (zas ?_))
 obtain ⟨s10, hl10, g10⟩ := zdt h
 refine zbu (fun e w' => ∃ (s11 : Int) (u : Env), s11 = s10 ∧ e = upds [(2, (zak (some ⟨b1, 0, none⟩))), (5, (zaa .u32 s11))] u ∧ vL w w' [some b1] [zab [(zI t.Var), (zI t.Kind), (zac t.Negated), (zS t.Text)]] ∧ Keep w.heap.size [some b10, some b1] w10 [some b1] w' ∧ True) ?_ ?_
 ·
  refine zbb ?_
  have hp10 := hL11.pick [1, 0] rfl rfl rfl
  have hL12 : vL w w10 [some b1, some b10] [zab [(zI t.Var), (zI t.Kind), (zac t.Negated), (zS t.Text)], zab ([] ++ (cs10 ++ sp10))] := hp10.1
  have K11 := ks w hp10.2
  refine zca hl10 (fun (ss : (Int × Int)) (e : Env) (w' : World) => match ss with | (s12, x10) => ∃ (u : Env), e = upds [(2, (zak (some ⟨b1, 0, none⟩))), (5, (zaa .u32 s12)), (11, (osv (some b10) 0 (List.length (sby text)) cap10)), (12, (zI (List.length (sby text) : Int))), (13, (zI x10))] u ∧ vL w w' [some b1, some b10] [zab [(zI t.Var), (zI t.Kind), (zac t.Negated), (zS t.Text)], zab ([] ++ (cs10 ++ sp10))] ∧ Keep w.heap.size [some b10, some b1] w10 [some b1, some b10] w' ∧ True) ⟨_, (zdx ⟨rfl, rfl, rfl, rfl, rfl, trivial⟩), hL12, K11, trivial⟩ ?_
  rintro ⟨s12, x10⟩ oo _ w11 ⟨u, rfl, hL13, K12, -⟩ h hd10
  rw [pPasses_b1] at h
  refine zan (zaf rfl (zag (zck (x := x10) (y := (List.length (sby text) : Int)) ((x10 : Int) < (List.length (sby text) : Int)) rfl rfl zbk ?_)))
  refine zas (zan ?_)
  refine zbm ((x10 : Int) < (List.length (sby text) : Int)) rfl (fun hc11 => ?_) (fun hc11 => ?_)
  ·
   replace h := ite_t hc11 h
   refine zbl (zan (zbb (zan (zaf rfl ?_))))
   obtain ⟨x11, n10, q11, q12, q13, h⟩ := zix h
   refine zag (zbd (r := (rInt .u8)) (b := b10) (o := 0) (n := n10) (m := (List.length (sby text))) (xs := (sby text)) (q := (0 + n10 * (rInt .u8).sz)) zcs ti5 rfl rfl rfl q11 q13 rfl ?_)
   have f11 := (f10.mono (K12 None))
   obtain ⟨vs10, q14, q15, q16⟩ := zee (pre := []) (sp := sp10) f11 q12
   obtain rfl := q15
   refine zag (zbx (v := (zaa .u8 x11)) zcx rfl rfl (hL13.at 1 rfl rfl) q16 ?_)
   refine zag (zal (v := (zaa .u8 x11)) rfl ?_)
   refine zas (zaf rfl (zag (zcu (vs := [(zI t.Var), (zI t.Kind), (zac t.Negated), (zS t.Text)]) zbg rfl ti44 rfl (hL13.at 0 rfl rfl) rfl rfl ?_)))
   refine zag (zae (v := (zaa .u32 s12)) rfl ?_)
   refine zag (zae (v := (zaa .u8 x11)) rfl ?_)
   obtain ⟨r10, q17, h⟩ := zdt h
   refine zag (zbz en54 rfl rfl (pNext_w N t s12 x11 _ Any r10 q17) ?_)
   rintro _ w12 hE12 ⟨rfl, -⟩
   obtain ⟨hL14, K13⟩ := zl hL13 hE12
   refine zag (zal (v := (zaa .u32 r10)) rfl ?_)
   refine zas (zbh (zaf rfl (zag (zce (x := x10) (y := 1) (z := (iw (x10 + 1))) rfl rfl rfl ?_))))
   refine zag (zae (v := (zI (iw (x10 + 1)))) rfl (zas ?_))
   obtain rfl := zad h
   refine zat ⟨(r10, (iw (x10 + 1))), rfl, ?_⟩
   exact ⟨_, (zdx ⟨rfl, rfl, rfl, rfl, rfl, trivial⟩), hL14, (zam K12 K13), trivial⟩
  replace h := ite_f hc11 h
  refine zcf rfl ?_
  have hp11 := hL13.pick [0] rfl rfl rfl
  have hL15 : vL w w11 [some b1] [zab [(zI t.Var), (zI t.Kind), (zac t.Negated), (zS t.Text)]] := hp11.1
  have K14 := ks w hp11.2
  obtain rfl := zad h
  obtain rfl := hd10 _ rfl
  replace h := g10
  try dsimp only at h
  refine zat ?_
  exact ⟨s12, _, rfl, (zdx ⟨rfl, rfl, trivial⟩), hL15, (zam K12 K14), trivial⟩
 rintro _ w13 ⟨s11, u, rfl, rfl, hL16, K15, -⟩
 replace h := g10
 try dsimp only at h
 refine zan (zaf rfl (zag (zcu (vs := [(zI t.Var), (zI t.Kind), (zac t.Negated), (zS t.Text)]) zbg rfl ti44 rfl (hL16.at 0 rfl rfl) rfl rfl ?_)))
 refine zag (zae (v := (zaa .u32 s11)) rfl ?_)
 obtain ⟨r11, q18, h⟩ := zdt h
 refine zag (zbz en55 rfl rfl (pPassed_w N t s11 _ Any r11 q18) ?_)
 rintro _ w14 hE13 ⟨rfl, -⟩
 have hL17 := hL16.ext hE13
 refine zag (zal (v := (zac r11)) rfl ?_)
 refine zas (zbq ?_)
 obtain rfl := zad h
 refine ⟨[(zac r11)], zrt, ⟨_, rfl, hL17.done, ?_⟩⟩
 exact zrt
theorem pKey_w (N : Nat) (l : (List Int)) (left : Int) (l_v : Value) (w : World) (S : Nat → Prop) (l_h : Rs (rInt .u32) (vH w S [] w) l_v l) (r : (List UInt8)) (h : pKey N l left = some r) :
  Calls Try.prog 74 #[l_v, (zI left)] w (Ret w (fun v w' => (zS r) = v ∧ True)) := by
 unfold pKey at h
 have hL : vL w w [] [] := Go.X.Loc.begin0 w
 refine calls_of (l := [l_v, (zI left)]) (rl := [.tmp 4]) (n := 31) Try.func74 rfl rfl rfl (zai rfl) ?_
 refine zan (zaf rfl (zag (zal (v := (zS ([] : List UInt8))) rfl ?_)))
 refine zas (zan (zaf rfl (zag (zae (v := (zI left)) rfl ?_))))
 refine zag (OpY.convInt (x := left) (z := (uw8 left)) zaw zcx rfl rfl ?_)
 have hE2 : Els (rInt .u8) (vH w None [] w) [(zaa .u8 (uw8 left))] [(uw8 left)] := (zcp (a := [(zaa .u8 (uw8 left))]) rfl zcq)
 refine zag (zct (r := (rInt .u8)) (vs := [(zaa .u8 (uw8 left))]) (css := [[(zaa .u8 (uw8 left))]]) (xs := [(uw8 left)]) zcs ti5 (zai rfl) rfl rfl ⟨rfl, rfl, trivial⟩ (zai rfl) hE2 rfl hL ?_)
 intro b1 w5 hc3 hL6 hS8
 have K7 := ks w hS8
 refine zag (zal (v := (osv (some b1) 0 1 1)) rfl ?_)
 refine zas (zan (zan (zaf rfl (zag (zae (v := l_v) rfl ?_)))))
 have f9 := (l_h.mono (K7 S))
 refine zag (zcc (v := l_v) zdg rfl f9 ?_)
 refine zag (zae (v := (zI 0)) rfl (zas ?_))
 obtain ⟨s10, hl10, g10⟩ := zdt h
 refine zbu (fun e w' => ∃ (b10 : (List Int)) (ob10 : Option Nat) (cap10 : Nat) (sp10 : List Value) (cs10 : List Value) (ln10 : Nat) (u : Env), b10 = s10 ∧ e = upds [(5, (osv ob10 0 ln10 cap10))] u ∧ vL w w' [ob10] [zab ([] ++ (cs10 ++ sp10))] ∧ Keep w.heap.size [some b1] w5 [ob10] w' ∧ Els (rInt .u8) (vH w None [ob10] w') cs10 b10 ∧ ln10 = List.length b10 ∧ (cs10 ++ sp10).length = cap10 * (rInt .u8).sz ∧ True) ?_ ?_
 ·
  refine zbb ?_
  have f10 := (hE2.mono (K7 None))
  refine zca hl10 (fun (ss : ((List Int) × Int)) (e : Env) (w' : World) => match ss with | (b11, x10) => ∃ (ob11 : Option Nat) (cap11 : Nat) (sp11 : List Value) (cs11 : List Value) (ln11 : Nat) (u : Env), e = upds [(5, (osv ob11 0 ln11 cap11)), (11, l_v), (12, (zI (l.length : Int))), (13, (zI x10))] u ∧ vL w w' [ob11] [zab ([] ++ (cs11 ++ sp11))] ∧ Keep w.heap.size [some b1] w5 [ob11] w' ∧ Els (rInt .u8) (vH w None [ob11] w') cs11 b11 ∧ ln11 = List.length b11 ∧ (cs11 ++ sp11).length = cap11 * (rInt .u8).sz ∧ True) ⟨some b1, 1, [], [(zaa .u8 (uw8 left))], 1, _, (zdx ⟨rfl, rfl, rfl, rfl, trivial⟩), hL6, zbt, f10, rfl, hc3, trivial⟩ ?_
  rintro ⟨b11, x10⟩ oo _ w10 ⟨ob11, cap11, sp11, cs11, ln11, u, rfl, hL10, K10, hE10, rfl, hc10, -⟩ h hd10
  rw [pKey_b1] at h
  refine zan (zaf rfl (zag (zck (x := x10) (y := (l.length : Int)) ((x10 : Int) < (l.length : Int)) rfl rfl zbk ?_)))
  refine zas (zan ?_)
  refine zbm ((x10 : Int) < (l.length : Int)) rfl (fun hc11 => ?_) (fun hc11 => ?_)
  ·
   replace h := ite_t hc11 h
   refine zbl (zan (zbb (zan (zaf rfl ?_))))
   obtain ⟨x11, n10, q11, q12, -, h⟩ := zix h
   have f11 := (f9.mono (K10 S))
   obtain ⟨b12, o10, c10, vs10, q13, q14, f12, q15⟩ := zcy f11 q12
   obtain rfl := q15
   refine zag (zcb (r := (rInt .u32)) (v := l_v) (n := n10) (m := (o10 + n10 * (rInt .u32).sz)) zdg ti79 rfl q13 rfl q11 q12 rfl ?_)
   refine zag (zcd (v := (zaa .u32 x11)) zdc rfl rfl zec f12 ?_)
   refine zag (zal (v := (zaa .u32 x11)) rfl ?_)
   refine zas (zaf rfl (zag (zae (v := (zO ob11 b11 cap11)) rfl ?_)))
   refine zag (zae (v := (zaa .u32 x11)) rfl ?_)
   refine zag (OpY.convInt (x := x11) (z := (uw8 x11)) zdc zcx rfl rfl ?_)
   refine zag (zae (v := (zaa .u32 x11)) rfl ?_)
   refine zag (OpY.ishr (x := x11) (y := 8) rfl rfl (by decide) ?_)
   refine zag (OpY.convInt (x := (bshr .u32 x11 8)) (z := (uw8 (bshr .u32 x11 8))) zdc zcx rfl rfl ?_)
   refine zag (zae (v := (zaa .u32 x11)) rfl ?_)
   refine zag (OpY.ishr (x := x11) (y := 16) rfl rfl (by decide) ?_)
   refine zag (OpY.convInt (x := (bshr .u32 x11 16)) (z := (uw8 (bshr .u32 x11 16))) zdc zcx rfl rfl ?_)
   have hE11 : Els (rInt .u8) (vH w None [ob11] w10) [(zaa .u8 (uw8 x11)), (zaa .u8 (uw8 (bshr .u32 x11 8))), (zaa .u8 (uw8 (bshr .u32 x11 16)))] [(uw8 x11), (uw8 (bshr .u32 x11 8)), (uw8 (bshr .u32 x11 16))] := (zcp (a := [(zaa .u8 (uw8 x11))]) rfl (zcp (a := [(zaa .u8 (uw8 (bshr .u32 x11 8)))]) rfl (zcp (a := [(zaa .u8 (uw8 (bshr .u32 x11 16)))]) rfl zcq)))
   refine zag (zct (r := (rInt .u8)) (vs := [(zaa .u8 (uw8 x11)), (zaa .u8 (uw8 (bshr .u32 x11 8))), (zaa .u8 (uw8 (bshr .u32 x11 16)))]) (css := [[(zaa .u8 (uw8 x11))], [(zaa .u8 (uw8 (bshr .u32 x11 8)))], [(zaa .u8 (uw8 (bshr .u32 x11 16)))]]) (xs := [(uw8 x11), (uw8 (bshr .u32 x11 8)), (uw8 (bshr .u32 x11 16))]) zcs ti5 (zai rfl) rfl rfl ⟨rfl, rfl, ⟨rfl, rfl, ⟨rfl, rfl, trivial⟩⟩⟩ (zai rfl) hE11 rfl hL10 ?_)
   intro b13 w11 hc12 hL11 hS10
   have K11 := ks w hS10
   obtain ⟨x12, q16, h⟩ := zdt h
   obtain ⟨q17, q18, q19⟩ := zek q16
   have f13 := (hE11.mono (K11 None))
   have f14 := (hE10.mono (K11 None))
   refine zag (zcw (r := (rInt .u8)) (H := (vH w None [some b13, ob11] w11)) (cs := cs11) (sp := sp11) (xs := b11) (ys := [(uw8 x11), (uw8 (bshr .u32 x11 8)), (uw8 (bshr .u32 x11 16))]) (Y := x12) (n := b11.length) (cap := cap11) (i := 1) zcs ti5 rfl rfl rfl rfl hL11 rfl rfl f14 rfl hc10 (Src.row (pre := []) (o := 0) (n := 3) (cap := 3) (hL11.at 0 rfl rfl) f13 rfl rfl rfl) (zcg (fun _ _ _ _ h => h) f13) q17 q18 q19 ?_)
   intro ob12 cap12 sp12 cs12 w12 hE12 hc13 (hL12 : vL w w12 [some b13, ob12] [zab ([] ++ ([(zaa .u8 (uw8 x11)), (zaa .u8 (uw8 (bshr .u32 x11 8))), (zaa .u8 (uw8 (bshr .u32 x11 16)))] ++ [])), zab ([] ++ (cs12 ++ sp12))]) hS11
   have K12 := ks w hS11
   refine zag (zal (v := (zO ob12 x12 cap12)) rfl ?_)
   refine zas (zbh (zaf rfl (zag (zce (x := x10) (y := 1) (z := (iw (x10 + 1))) rfl rfl rfl ?_))))
   refine zag (zae (v := (zI (iw (x10 + 1)))) rfl (zas ?_))
   have hp10 := hL12.pick [1] rfl rfl rfl
   have hL13 : vL w w12 [ob12] [zab ([] ++ (cs12 ++ sp12))] := hp10.1
   have K13 := ks w hp10.2
   have f15 := ((hE12.mono (K12 None)).mono (K13 None))
   obtain rfl := zad h
   refine zat ⟨(x12, (iw (x10 + 1))), rfl, ?_⟩
   exact ⟨ob12, cap12, sp12, cs12, x12.length, _, (zdx ⟨rfl, rfl, rfl, rfl, trivial⟩), hL13, (zam (zam (zam K10 K11) K12) K13), f15, rfl, hc13, trivial⟩
  replace h := ite_f hc11 h
  refine zcf rfl ?_
  obtain rfl := zad h
  obtain rfl := hd10 _ rfl
  replace h := g10
  try dsimp only at h
  refine zat ?_
  exact ⟨b11, ob11, cap11, sp11, cs11, b11.length, _, rfl, (zdx zrt), hL10, K10, hE10, rfl, hc10, trivial⟩
 rintro _ w13 ⟨b10, ob10, cap10, sp10, cs10, ln10, u, rfl, rfl, hL14, K14, hE13, rfl, hc14, -⟩
 replace h := g10
 try dsimp only at h
 refine zan (zaf rfl (zag (zae (v := (zO ob10 b10 cap10)) rfl ?_)))
 refine zag (OpY.strRow (pre := []) (cs := cs10) (sp := sp10) (xs := b10) zcs zba zcx rfl (hL14.at 0 rfl rfl) hE13 rfl ?_)
 refine zag (zal (v := (zS (bstr b10))) rfl ?_)
 refine zas (zbq ?_)
 obtain rfl := zad h
 refine ⟨[(zS (bstr b10))], zrt, ⟨_, rfl, hL14.done, ?_⟩⟩
 exact zrt
theorem pFind_w (N : Nat) : ∀ (f : TFinder) (l : (List Int)) (text : (List Int)) (left : Int) (f_b : Nat) (f_v1 : Value) (f_out_ob : Option Nat) (f_out_cap : Nat) (f_out_cs : List Value) (f_out_sp : List Value) (f_dead_b : Nat) (l_v : Value) (text_ob : Option Nat) (text_cap : Nat) (text_cs : List Value) (text_sp : List Value) (X : List (Option Nat)) (w : World) (S : Nat → Prop) (hL : Go.X.Loc X [] w w [some f_b, f_out_ob, some f_dead_b, text_ob] [zab [f_v1, (zI f.most), (zO f_out_ob f.out f_out_cap), (Value.map (some f_dead_b))], zab ([] ++ (f_out_cs ++ f_out_sp)), (mcont (fun x : List UInt8 => zS x) (fun x : Bool => zac x) f.dead), zab ([] ++ (text_cs ++ text_sp))]) (f_h1 : Rs rTTest (vH w S [some f_b, f_out_ob, some f_dead_b, text_ob] w) f_v1 f.tests) (f_out_hE : Els rStr (vH w S [some f_b, f_out_ob, some f_dead_b, text_ob] w) f_out_cs f.out) (f_out_hc : (f_out_cs ++ f_out_sp).length = f_out_cap * rStr.sz) (l_h : Rs (rInt .u32) (vH w S [some f_b, f_out_ob, some f_dead_b, text_ob] w) l_v l) (text_hE : Els (rInt .u8) (vH w S [some f_b, f_out_ob, some f_dead_b, text_ob] w) text_cs text) (text_hc : (text_cs ++ text_sp).length = text_cap * (rInt .u8).sz) (r : (Bool × (List (List UInt8)) × (List ((List UInt8) × Bool)))) (h : pFind N f l text left = some r), Calls Try.prog 64 #[(zak (some ⟨f_b, 0, none⟩)), l_v, (zO text_ob text text_cap), (zI left)] w (fun e w' => ∃ (o0out_ob : Option Nat) (o0out_cap : Nat) (o0out_cs : List Value) (o0out_sp : List Value) (o2_cs : List Value) (o2_sp : List Value), e = Ending.returned (zac r.1) ∧ Go.X.Loc X [] w w' [some f_b, o0out_ob, some f_dead_b, text_ob] [zab [f_v1, (zI f.most), (zO o0out_ob r.2.1 o0out_cap), (Value.map (some f_dead_b))], zab ([] ++ (o0out_cs ++ o0out_sp)), (mcont (fun x : List UInt8 => zS x) (fun x : Bool => zac x) r.2.2), zab ([] ++ (o2_cs ++ o2_sp))] ∧ Keep w.heap.size [some f_b, f_out_ob, some f_dead_b, text_ob] w [some f_b, o0out_ob, some f_dead_b, text_ob] w' ∧ Els rStr (vH w S [some f_b, o0out_ob, some f_dead_b, text_ob] w') o0out_cs r.2.1 ∧ (o0out_cs ++ o0out_sp).length = o0out_cap * rStr.sz ∧ Els (rInt .u8) (vH w S [some f_b, o0out_ob, some f_dead_b, text_ob] w') o2_cs text ∧ (o2_cs ++ o2_sp).length = text_cap * (rInt .u8).sz ∧ True) := by
 induction N with
 | zero => intro f l text left f_b f_v1 f_out_ob f_out_cap f_out_cs f_out_sp f_dead_b l_v text_ob text_cap text_cs text_sp X w S hL f_h1 f_out_hE f_out_hc l_h text_hE text_hc r h; cases (show (none : Option (Bool × (List (List UInt8)) × (List ((List UInt8) × Bool)))) = some r from h)
 | succ N ih =>
  intro f l text left f_b f_v1 f_out_ob f_out_cap f_out_cs f_out_sp f_dead_b l_v text_ob text_cap text_cs text_sp X w S hL f_h1 f_out_hE f_out_hc l_h text_hE text_hc r h
  replace h : pFind_step N (pFind N) f l text left = some r := h
  unfold pFind_step at h
  refine calls_of (l := [(zak (some ⟨f_b, 0, none⟩)), l_v, (zO text_ob text text_cap), (zI left)]) (rl := [.tmp 8]) (n := 116) Try.func64 rfl rfl rfl (zai rfl) ?_
  refine zan (zaf rfl (zag (zal (v := zF) rfl ?_)))
  refine zas (zan (zan (zaf rfl (zag (zae (v := (zI left)) rfl ?_)))))
  refine zag (zdn (x := left) (y := 0) ((left : Int) = 0) rfl rfl zbk (zas ?_))
  refine zbm ((left : Int) = 0) rfl (fun hc5 => ?_) (fun hc5 => ?_)
  ·
   replace h := ite_t hc5 h
   refine zan (zan (zaf rfl (zag (zae (v := (zak (some ⟨f_b, 0, none⟩))) rfl ?_))))
   refine zag (zdb (b := ⟨f_b, 0, none⟩) rfl ?_)
   refine zag (zau (q := 0) zcr rfl ti23 rfl rfl rfl ?_)
   refine zag (zav (v := f_v1) zbc rfl rfl (hL.at 0 rfl rfl) rfl ?_)
   refine zag (zcc (v := f_v1) zbc rfl f_h1 ?_)
   refine zag (zae (v := (zI 0)) rfl (zas ?_))
   obtain ⟨s10, hl10, g10⟩ := zdt h
   refine zbu (fun e w' => ∃  (cs10 : List Value) (sp10 : List Value) (u : Env), (Sum.inl ()) = s10 ∧ e = upds [(0, (zak (some ⟨f_b, 0, none⟩))), (2, (zO text_ob text text_cap))] u ∧ Go.X.Loc X [] w w' [some f_b, f_out_ob, some f_dead_b, text_ob] [zab [f_v1, (zI f.most), (zO f_out_ob f.out f_out_cap), (Value.map (some f_dead_b))], zab ([] ++ (f_out_cs ++ f_out_sp)), (mcont (fun x : List UInt8 => zS x) (fun x : Bool => zac x) f.dead), zab ([] ++ (cs10 ++ sp10))] ∧ Keep w.heap.size [some f_b, f_out_ob, some f_dead_b, text_ob] w [some f_b, f_out_ob, some f_dead_b, text_ob] w' ∧ Els (rInt .u8) (vH w S [some f_b, f_out_ob, some f_dead_b, text_ob] w') cs10 text ∧ (cs10 ++ sp10).length = text_cap * (rInt .u8).sz ∧ True) ?_ ?_
   ·
    refine zbb ?_
    refine zca hl10 (fun (ss : Int) (e : Env) (w' : World) => match ss with | x10 => ∃ (cs11 : List Value) (sp11 : List Value) (u : Env), e = upds [(0, (zak (some ⟨f_b, 0, none⟩))), (1, l_v), (2, (zO text_ob text text_cap)), (22, f_v1), (23, (zI (f.tests.length : Int))), (24, (zI x10))] u ∧ Go.X.Loc X [] w w' [some f_b, f_out_ob, some f_dead_b, text_ob] [zab [f_v1, (zI f.most), (zO f_out_ob f.out f_out_cap), (Value.map (some f_dead_b))], zab ([] ++ (f_out_cs ++ f_out_sp)), (mcont (fun x : List UInt8 => zS x) (fun x : Bool => zac x) f.dead), zab ([] ++ (cs11 ++ sp11))] ∧ Keep w.heap.size [some f_b, f_out_ob, some f_dead_b, text_ob] w [some f_b, f_out_ob, some f_dead_b, text_ob] w' ∧ Els (rInt .u8) (vH w S [some f_b, f_out_ob, some f_dead_b, text_ob] w') cs11 text ∧ (cs11 ++ sp11).length = text_cap * (rInt .u8).sz ∧ True) ⟨text_cs, text_sp, _, (zdx ⟨rfl, rfl, rfl, rfl, rfl, rfl, trivial⟩), hL, zbt, text_hE, text_hc, trivial⟩ ?_
    rintro x10 oo _ w10 ⟨cs11, sp11, u, rfl, hL10, K10, hE10, hc10, -⟩ h hd10
    rw [pFind_b1] at h
    refine zan (zaf rfl (zag (zck (x := x10) (y := (f.tests.length : Int)) ((x10 : Int) < (f.tests.length : Int)) rfl rfl zbk ?_)))
    refine zas (zan ?_)
    refine zbm ((x10 : Int) < (f.tests.length : Int)) rfl (fun hc11 => ?_) (fun hc11 => ?_)
    ·
     replace h := ite_t hc11 h
     refine zbl (zan (zbb (zan (zaf rfl (zag (zae (v := (zI x10)) rfl ?_))))))
     obtain ⟨x11, n10, q11, q12, -, h⟩ := zix h
     have f10 := (f_h1.mono (K10 S))
     obtain ⟨b10, o10, c10, vs10, q13, q14, f11, q15⟩ := zcy f10 q12
     obtain ⟨rfl, -⟩ := rTTest_open q15
     refine zag (zcb (r := rTTest) (v := f_v1) (n := n10) (m := (o10 + n10 * rTTest.sz)) zbc ti44 rfl q13 rfl q11 q12 rfl ?_)
     refine zag (OpY.ldRoA (vs := [(zI x11.Var), (zI x11.Kind), (zac x11.Negated), (zS x11.Text)]) zbg rfl ti44 rfl rfl zec f11 ?_)
     refine zag (zdh (cs := [(zI 0), (zI 0), zF, (zah (s8 []))]) ti44 rfl hL10 ?_)
     intro b11 w11 hL11 hS10
     have K11 := ks w hS10
     refine zag (zal (v := (zI x10)) rfl ?_)
     refine zde (zcv (vs := [(zI x11.Var), (zI x11.Kind), (zac x11.Negated), (zS x11.Text)]) ti44 rfl rfl rfl rfl (zdz rfl (zdz rfl (zdz rfl (zdz rfl zej)))) hL11 0 rfl rfl (zai rfl) ?_)
     intro w12 (hL12 : Go.X.Loc X [] w w12 [some b11, some f_b, f_out_ob, some f_dead_b, text_ob] [zab [(zI x11.Var), (zI x11.Kind), (zac x11.Negated), (zS x11.Text)], zab [f_v1, (zI f.most), (zO f_out_ob f.out f_out_cap), (Value.map (some f_dead_b))], zab ([] ++ (f_out_cs ++ f_out_sp)), (mcont (fun x : List UInt8 => zS x) (fun x : Bool => zac x) f.dead), zab ([] ++ (cs11 ++ sp11))]) hS11
     have K12 := ks w hS11
     refine zas (zan ?_)
     obtain ⟨x12, n11, q17, q18, -, h⟩ := zix h
     have f12 := (((l_h.mono (K10 S)).mono (K11 S)).mono (K12 S))
     obtain ⟨b12, o11, c11, vs11, q19, q20, f13, q21⟩ := zcy f12 q18
     obtain rfl := q21
     refine zcz 5 [] [] (fun W1 => [.det (zbo #[(zI x11.Var), (zI x11.Kind), (zac x11.Negated), (zS x11.Text)]), .det l_v, .det (zI x10), .det (zak (some ⟨b12, (o11 + n11 * (rInt .u32).sz), none⟩)), .det (zaa .u32 x12)]) mixed rfl rfl rfl (fun _ => rfl) (fun _ => rfl) ?_ ?_
     ·
      intro W1 _
      exact trivial
     intro w13 hE11
     obtain ⟨hL13, K13⟩ := zl hL12 hE11
     refine zay (fun _ hE12 => zaq (zcu (vs := [(zI x11.Var), (zI x11.Kind), (zac x11.Negated), (zS x11.Text)]) zbg rfl ti44 rfl ((hL13.ext hE12).at 0 rfl rfl) rfl rfl (er rfl))) ?_
     refine zay (fun _ _ => zaq (zae rfl (er rfl))) ?_
     refine zay (fun _ _ => zaq (zae rfl (er rfl))) ?_
     refine zay (fun _ _ => zaq (zcb (r := (rInt .u32)) (v := l_v) (n := n11) (m := (o11 + n11 * (rInt .u32).sz)) zdg ti79 rfl q19 rfl q17 q18 rfl (er rfl))) ?_
     refine zay (fun _ hE16 => zaq (zcd zdc rfl rfl zec (zco ((ke hL13 hE16) S) (zco (K13 S) f13)) (er rfl))) ?_
     refine zdj ?_
     rintro w19 Z24 hE17 hZ15 ⟨-⟩ ap10
     have hB10 := @zhb w13 Z24
     obtain ⟨hL15, K15⟩ := zl hL13 hE17
     obtain ⟨r10, q22, h⟩ := zdt h
     refine zag (zbz en55 rfl rfl (pPassed_w N x11 x12 _ Any r10 q22) ?_)
     rintro _ w20 hE18 ⟨rfl, -⟩
     obtain ⟨hL16, K16⟩ := zl hL15 hE18
     refine zag (zdq (x := r10) rfl (zas ?_))
     refine zch (!r10) rfl (fun hc12 => ?_) (fun hc12 => ?_)
     ·
      replace h := ite_t hc12 h
      refine zan (zaf rfl (zag (zal (v := zF) rfl (zas ?_))))
      have hp10 := hL16.pick [1, 2, 3, 4] rfl rfl rfl
      have hL17 : Go.X.Loc X [] w w20 [some f_b, f_out_ob, some f_dead_b, text_ob] [zab [f_v1, (zI f.most), (zO f_out_ob f.out f_out_cap), (Value.map (some f_dead_b))], zab ([] ++ (f_out_cs ++ f_out_sp)), (mcont (fun x : List UInt8 => zS x) (fun x : Bool => zac x) f.dead), zab ([] ++ (cs11 ++ sp11))] := hp10.1
      have K17 := ks w hp10.2
      refine zbq ?_
      obtain rfl := zad h
      obtain rfl := hd10 _ rfl
      replace h := g10
      try dsimp only at h
      obtain rfl := zad h
      refine ⟨[zF], zrt, ?_⟩
      have f14 := (((((((f_out_hE.mono (K10 S)).mono (K11 S)).mono (K12 S)).mono (K13 S)).mono (K15 S)).mono (K16 S)).mono (K17 S))
      have f15 := ((((((hE10.mono (K11 S)).mono (K12 S)).mono (K13 S)).mono (K15 S)).mono (K16 S)).mono (K17 S))
      exact ⟨f_out_ob, f_out_cap, f_out_cs, f_out_sp, cs11, sp11, rfl, hL17, (zam (zam (zam (zam (zam (zam K10 K11) K12) K13) K15) K16) K17), f14, f_out_hc, f15, hc10, trivial⟩
     replace h := ite_f hc12 h
     refine zbl (zbh (zaf rfl (zag (zce (x := x10) (y := 1) (z := (iw (x10 + 1))) rfl rfl rfl ?_))))
     refine zag (zae (v := (zI (iw (x10 + 1)))) rfl (zas ?_))
     have hp11 := hL16.pick [1, 2, 3, 4] rfl rfl rfl
     have hL18 : Go.X.Loc X [] w w20 [some f_b, f_out_ob, some f_dead_b, text_ob] [zab [f_v1, (zI f.most), (zO f_out_ob f.out f_out_cap), (Value.map (some f_dead_b))], zab ([] ++ (f_out_cs ++ f_out_sp)), (mcont (fun x : List UInt8 => zS x) (fun x : Bool => zac x) f.dead), zab ([] ++ (cs11 ++ sp11))] := hp11.1
     have K18 := ks w hp11.2
     have f16 := ((((((hE10.mono (K11 S)).mono (K12 S)).mono (K13 S)).mono (K15 S)).mono (K16 S)).mono (K18 S))
     obtain rfl := zad h
     refine zat ⟨(iw (x10 + 1)), rfl, ?_⟩
     exact ⟨cs11, sp11, _, (zdx ⟨rfl, rfl, rfl, rfl, rfl, rfl, trivial⟩), hL18, (zam (zam (zam (zam (zam (zam K10 K11) K12) K13) K15) K16) K18), f16, hc10, trivial⟩
    replace h := ite_f hc11 h
    refine zcf rfl ?_
    obtain rfl := zad h
    obtain rfl := hd10 _ rfl
    replace h := g10
    try dsimp only at h
    refine zat ?_
    exact ⟨cs11, sp11, _, rfl, (zdx ⟨rfl, rfl, trivial⟩), hL10, K10, hE10, hc10, trivial⟩
   rintro _ w21 ⟨cs10, sp10, u, rfl, rfl, hL19, K19, hE19, hc13, -⟩
   replace h := g10
   try dsimp only at h
   refine zan ?_
   refine Swp.drawP [7, 8, 11] [0, 1, 2, 3, 4, 5, 6, 9, 10] [(37, (zak (some ⟨f_b, 0, none⟩))), (38, (zak (some ⟨f_b, 0, none⟩))), (39, (zak (some ⟨f_b, 0, none⟩))), (40, (zak (some ⟨f_b, 2, none⟩))), (41, (zO f_out_ob f.out f_out_cap)), (42, (zO text_ob text text_cap)), (43, (zS (bstr text))), (46, (zak (some ⟨f_b, 0, none⟩))), (47, (zak (some ⟨f_b, 2, none⟩)))] mixed rfl rfl rfl rfl ?_
   intro w22 hE20
   obtain ⟨hL20, K20⟩ := zl hL19 hE20
   refine ⟨?_, ?_⟩
   ·
    refine zaj (i := 0) rfl rfl (zaq (zae (v := (zak (some ⟨f_b, 0, none⟩))) rfl zrr)) ?_
    refine zaj (i := 1) rfl rfl (zaq (zae (v := (zak (some ⟨f_b, 0, none⟩))) rfl zrr)) ?_
    refine zaj (i := 2) rfl rfl (zaq (zdb (b := ⟨f_b, 0, none⟩) rfl zrr)) ?_
    refine zaj (i := 3) rfl rfl (zaq (zau (q := 2) zcr rfl ti27 rfl rfl rfl zrr)) ?_
    refine zaj (i := 4) rfl rfl (zaq (zav (v := (zO f_out_ob f.out f_out_cap)) zax rfl rfl (hL20.at 0 rfl rfl) rfl zrr)) ?_
    refine zaj (i := 5) rfl rfl (zaq (zae (v := (zO text_ob text text_cap)) rfl zrr)) ?_
    refine zaj (i := 6) rfl rfl (zaq (OpY.strRow (pre := []) (cs := cs10) (sp := sp10) (xs := text) zcs zba zcx rfl (hL20.at 3 rfl rfl) (hE19.mono (K20 S)) rfl zrr)) ?_
    refine zaj (i := 9) rfl rfl (zaq (zdb (b := ⟨f_b, 0, none⟩) rfl zrr)) ?_
    refine zaj (i := 10) rfl rfl (zaq (zau (q := 2) zcr rfl ti27 rfl rfl rfl zrr)) ?_
    exact zby
   have hE21 : Els rStr (vH w None [some f_b, f_out_ob, some f_dead_b, text_ob] w22) [(zS (bstr text))] [(bstr text)] := (zcp (a := [(zS (bstr text))]) rfl zcq)
   refine RlL.op (zct (r := rStr) (vs := [(zS (bstr text))]) (css := [[(zS (bstr text))]]) (xs := [(bstr text)]) zax ti9 (zai rfl) rfl rfl ⟨rfl, rfl, trivial⟩ (zai rfl) hE21 rfl hL20 ?_)
   intro b13 w23 hc14 hL21 hS12
   have K21 := ks w hS12
   refine ⟨?_, ?_⟩
   ·
    refine zaj (i := 0) rfl rfl (zaq (zae (v := (zak (some ⟨f_b, 0, none⟩))) rfl zrr)) ?_
    refine zaj (i := 1) rfl rfl (zaq (zae (v := (zak (some ⟨f_b, 0, none⟩))) rfl zrr)) ?_
    refine zaj (i := 2) rfl rfl (zaq (zdb (b := ⟨f_b, 0, none⟩) rfl zrr)) ?_
    refine zaj (i := 3) rfl rfl (zaq (zau (q := 2) zcr rfl ti27 rfl rfl rfl zrr)) ?_
    refine zaj (i := 4) rfl rfl (zaq (zav (v := (zO f_out_ob f.out f_out_cap)) zax rfl rfl (hL21.at 1 rfl rfl) rfl zrr)) ?_
    refine zaj (i := 5) rfl rfl (zaq (zae (v := (zO text_ob text text_cap)) rfl zrr)) ?_
    refine zaj (i := 9) rfl rfl (zaq (zdb (b := ⟨f_b, 0, none⟩) rfl zrr)) ?_
    refine zaj (i := 10) rfl rfl (zaq (zau (q := 2) zcr rfl ti27 rfl rfl rfl zrr)) ?_
    exact zby
   obtain ⟨x13, q23, h⟩ := zdt h
   obtain ⟨q24, q25, q26⟩ := zek q23
   have f17 := (hE21.mono (K21 None))
   have f18 := (((f_out_hE.mono (K19 S)).mono (K20 S)).mono (K21 S))
   refine RlL.op (zcw (r := rStr) (H := (vH w S [some b13, some f_b, f_out_ob, some f_dead_b, text_ob] w23)) (cs := f_out_cs) (sp := f_out_sp) (xs := f.out) (ys := [(bstr text)]) (Y := x13) (n := f.out.length) (cap := f_out_cap) (i := 2) zax ti9 rfl rfl rfl rfl hL21 rfl rfl f18 rfl f_out_hc (Src.row (pre := []) (o := 0) (n := 1) (cap := 1) (hL21.at 0 rfl rfl) f17 rfl rfl rfl) (zcg (fun _ _ _ _ h => h) f17) q24 q25 q26 ?_)
   intro ob10 cap10 sp12 cs12 w24 hE22 hc15 (hL22 : Go.X.Loc X [] w w24 [some b13, some f_b, ob10, some f_dead_b, text_ob] [zab ([] ++ ([(zS (bstr text))] ++ [])), zab [f_v1, (zI f.most), (zO f_out_ob f.out f_out_cap), (Value.map (some f_dead_b))], zab ([] ++ (cs12 ++ sp12)), (mcont (fun x : List UInt8 => zS x) (fun x : Bool => zac x) f.dead), zab ([] ++ (cs10 ++ sp10))]) hS13
   have K22 := ks w hS13
   refine ⟨?_, ?_⟩
   ·
    refine zaj (i := 0) rfl rfl (zaq (zae (v := (zak (some ⟨f_b, 0, none⟩))) rfl zrr)) ?_
    refine zaj (i := 1) rfl rfl (zaq (zae (v := (zak (some ⟨f_b, 0, none⟩))) rfl zrr)) ?_
    refine zaj (i := 2) rfl rfl (zaq (zdb (b := ⟨f_b, 0, none⟩) rfl zrr)) ?_
    refine zaj (i := 3) rfl rfl (zaq (zau (q := 2) zcr rfl ti27 rfl rfl rfl zrr)) ?_
    refine zaj (i := 5) rfl rfl (zaq (zae (v := (zO text_ob text text_cap)) rfl zrr)) ?_
    refine zaj (i := 9) rfl rfl (zaq (zdb (b := ⟨f_b, 0, none⟩) rfl zrr)) ?_
    refine zaj (i := 10) rfl rfl (zaq (zau (q := 2) zcr rfl ti27 rfl rfl rfl zrr)) ?_
    exact zby
   refine RlL.op0 (zcv (vs := [(zO ob10 x13 cap10)]) ti27 rfl rfl (zeg (zed ob10 0 x13.length cap10)) rfl (zdz (zed ob10 0 x13.length cap10) zej) hL22 1 rfl rfl (zai rfl) ?_)
   intro w25 (hL23 : Go.X.Loc X [] w w25 [some b13, some f_b, ob10, some f_dead_b, text_ob] [zab ([] ++ ([(zS (bstr text))] ++ [])), zab [f_v1, (zI f.most), (zO ob10 x13 cap10), (Value.map (some f_dead_b))], zab ([] ++ (cs12 ++ sp12)), (mcont (fun x : List UInt8 => zS x) (fun x : Bool => zac x) f.dead), zab ([] ++ (cs10 ++ sp10))]) hS14
   have K23 := ks w hS14
   refine ⟨?_, ?_⟩
   ·
    refine zaj (i := 9) rfl rfl (zaq (zdb (b := ⟨f_b, 0, none⟩) rfl zrr)) ?_
    exact zby
   refine RlL.fin ?_
   refine zan (zaf rfl (zag (zal (v := zT) rfl (zas ?_))))
   have hp12 := hL23.pick [1, 2, 3, 4] rfl rfl rfl
   have hL24 : Go.X.Loc X [] w w25 [some f_b, ob10, some f_dead_b, text_ob] [zab [f_v1, (zI f.most), (zO ob10 x13 cap10), (Value.map (some f_dead_b))], zab ([] ++ (cs12 ++ sp12)), (mcont (fun x : List UInt8 => zS x) (fun x : Bool => zac x) f.dead), zab ([] ++ (cs10 ++ sp10))] := hp12.1
   have K24 := ks w hp12.2
   refine zbq ?_
   obtain rfl := zad h
   refine ⟨[zT], zrt, ?_⟩
   have f19 := (((hE22.mono (K22 S)).mono (K23 S)).mono (K24 S))
   have f20 := (((((hE19.mono (K20 S)).mono (K21 S)).mono (K22 S)).mono (K23 S)).mono (K24 S))
   exact ⟨ob10, cap10, cs12, sp12, cs10, sp10, rfl, hL24, (zam (zam (zam (zam (zam K19 K20) K21) K22) K23) K24), f19, hc15, f20, hc13, trivial⟩
  replace h := ite_f hc5 h
  refine zbl (zan (zaf rfl (zag (zae (v := l_v) rfl ?_))))
  refine zag (zae (v := (zI left)) rfl ?_)
  obtain ⟨r11, q27, h⟩ := zdt h
  refine zag (zbz en74 rfl rfl (pKey_w N l left l_v _ Any (l_h.mono vw_any) r11 q27) ?_)
  rintro _ w26 hE23 ⟨rfl, -⟩
  obtain ⟨hL25, K25⟩ := zl hL hE23
  refine zag (zal (v := (zS r11)) rfl ?_)
  refine zas (zan (zan (zaf rfl (zag (zae (v := (zak (some ⟨f_b, 0, none⟩))) rfl ?_)))))
  refine zag (zdb (b := ⟨f_b, 0, none⟩) rfl ?_)
  refine zag (zau (q := 3) zcr rfl ti91 rfl rfl rfl ?_)
  refine zag (zav (v := (Value.map (some f_dead_b))) Try.underlying91 rfl rfl (hL25.at 0 rfl rfl) rfl ?_)
  refine zag (zae (v := (zS r11)) rfl ?_)
  refine zag (OpY.look0 (kf := (fun x : List UInt8 => zS x)) (vf := (fun x : Bool => zac x)) (m := f.dead) (x := r11) (z := false) mky_9 Try.underlying91 ti4 rfl (hL25.at 2 rfl rfl) rfl (zas ?_))
  refine zch (mget f.dead r11 false).1 rfl (fun hc16 => ?_) (fun hc16 => ?_)
  ·
   replace h := ite_t hc16 h
   refine zan (zaf rfl (zag (zal (v := zF) rfl ?_)))
   refine zas (zbq ?_)
   obtain rfl := zad h
   refine ⟨[zF], zrt, ?_⟩
   have f21 := (f_out_hE.mono (K25 S))
   have f22 := (text_hE.mono (K25 S))
   exact ⟨f_out_ob, f_out_cap, f_out_cs, f_out_sp, text_cs, text_sp, rfl, hL25, K25, f21, f_out_hc, f22, text_hc, trivial⟩
  replace h := ite_f hc16 h
  refine zbl (zan (zaf rfl (zag (zal (v := zF) rfl ?_))))
  refine zas (zan (zan (zaf rfl (zag (zal (v := (zaa .i32 32)) rfl (zas ?_))))))
  obtain ⟨s11, hl11, g11⟩ := zdt h
  refine zbu (fun e w' => ∃ (out10 : (List (List UInt8))) (dead10 : (List ((List UInt8) × Bool))) (found10 : Bool) (ob11 : Option Nat) (cap11 : Nat) (sp13 : List Value) (cs13 : List Value) (ln10 : Nat) (cs14 : List Value) (sp14 : List Value) (u : Env), (out10, dead10, found10) = s11 ∧ e = upds [(0, (zak (some ⟨f_b, 0, none⟩))), (2, (zO text_ob text text_cap)), (11, (zS r11)), (12, (zac found10))] u ∧ Go.X.Loc X [] w w' [some f_b, ob11, some f_dead_b, text_ob] [zab [f_v1, (zI f.most), (osv ob11 0 ln10 cap11), (Value.map (some f_dead_b))], zab ([] ++ (cs13 ++ sp13)), (mcont (fun x : List UInt8 => zS x) (fun x : Bool => zac x) dead10), zab ([] ++ (cs14 ++ sp14))] ∧ Keep w.heap.size [some f_b, f_out_ob, some f_dead_b, text_ob] w26 [some f_b, ob11, some f_dead_b, text_ob] w' ∧ Els rStr (vH w S [some f_b, ob11, some f_dead_b, text_ob] w') cs13 out10 ∧ ln10 = List.length out10 ∧ (cs13 ++ sp13).length = cap11 * rStr.sz ∧ Els (rInt .u8) (vH w S [some f_b, ob11, some f_dead_b, text_ob] w') cs14 text ∧ (cs14 ++ sp14).length = text_cap * (rInt .u8).sz ∧ True) ?_ ?_
  ·
   refine zbb ?_
   have f23 := (f_out_hE.mono (K25 S))
   have f24 := (text_hE.mono (K25 S))
   refine zca hl11 (fun (ss : ((List (List UInt8)) × (List ((List UInt8) × Bool)) × Bool × Int)) (e : Env) (w' : World) => match ss with | (out11, dead11, found11, c12) => ∃ (ob12 : Option Nat) (cap12 : Nat) (sp15 : List Value) (cs15 : List Value) (ln11 : Nat) (cs16 : List Value) (sp16 : List Value) (u : Env), e = upds [(0, (zak (some ⟨f_b, 0, none⟩))), (1, l_v), (2, (zO text_ob text text_cap)), (3, (zI left)), (11, (zS r11)), (12, (zac found11)), (13, (zaa .i32 c12))] u ∧ Go.X.Loc X [] w w' [some f_b, ob12, some f_dead_b, text_ob] [zab [f_v1, (zI f.most), (osv ob12 0 ln11 cap12), (Value.map (some f_dead_b))], zab ([] ++ (cs15 ++ sp15)), (mcont (fun x : List UInt8 => zS x) (fun x : Bool => zac x) dead11), zab ([] ++ (cs16 ++ sp16))] ∧ Keep w.heap.size [some f_b, f_out_ob, some f_dead_b, text_ob] w26 [some f_b, ob12, some f_dead_b, text_ob] w' ∧ Els rStr (vH w S [some f_b, ob12, some f_dead_b, text_ob] w') cs15 out11 ∧ ln11 = List.length out11 ∧ (cs15 ++ sp15).length = cap12 * rStr.sz ∧ Els (rInt .u8) (vH w S [some f_b, ob12, some f_dead_b, text_ob] w') cs16 text ∧ (cs16 ++ sp16).length = text_cap * (rInt .u8).sz ∧ True) ⟨f_out_ob, f_out_cap, f_out_sp, f_out_cs, f.out.length, text_cs, text_sp, _, (zdx ⟨rfl, rfl, rfl, rfl, rfl, rfl, rfl, trivial⟩), hL25, zbt, f23, rfl, f_out_hc, f24, text_hc, trivial⟩ ?_
   rintro ⟨out11, dead11, found11, c12⟩ oo _ w27 ⟨ob12, cap12, sp15, cs15, ln11, cs16, sp16, u, rfl, hL26, K26, hE24, rfl, hc17, hE25, hc18, -⟩ h hd11
   rw [pFind_b2] at h
   refine zan (zan ?_)
   obtain ⟨s12, h, g12⟩ := zdt h
   refine zbu (fun e w' => ∃ (x14 : Bool) (cs17 : List Value) (sp17 : List Value) (u : Env), x14 = s12 ∧ e = upds [(0, (zak (some ⟨f_b, 0, none⟩))), (1, l_v), (2, (zO text_ob text text_cap)), (3, (zI left)), (11, (zS r11)), (12, (zac found11)), (13, (zaa .i32 c12)), (70, (zac x14))] u ∧ Go.X.Loc X [] w w' [some f_b, ob12, some f_dead_b, text_ob] [zab [f_v1, (zI f.most), (zO ob12 out11 cap12), (Value.map (some f_dead_b))], zab ([] ++ (cs15 ++ sp15)), (mcont (fun x : List UInt8 => zS x) (fun x : Bool => zac x) dead11), zab ([] ++ (cs17 ++ sp17))] ∧ Keep w.heap.size [some f_b, ob12, some f_dead_b, text_ob] w27 [some f_b, ob12, some f_dead_b, text_ob] w' ∧ Els (rInt .u8) (vH w S [some f_b, ob12, some f_dead_b, text_ob] w') cs17 text ∧ (cs17 ++ sp17).length = text_cap * (rInt .u8).sz ∧ True) ?_ ?_
   ·
    by_cases hc19 : (c12 : Int) ≤ 126
    ·
     replace h := ite_t hc19 h
     refine zcz 12 [] [] (fun W1 => [.det (zaa .i32 c12), .det (zac (decide ((c12 : Int) ≤ 126))), .det (zac (decide ((c12 : Int) ≤ 126))), .det (zak (some ⟨f_b, 0, none⟩)), .det (zak (some ⟨f_b, 0, none⟩)), .det (zak (some ⟨f_b, 2, none⟩)), .det (zO ob12 out11 cap12), .det (zI (out11.length : Int)), .det (zak (some ⟨f_b, 0, none⟩)), .det (zak (some ⟨f_b, 0, none⟩)), .det (zak (some ⟨f_b, 1, none⟩)), .det (zI f.most)]) mixed rfl rfl rfl (fun _ => rfl) (fun _ => rfl) ?_ ?_
     ·
      intro W1 _
      exact trivial
     intro w28 hE26
     obtain ⟨hL27, K27⟩ := zl hL26 hE26
     refine zay (fun _ _ => zaq (zae rfl (er rfl))) ?_
     refine zay (fun _ _ => zaq (OpY.leq ((c12 : Int) ≤ 126) rfl rfl zbk (er rfl))) ?_
     refine zay (fun _ _ => zaq (zae rfl (er rfl))) ?_
     refine zay (fun _ _ => zda rfl rfl (zdv hc19) (zae rfl (er rfl))) ?_
     refine zay (fun _ _ => zda rfl rfl (zdv hc19) (zdb (b := ⟨f_b, 0, none⟩) rfl (er rfl))) ?_
     refine zay (fun _ _ => zda rfl rfl (zdv hc19) (zau zcr rfl ti27 rfl rfl rfl (er rfl))) ?_
     refine zay (fun _ hE33 => zda rfl rfl (zdv hc19) (zav zax rfl rfl ((hL27.ext hE33).at 0 rfl rfl) rfl (er rfl))) ?_
     refine zay (fun _ hE34 => zda rfl rfl (zdv hc19) (zcj (pre := []) (r := rStr) (xs := out11) zax rfl ((hL27.ext hE34).at 1 rfl rfl) ((hE24.mono (K27 S)).mono ((ke hL27 hE34) S)) rfl rfl (er rfl))) ?_
     refine zay (fun _ _ => zda rfl rfl (zdv hc19) (zae rfl (er rfl))) ?_
     refine zay (fun _ _ => zda rfl rfl (zdv hc19) (zdb (b := ⟨f_b, 0, none⟩) rfl (er rfl))) ?_
     refine zay (fun _ _ => zda rfl rfl (zdv hc19) (zau zcr rfl ti3 rfl rfl rfl (er rfl))) ?_
     refine zay (fun _ hE38 => zda rfl rfl (zdv hc19) (zav zaw rfl rfl ((hL27.ext hE38).at 0 rfl rfl) rfl (er rfl))) ?_
     refine zdj ?_
     rintro w41 Z37 hE39 hZ28 ⟨-⟩ ap11
     have hB11 := @zhb w28 Z37
     obtain ⟨hL31, K29⟩ := zl hL27 hE39
     refine zaz rfl rfl (zdv hc19) (zck (x := (out11.length : Int)) (y := f.most) (((out11.length : Int) : Int) < f.most) rfl rfl zbk ?_)
     refine zag (zbr (t := (decide ((c12 : Int) ≤ 126))) (v := (zac (decide (((out11.length : Int) : Int) < f.most)))) rfl (zdv hc19) rfl (zas ?_))
     have f25 := ((hE25.mono (K27 S)).mono (K29 S))
     obtain rfl := zad h
     refine zat ?_
     exact ⟨(decide (((out11.length : Int) : Int) < f.most)), cs16, sp16, _, rfl, (zdx ⟨rfl, rfl, rfl, rfl, rfl, rfl, rfl, rfl, trivial⟩), hL31, (zam K27 K29), f25, hc18, trivial⟩
    replace h := ite_f hc19 h
    refine zcz 12 [] [] (fun W1 => [.det (zaa .i32 c12), .det (zac (decide ((c12 : Int) ≤ 126))), .det (zac (decide ((c12 : Int) ≤ 126))), .det undef, .det undef, .det undef, .det undef, .det undef, .det undef, .det undef, .det undef, .det undef]) mixed rfl rfl rfl (fun _ => rfl) (fun _ => rfl) ?_ ?_
    ·
     intro W1 _
     exact trivial
    intro w42 hE40
    obtain ⟨hL32, K30⟩ := zl hL26 hE40
    refine zay (fun _ _ => zaq (zae rfl (er rfl))) ?_
    refine zay (fun _ _ => zaq (OpY.leq ((c12 : Int) ≤ 126) rfl rfl zbk (er rfl))) ?_
    refine zay (fun _ _ => zaq (zae rfl (er rfl))) ?_
    refine zay (fun _ _ => zdl rfl rfl (zdu hc19) (er rfl)) ?_
    refine zay (fun _ _ => zdl rfl rfl (zdu hc19) (er rfl)) ?_
    refine zay (fun _ _ => zdl rfl rfl (zdu hc19) (er rfl)) ?_
    refine zay (fun _ _ => zdl rfl rfl (zdu hc19) (er rfl)) ?_
    refine zay (fun _ _ => zdl rfl rfl (zdu hc19) (er rfl)) ?_
    refine zay (fun _ _ => zdl rfl rfl (zdu hc19) (er rfl)) ?_
    refine zay (fun _ _ => zdl rfl rfl (zdu hc19) (er rfl)) ?_
    refine zay (fun _ _ => zdl rfl rfl (zdu hc19) (er rfl)) ?_
    refine zay (fun _ _ => zdl rfl rfl (zdu hc19) (er rfl)) ?_
    refine zdj ?_
    rintro w55 Z50 hE53 hZ41 ⟨-⟩ ap12
    have hB12 := @zhb w42 Z50
    obtain ⟨hL33, K31⟩ := zl hL32 hE53
    refine zbe rfl rfl (zdu hc19) ?_
    refine zag (zbp (t := (decide ((c12 : Int) ≤ 126))) (v := zF) rfl (zdu hc19) rfl (zas ?_))
    have f26 := ((hE25.mono (K30 S)).mono (K31 S))
    obtain rfl := zad h
    refine zat ?_
    exact ⟨false, cs16, sp16, _, rfl, (zdx ⟨rfl, rfl, rfl, rfl, rfl, rfl, rfl, rfl, trivial⟩), hL33, (zam K30 K31), f26, hc18, trivial⟩
   rintro _ w56 ⟨x14, cs17, sp17, u, rfl, rfl, hL34, K32, hE54, hc20, -⟩
   replace h := g12
   try dsimp only at h
   refine zch x14 rfl (fun hc21 => ?_) (fun hc21 => ?_)
   ·
    replace h := ite_t hc21 h
    refine zbl (zan (zbb (zan (zaf rfl (zag (zae (v := l_v) rfl ?_))))))
    have f27 := (((l_h.mono (K25 S)).mono (K26 S)).mono (K32 S))
    refine zag (zcc (v := l_v) zdg rfl f27 ?_)
    obtain ⟨x15, q28, h⟩ := zdt h
    obtain ⟨m10, q29, q30, q31, q32⟩ := mk1_some q28
    refine zag (zdi (r := (rInt .u32)) (H := (vH w None [some f_b, ob12, some f_dead_b, text_ob] w56)) (zc := [(zaa .u32 0)]) (x := 0) zdg ti79 rfl rfl rfl rfl q29 q30 q31 q32 hL34 ?_)
    intro b14 w57 cs18 hE55 hc22 hL35 hS15
    have K33 := ks w hS15
    refine zag (zal (v := (zO (some b14) x15 m10)) rfl ?_)
    refine zas (zan (zan (zaf rfl (zag (zae (v := (zak (some ⟨f_b, 0, none⟩))) rfl ?_)))))
    refine zag (zdb (b := ⟨f_b, 0, none⟩) rfl ?_)
    refine zag (zau (q := 0) zcr rfl ti23 rfl rfl rfl ?_)
    refine zag (zav (v := f_v1) zbc rfl rfl (hL35.at 1 rfl rfl) rfl ?_)
    have f28 := ((((f_h1.mono (K25 S)).mono (K26 S)).mono (K32 S)).mono (K33 S))
    refine zag (zcc (v := f_v1) zbc rfl f28 ?_)
    refine zag (zae (v := (zI 0)) rfl (zas ?_))
    obtain ⟨s13, hl12, g13⟩ := zdt h
    refine zbu (fun e w' => ∃ (more10 : (List Int)) (cs19 : List Value) (sp18 : List Value) (cs20 : List Value) (u : Env), more10 = s13 ∧ e = upds [(0, (zak (some ⟨f_b, 0, none⟩))), (1, l_v), (2, (zO text_ob text text_cap)), (3, (zI left)), (11, (zS r11)), (12, (zac found11)), (13, (zaa .i32 c12)), (14, (zO (some b14) x15 m10))] u ∧ Go.X.Loc X [] w w' [some f_b, ob12, some f_dead_b, text_ob, some b14] [zab [f_v1, (zI f.most), (zO ob12 out11 cap12), (Value.map (some f_dead_b))], zab ([] ++ (cs15 ++ sp15)), (mcont (fun x : List UInt8 => zS x) (fun x : Bool => zac x) dead11), zab ([] ++ (cs19 ++ sp18)), zab ([] ++ (cs20 ++ []))] ∧ Keep w.heap.size [some b14, some f_b, ob12, some f_dead_b, text_ob] w57 [some f_b, ob12, some f_dead_b, text_ob, some b14] w' ∧ Els (rInt .u8) (vH w S [some f_b, ob12, some f_dead_b, text_ob, some b14] w') cs19 text ∧ (cs19 ++ sp18).length = text_cap * (rInt .u8).sz ∧ Els (rInt .u32) (vH w None [some f_b, ob12, some f_dead_b, text_ob, some b14] w') cs20 more10 ∧ x15.length = List.length more10 ∧ (cs20 ++ []).length = m10 * (rInt .u32).sz ∧ True) ?_ ?_
    ·
     refine zbb ?_
     have hp13 := hL35.pick [1, 2, 3, 4, 0] rfl rfl rfl
     have hL36 : Go.X.Loc X [] w w57 [some f_b, ob12, some f_dead_b, text_ob, some b14] [zab [f_v1, (zI f.most), (zO ob12 out11 cap12), (Value.map (some f_dead_b))], zab ([] ++ (cs15 ++ sp15)), (mcont (fun x : List UInt8 => zS x) (fun x : Bool => zac x) dead11), zab ([] ++ (cs17 ++ sp17)), zab ([] ++ (cs18 ++ []))] := hp13.1
     have K34 := ks w hp13.2
     have f29 := ((hE54.mono (K33 S)).mono (K34 S))
     have f30 := ((hE55.mono (K33 None)).mono (K34 None))
     refine zca hl12 (fun (ss : ((List Int) × Int)) (e : Env) (w' : World) => match ss with | (more11, x16) => ∃ (cs21 : List Value) (sp19 : List Value) (cs22 : List Value) (u : Env), e = upds [(0, (zak (some ⟨f_b, 0, none⟩))), (1, l_v), (2, (zO text_ob text text_cap)), (3, (zI left)), (11, (zS r11)), (12, (zac found11)), (13, (zaa .i32 c12)), (14, (zO (some b14) x15 m10)), (79, f_v1), (80, (zI (f.tests.length : Int))), (81, (zI x16))] u ∧ Go.X.Loc X [] w w' [some f_b, ob12, some f_dead_b, text_ob, some b14] [zab [f_v1, (zI f.most), (zO ob12 out11 cap12), (Value.map (some f_dead_b))], zab ([] ++ (cs15 ++ sp15)), (mcont (fun x : List UInt8 => zS x) (fun x : Bool => zac x) dead11), zab ([] ++ (cs21 ++ sp19)), zab ([] ++ (cs22 ++ []))] ∧ Keep w.heap.size [some b14, some f_b, ob12, some f_dead_b, text_ob] w57 [some f_b, ob12, some f_dead_b, text_ob, some b14] w' ∧ Els (rInt .u8) (vH w S [some f_b, ob12, some f_dead_b, text_ob, some b14] w') cs21 text ∧ (cs21 ++ sp19).length = text_cap * (rInt .u8).sz ∧ Els (rInt .u32) (vH w None [some f_b, ob12, some f_dead_b, text_ob, some b14] w') cs22 more11 ∧ x15.length = List.length more11 ∧ (cs22 ++ []).length = m10 * (rInt .u32).sz ∧ True) ⟨cs17, sp17, cs18, _, (zdx ⟨rfl, rfl, rfl, rfl, rfl, rfl, rfl, rfl, rfl, rfl, rfl, trivial⟩), hL36, K34, f29, hc20, f30, rfl, hc22, trivial⟩ ?_
     rintro ⟨more11, x16⟩ oo _ w58 ⟨cs21, sp19, cs22, u, rfl, hL37, K35, hE56, hc23, hE57, hl13, hc24, -⟩ h hd12
     rw [pFind_b3] at h
     refine zan (zaf rfl (zag (zck (x := x16) (y := (f.tests.length : Int)) ((x16 : Int) < (f.tests.length : Int)) rfl rfl zbk ?_)))
     refine zas (zan ?_)
     refine zbm ((x16 : Int) < (f.tests.length : Int)) rfl (fun hc25 => ?_) (fun hc25 => ?_)
     ·
      replace h := ite_t hc25 h
      refine zbl (zan (zbb (zan (zaf rfl (zag (zae (v := (zI x16)) rfl ?_))))))
      obtain ⟨x17, n12, q34, q35, -, h⟩ := zix h
      have f31 := (f28.mono (K35 S))
      obtain ⟨b15, o12, c13, vs12, q36, q37, f32, q38⟩ := zcy f31 q35
      obtain ⟨rfl, -⟩ := rTTest_open q38
      refine zag (zcb (r := rTTest) (v := f_v1) (n := n12) (m := (o12 + n12 * rTTest.sz)) zbc ti44 rfl q36 rfl q34 q35 rfl ?_)
      refine zag (OpY.ldRoA (vs := [(zI x17.Var), (zI x17.Kind), (zac x17.Negated), (zS x17.Text)]) zbg rfl ti44 rfl rfl zec f32 ?_)
      refine zag (zdh (cs := [(zI 0), (zI 0), zF, (zah (s8 []))]) ti44 rfl hL37 ?_)
      intro b16 w59 hL38 hS16
      have K36 := ks w hS16
      refine zag (zal (v := (zI x16)) rfl ?_)
      refine zde (zcv (vs := [(zI x17.Var), (zI x17.Kind), (zac x17.Negated), (zS x17.Text)]) ti44 rfl rfl rfl rfl (zdz rfl (zdz rfl (zdz rfl (zdz rfl zej)))) hL38 0 rfl rfl (zai rfl) ?_)
      intro w60 (hL39 : Go.X.Loc X [] w w60 [some b16, some f_b, ob12, some f_dead_b, text_ob, some b14] [zab [(zI x17.Var), (zI x17.Kind), (zac x17.Negated), (zS x17.Text)], zab [f_v1, (zI f.most), (zO ob12 out11 cap12), (Value.map (some f_dead_b))], zab ([] ++ (cs15 ++ sp15)), (mcont (fun x : List UInt8 => zS x) (fun x : Bool => zac x) dead11), zab ([] ++ (cs21 ++ sp19)), zab ([] ++ (cs22 ++ []))]) hS17
      have K37 := ks w hS17
      refine zas ?_
      obtain ⟨x18, n13, q40, q41, -, h⟩ := zix h
      have f33 := ((((f27.mono (K33 S)).mono (K35 S)).mono (K36 S)).mono (K37 S))
      obtain ⟨b17, o13, c14, vs13, q42, q43, f34, q44⟩ := zcy f33 q41
      obtain rfl := q44
      obtain ⟨r12, q45, h⟩ := zdt h
      refine zcz 10 [] [] (fun W1 => [.det (zO (some b14) x15 m10), .det (zI x16), .det (zbo #[(zI x17.Var), (zI x17.Kind), (zac x17.Negated), (zS x17.Text)]), .det l_v, .det (zI x16), .det (zak (some ⟨b17, (o13 + n13 * (rInt .u32).sz), none⟩)), .det (zaa .u32 x18), .det (zaa .i32 c12), .det (zaa .u8 (uw8 c12)), .det (zaa .u32 r12)]) mixed rfl rfl rfl (fun _ => rfl) (fun _ => rfl) ?_ ?_
      ·
       intro W1 _
       exact trivial
      intro w61 hE58
      obtain ⟨hL40, K38⟩ := zl hL39 hE58
      refine zay (fun _ _ => zaq (zae rfl (er rfl))) ?_
      refine zay (fun _ _ => zaq (zae rfl (er rfl))) ?_
      refine zay (fun _ hE61 => zaq (zcu (vs := [(zI x17.Var), (zI x17.Kind), (zac x17.Negated), (zS x17.Text)]) zbg rfl ti44 rfl ((hL40.ext hE61).at 0 rfl rfl) rfl rfl (er rfl))) ?_
      refine zay (fun _ _ => zaq (zae rfl (er rfl))) ?_
      refine zay (fun _ _ => zaq (zae rfl (er rfl))) ?_
      refine zay (fun _ _ => zaq (zcb (r := (rInt .u32)) (v := l_v) (n := n13) (m := (o13 + n13 * (rInt .u32).sz)) zdg ti79 rfl q42 rfl q40 q41 rfl (er rfl))) ?_
      refine zay (fun _ hE65 => zaq (zcd zdc rfl rfl zec (zco ((ke hL40 hE65) S) (zco (K38 S) f34)) (er rfl))) ?_
      refine zay (fun _ _ => zaq (zae rfl (er rfl))) ?_
      refine zay (fun _ _ => zaq (OpY.convInt Try.underlying21 zcx rfl rfl (er rfl))) ?_
      refine DrH.det ?_ ?_
      ·
       rintro w71 Z60 hE68 hZ51 ⟨-⟩
       refine zaq (zbz en54 rfl rfl (pNext_w N x17 x18 (uw8 c12) _ Any r12 q45) ?_)
       rintro _ w72 hE69 ⟨rfl, -⟩
       exact ⟨hE69, rfl⟩
      refine zdj ?_
      rintro w73 Z61 hE70 hZ52 ⟨-⟩ ap13
      have hB13 := @zhb w61 Z61
      obtain ⟨hL42, K40⟩ := zl hL40 hE70
      obtain ⟨x19, n14, q47, q48, q49, h⟩ := zix h
      refine zag (zbd (r := (rInt .u32)) (b := b14) (o := 0) (n := n14) (m := x15.length) (xs := more11) (q := (0 + n14 * (rInt .u32).sz)) zdg ti79 rfl hl13 rfl q47 q49 rfl ?_)
      obtain ⟨x20, n15, q51, q52, q53, h⟩ := zux h
      obtain rfl := zin q47 q51
      have f35 := ((((hE57.mono (K36 None)).mono (K37 None)).mono (K38 None)).mono (K40 None))
      refine zde (zdf (pre := []) (r := (rInt .u32)) (vs := [(zaa .u32 r12)]) (a := r12) ti79 rfl rfl rfl rfl hL42 5 rfl rfl f35 q49 rfl q53 ?_)
      have hl14 : x15.length = List.length x20 := by rw [q53, List.length_set]; exact hl13
      intro w74 cs23 (hL43 : Go.X.Loc X [] w w74 [some b16, some f_b, ob12, some f_dead_b, text_ob, some b14] [zab [(zI x17.Var), (zI x17.Kind), (zac x17.Negated), (zS x17.Text)], zab [f_v1, (zI f.most), (zO ob12 out11 cap12), (Value.map (some f_dead_b))], zab ([] ++ (cs15 ++ sp15)), (mcont (fun x : List UInt8 => zS x) (fun x : Bool => zac x) dead11), zab ([] ++ (cs21 ++ sp19)), zab ([] ++ (cs23 ++ []))]) hS18 hE71 q54
      have hc26 : (cs23 ++ []).length = m10 * (rInt .u32).sz := zhc hc24 q54
      have K41 := ks w hS18
      refine zas (zbh (zaf rfl (zag (zce (x := x16) (y := 1) (z := (iw (x16 + 1))) rfl rfl rfl ?_))))
      refine zag (zae (v := (zI (iw (x16 + 1)))) rfl (zas ?_))
      have hp14 := hL43.pick [1, 2, 3, 4, 5] rfl rfl rfl
      have hL44 : Go.X.Loc X [] w w74 [some f_b, ob12, some f_dead_b, text_ob, some b14] [zab [f_v1, (zI f.most), (zO ob12 out11 cap12), (Value.map (some f_dead_b))], zab ([] ++ (cs15 ++ sp15)), (mcont (fun x : List UInt8 => zS x) (fun x : Bool => zac x) dead11), zab ([] ++ (cs21 ++ sp19)), zab ([] ++ (cs23 ++ []))] := hp14.1
      have K42 := ks w hp14.2
      have f36 := ((((((hE56.mono (K36 S)).mono (K37 S)).mono (K38 S)).mono (K40 S)).mono (K41 S)).mono (K42 S))
      have f37 := ((hE71.mono (K41 None)).mono (K42 None))
      obtain rfl := zad h
      refine zat ⟨(x20, (iw (x16 + 1))), rfl, ?_⟩
      exact ⟨cs21, sp19, cs23, _, (zdx ⟨rfl, rfl, rfl, rfl, rfl, rfl, rfl, rfl, rfl, rfl, rfl, trivial⟩), hL44, (zam (zam (zam (zam (zam (zam K35 K36) K37) K38) K40) K41) K42), f36, hc23, f37, hl14, hc26, trivial⟩
     replace h := ite_f hc25 h
     refine zcf rfl ?_
     obtain rfl := zad h
     obtain rfl := hd12 _ rfl
     replace h := g13
     try dsimp only at h
     refine zat ?_
     exact ⟨more11, cs21, sp19, cs22, _, rfl, (zdx ⟨rfl, rfl, rfl, rfl, rfl, rfl, rfl, rfl, trivial⟩), hL37, K35, hE56, hc23, hE57, hl13, hc24, trivial⟩
    rintro _ w75 ⟨more10, cs19, sp18, cs20, u, rfl, rfl, hL45, K43, hE72, hc27, hE73, hl15, hc28, -⟩
    replace h := g13
    try dsimp only at h
    refine zan (zaf rfl (zag (zae (v := (zak (some ⟨f_b, 0, none⟩))) rfl ?_)))
    refine zag (zae (v := (zO (some b14) x15 m10)) rfl ?_)
    refine zag (zae (v := (zO text_ob text text_cap)) rfl ?_)
    refine zag (zae (v := (zaa .i32 c12)) rfl ?_)
    refine zag (OpY.convInt (x := c12) (z := (uw8 c12)) Try.underlying21 zcx rfl rfl ?_)
    have hE74 : Els (rInt .u8) (vH w None [some f_b, ob12, some f_dead_b, text_ob, some b14] w75) [(zaa .u8 (uw8 c12))] [(uw8 c12)] := (zcp (a := [(zaa .u8 (uw8 c12))]) rfl zcq)
    refine zag (zct (r := (rInt .u8)) (vs := [(zaa .u8 (uw8 c12))]) (css := [[(zaa .u8 (uw8 c12))]]) (xs := [(uw8 c12)]) zcs ti5 (zai rfl) rfl rfl ⟨rfl, rfl, trivial⟩ (zai rfl) hE74 rfl hL45 ?_)
    intro b18 w76 hc29 hL46 hS19
    have K44 := ks w hS19
    obtain ⟨x21, q55, h⟩ := zdt h
    obtain ⟨q56, q57, q58⟩ := zek q55
    by_cases hr10 : text.length + 1 ≤ text_cap
    ·
     have f38 := (hE74.mono (K44 None))
     have f39 := (hE72.mono (K44 S))
     refine zag (OpY.apRoom (r := (rInt .u8)) (H := (vH w S [some b18, some f_b, ob12, some f_dead_b, text_ob, some b14] w76)) (cs := cs19) (sp := sp18) (xs := text) (ys := [(uw8 c12)]) (Y := x21) (n := text.length) (cap := text_cap) (i := 4) zcs ti5 rfl rfl rfl hL46 rfl rfl f39 rfl hc27 (Src.row (pre := []) (o := 0) (n := 1) (cap := 1) (hL46.at 0 rfl rfl) f38 rfl rfl rfl) (zcg (fun _ _ _ _ h => h) f38) (zai rfl) hr10 q58 ?_)
     intro sp20 cs24 w77 hE75 hc30 (hL47 : Go.X.Loc X [] w w77 [some b18, some f_b, ob12, some f_dead_b, text_ob, some b14] [zab ([] ++ ([(zaa .u8 (uw8 c12))] ++ [])), zab [f_v1, (zI f.most), (zO ob12 out11 cap12), (Value.map (some f_dead_b))], zab ([] ++ (cs15 ++ sp15)), (mcont (fun x : List UInt8 => zS x) (fun x : Bool => zac x) dead11), zab ([] ++ (cs24 ++ sp20)), zab ([] ++ (cs20 ++ []))]) hS20
     have K45 := ks w hS20
     refine zag (zae (v := (zI left)) rfl ?_)
     refine zag (OpY.sub (x := left) (y := 1) (z := (iw (left - 1))) rfl rfl rfl ?_)
     obtain ⟨r13, q59, h⟩ := zdt h
     have hL48 := hL47.lendW [1, 2, 3, 4] rfl rfl rfl
     have f40 := (((f28.mono (K43 S)).mono (K44 S)).mono (K45 S))
     have f41 := (((((hE24.mono (K32 S)).mono (K33 S)).mono (K43 S)).mono (K44 S)).mono (K45 S))
     have f42 := ((hE73.mono (K44 None)).mono (K45 None))
     have f43 := (hE75.mono (K45 S))
     refine zag (zdo en64 rfl rfl (ih (TFinder.mk f.tests f.most out11 dead11) more10 x21 (iw (left - 1)) f_b f_v1 ob12 cap12 cs15 sp15 f_dead_b (zO (some b14) x15 m10) text_ob text_cap cs24 sp20 [some f_b, ob12, some f_dead_b, text_ob] _ Any hL48 (f40.mono (zcn [1, 2, 3, 4] rfl)) (f41.mono (zcn [1, 2, 3, 4] rfl)) hc17 (zei (pre := []) (o := 0) (n := x15.length) (cap := m10) hL47 5 [1, 2, 3, 4] rfl rfl rfl rfl f42 (zcn [1, 2, 3, 4] rfl) rfl rfl hl15 hc28) (f43.mono (zcn [1, 2, 3, 4] rfl)) hc30 r13 q59) ?_)
     rintro _ w78 ⟨ob13, cap13, cs25, sp21, cs26, sp22, rfl, hL49, K46, hE76, hc31, hE77, hc32, -⟩
     refine ⟨_, rfl, ?_⟩
     have hp15 := hL47.backW [1, 2, 3, 4] [0, 5] rfl rfl rfl rfl hL49
     have hL50 : Go.X.Loc X [] w w78 [some f_b, ob13, some f_dead_b, text_ob, some b18, some b14] [zab [f_v1, (zI f.most), (zO ob13 r13.2.1 cap13), (Value.map (some f_dead_b))], zab ([] ++ (cs25 ++ sp21)), (mcont (fun x : List UInt8 => zS x) (fun x : Bool => zac x) r13.2.2), zab ([] ++ (cs26 ++ sp22)), zab ([] ++ ([(zaa .u8 (uw8 c12))] ++ [])), zab ([] ++ (cs20 ++ []))] := hp15.1
     have K47 := ks w hp15.2
     have hE78 : Els rStr (vH w S [some f_b, ob13, some f_dead_b, text_ob, some b18, some b14] w78) cs25 r13.2.1 := zcg (fun _ _ _ _ h => h) hE76
     have hE79 : Els (rInt .u8) (vH w S [some f_b, ob13, some f_dead_b, text_ob, some b18, some b14] w78) cs26 x21 := zcg (fun _ _ _ _ h => h) hE77
     refine zas ?_
     refine zch r13.1 rfl (fun hc33 => ?_) (fun hc33 => ?_)
     ·
      replace h := ite_t hc33 h
      refine zaf rfl (zag (zal (v := zT) rfl ?_))
      refine zas (zbh (zaf rfl (zag (zae (v := (zaa .i32 c12)) rfl ?_))))
      refine zag (zce (x := c12) (y := 1) (z := (iw32 (c12 + 1))) rfl rfl rfl ?_)
      refine zag (zal (v := (zaa .i32 (iw32 (c12 + 1)))) rfl (zas ?_))
      obtain ⟨cs27, sp23, rfl, hE80⟩ := Els.shrink (show Els (rInt .u8) _ _ (_ ++ _) by rw [← q58]; exact hE79)
      have q60 : cs27 ++ (sp23 ++ sp22) = (cs27 ++ sp23) ++ sp22 := (List.append_assoc _ _ _).symm
      have hc34 : (cs27 ++ (sp23 ++ sp22)).length = text_cap * (rInt .u8).sz := by rw [q60]; exact hc32
      have hL51 : Go.X.Loc X [] w w78 [some f_b, ob13, some f_dead_b, text_ob, some b18, some b14] [zab [f_v1, (zI f.most), (zO ob13 r13.2.1 cap13), (Value.map (some f_dead_b))], zab ([] ++ (cs25 ++ sp21)), (mcont (fun x : List UInt8 => zS x) (fun x : Bool => zac x) r13.2.2), zab ([] ++ (cs27 ++ (sp23 ++ sp22))), zab ([] ++ ([(zaa .u8 (uw8 c12))] ++ [])), zab ([] ++ (cs20 ++ []))] := by rw [q60]; exact hL50
      have hp16 := hL51.pick [0, 1, 2, 3] rfl rfl rfl
      have hL52 : Go.X.Loc X [] w w78 [some f_b, ob13, some f_dead_b, text_ob] [zab [f_v1, (zI f.most), (zO ob13 r13.2.1 cap13), (Value.map (some f_dead_b))], zab ([] ++ (cs25 ++ sp21)), (mcont (fun x : List UInt8 => zS x) (fun x : Bool => zac x) r13.2.2), zab ([] ++ (cs27 ++ (sp23 ++ sp22)))] := hp16.1
      have K48 := ks w hp16.2
      have f44 := (hE78.mono (K48 S))
      have f45 := (hE80.mono (K48 S))
      obtain rfl := zad h
      refine zat ⟨(r13.2.1, r13.2.2, true, (iw32 (c12 + 1))), rfl, ?_⟩
      exact ⟨ob13, cap13, sp21, cs25, r13.2.1.length, cs27, (sp23 ++ sp22), _, (zdx ⟨rfl, rfl, rfl, rfl, rfl, rfl, rfl, trivial⟩), hL52, (zam (zam (zam (zam (zam (zam (zam K26 K32) K33) K43) K44) K45) K47) K48), f44, rfl, hc31, f45, hc34, trivial⟩
     replace h := ite_f hc33 h
     refine zbl (zbh (zaf rfl (zag (zae (v := (zaa .i32 c12)) rfl ?_))))
     refine zag (zce (x := c12) (y := 1) (z := (iw32 (c12 + 1))) rfl rfl rfl ?_)
     refine zag (zal (v := (zaa .i32 (iw32 (c12 + 1)))) rfl (zas ?_))
     obtain ⟨cs28, sp24, rfl, hE81⟩ := Els.shrink (show Els (rInt .u8) _ _ (_ ++ _) by rw [← q58]; exact hE79)
     have q61 : cs28 ++ (sp24 ++ sp22) = (cs28 ++ sp24) ++ sp22 := (List.append_assoc _ _ _).symm
     have hc35 : (cs28 ++ (sp24 ++ sp22)).length = text_cap * (rInt .u8).sz := by rw [q61]; exact hc32
     have hL53 : Go.X.Loc X [] w w78 [some f_b, ob13, some f_dead_b, text_ob, some b18, some b14] [zab [f_v1, (zI f.most), (zO ob13 r13.2.1 cap13), (Value.map (some f_dead_b))], zab ([] ++ (cs25 ++ sp21)), (mcont (fun x : List UInt8 => zS x) (fun x : Bool => zac x) r13.2.2), zab ([] ++ (cs28 ++ (sp24 ++ sp22))), zab ([] ++ ([(zaa .u8 (uw8 c12))] ++ [])), zab ([] ++ (cs20 ++ []))] := by rw [q61]; exact hL50
     have hp17 := hL53.pick [0, 1, 2, 3] rfl rfl rfl
     have hL54 : Go.X.Loc X [] w w78 [some f_b, ob13, some f_dead_b, text_ob] [zab [f_v1, (zI f.most), (zO ob13 r13.2.1 cap13), (Value.map (some f_dead_b))], zab ([] ++ (cs25 ++ sp21)), (mcont (fun x : List UInt8 => zS x) (fun x : Bool => zac x) r13.2.2), zab ([] ++ (cs28 ++ (sp24 ++ sp22)))] := hp17.1
     have K49 := ks w hp17.2
     have f46 := (hE78.mono (K49 S))
     have f47 := (hE81.mono (K49 S))
     obtain rfl := zad h
     refine zat ⟨(r13.2.1, r13.2.2, found11, (iw32 (c12 + 1))), rfl, ?_⟩
     exact ⟨ob13, cap13, sp21, cs25, r13.2.1.length, cs28, (sp24 ++ sp22), _, (zdx ⟨rfl, rfl, rfl, rfl, rfl, rfl, rfl, trivial⟩), hL54, (zam (zam (zam (zam (zam (zam (zam K26 K32) K33) K43) K44) K45) K47) K49), f46, rfl, hc31, f47, hc35, trivial⟩
    have f38 := (hE74.mono (K44 None))
    have f48 := (hE72.mono (K44 S))
    refine zag (OpY.apNew (r := (rInt .u8)) (H := (vH w S [some b18, some f_b, ob12, some f_dead_b, text_ob, some b14] w76)) (cs := cs19) (sp := sp18) (xs := text) (ys := [(uw8 c12)]) (Y := x21) (n := text.length) (cap := text_cap) (i := 4) zcs ti5 rfl rfl rfl rfl hL46 rfl rfl f48 rfl hc27 (Src.row (pre := []) (o := 0) (n := 1) (cap := 1) (hL46.at 0 rfl rfl) f38 rfl rfl rfl) (zcg (fun _ _ _ _ h => h) f38) (zai rfl) hr10 q56 q57 q58 ?_)
    intro b19 cap14 sp25 cs29 w79 hE82 hc36 (hL55 : Go.X.Loc X [] w w79 [some b19, some b18, some f_b, ob12, some f_dead_b, text_ob, some b14] [zab ([] ++ (cs29 ++ sp25)), zab ([] ++ ([(zaa .u8 (uw8 c12))] ++ [])), zab [f_v1, (zI f.most), (zO ob12 out11 cap12), (Value.map (some f_dead_b))], zab ([] ++ (cs15 ++ sp15)), (mcont (fun x : List UInt8 => zS x) (fun x : Bool => zac x) dead11), zab ([] ++ (cs19 ++ sp18)), zab ([] ++ (cs20 ++ []))]) hS21
    have K50 := ks w hS21
    refine zag (zae (v := (zI left)) rfl ?_)
    refine zag (OpY.sub (x := left) (y := 1) (z := (iw (left - 1))) rfl rfl rfl ?_)
    obtain ⟨r13, q59, h⟩ := zdt h
    have hL48 := hL55.lendW [2, 3, 4, 0] rfl rfl rfl
    have f40 := (((f28.mono (K43 S)).mono (K44 S)).mono (K50 S))
    have f41 := (((((hE24.mono (K32 S)).mono (K33 S)).mono (K43 S)).mono (K44 S)).mono (K50 S))
    have f42 := ((hE73.mono (K44 None)).mono (K50 None))
    have f43 := (hE82.mono (K50 S))
    refine zag (zdo en64 rfl rfl (ih (TFinder.mk f.tests f.most out11 dead11) more10 x21 (iw (left - 1)) f_b f_v1 ob12 cap12 cs15 sp15 f_dead_b (zO (some b14) x15 m10) (some b19) cap14 cs29 sp25 [some f_b, ob12, some f_dead_b, some b19] _ Any hL48 (f40.mono (zcn [2, 3, 4, 0] rfl)) (f41.mono (zcn [2, 3, 4, 0] rfl)) hc17 (zei (pre := []) (o := 0) (n := x15.length) (cap := m10) hL55 6 [2, 3, 4, 0] rfl rfl rfl rfl f42 (zcn [2, 3, 4, 0] rfl) rfl rfl hl15 hc28) (f43.mono (zcn [2, 3, 4, 0] rfl)) hc36 r13 q59) ?_)
    rintro _ w78 ⟨ob13, cap13, cs25, sp21, cs26, sp22, rfl, hL49, K46, hE76, hc31, hE77, hc32, -⟩
    refine ⟨_, rfl, ?_⟩
    have hp15 := hL55.backW [2, 3, 4, 0] [1, 5, 6] rfl rfl rfl rfl hL49
    have hL50 : Go.X.Loc X [] w w78 [some f_b, ob13, some f_dead_b, some b19, some b18, text_ob, some b14] [zab [f_v1, (zI f.most), (zO ob13 r13.2.1 cap13), (Value.map (some f_dead_b))], zab ([] ++ (cs25 ++ sp21)), (mcont (fun x : List UInt8 => zS x) (fun x : Bool => zac x) r13.2.2), zab ([] ++ (cs26 ++ sp22)), zab ([] ++ ([(zaa .u8 (uw8 c12))] ++ [])), zab ([] ++ (cs19 ++ sp18)), zab ([] ++ (cs20 ++ []))] := hp15.1
    have K47 := ks w hp15.2
    have hE78 : Els rStr (vH w S [some f_b, ob13, some f_dead_b, some b19, some b18, text_ob, some b14] w78) cs25 r13.2.1 := zcg (fun _ _ _ _ h => h) hE76
    have hE79 : Els (rInt .u8) (vH w S [some f_b, ob13, some f_dead_b, some b19, some b18, text_ob, some b14] w78) cs26 x21 := zcg (fun _ _ _ _ h => h) hE77
    refine zas ?_
    refine zch r13.1 rfl (fun hc33 => ?_) (fun hc33 => ?_)
    ·
     replace h := ite_t hc33 h
     refine zaf rfl (zag (zal (v := zT) rfl ?_))
     refine zas (zbh (zaf rfl (zag (zae (v := (zaa .i32 c12)) rfl ?_))))
     refine zag (zce (x := c12) (y := 1) (z := (iw32 (c12 + 1))) rfl rfl rfl ?_)
     refine zag (zal (v := (zaa .i32 (iw32 (c12 + 1)))) rfl (zas ?_))
     have hp18 := hL50.pick [0, 1, 2, 5] rfl rfl rfl
     have hL56 : Go.X.Loc X [] w w78 [some f_b, ob13, some f_dead_b, text_ob] [zab [f_v1, (zI f.most), (zO ob13 r13.2.1 cap13), (Value.map (some f_dead_b))], zab ([] ++ (cs25 ++ sp21)), (mcont (fun x : List UInt8 => zS x) (fun x : Bool => zac x) r13.2.2), zab ([] ++ (cs19 ++ sp18))] := hp18.1
     have K51 := ks w hp18.2
     have f49 := (hE78.mono (K51 S))
     have f50 := (((f48.mono (K50 S)).mono (K47 S)).mono (K51 S))
     obtain rfl := zad h
     refine zat ⟨(r13.2.1, r13.2.2, true, (iw32 (c12 + 1))), rfl, ?_⟩
     exact ⟨ob13, cap13, sp21, cs25, r13.2.1.length, cs19, sp18, _, (zdx ⟨rfl, rfl, rfl, rfl, rfl, rfl, rfl, trivial⟩), hL56, (zam (zam (zam (zam (zam (zam (zam K26 K32) K33) K43) K44) K50) K47) K51), f49, rfl, hc31, f50, hc27, trivial⟩
    replace h := ite_f hc33 h
    refine zbl (zbh (zaf rfl (zag (zae (v := (zaa .i32 c12)) rfl ?_))))
    refine zag (zce (x := c12) (y := 1) (z := (iw32 (c12 + 1))) rfl rfl rfl ?_)
    refine zag (zal (v := (zaa .i32 (iw32 (c12 + 1)))) rfl (zas ?_))
    have hp19 := hL50.pick [0, 1, 2, 5] rfl rfl rfl
    have hL57 : Go.X.Loc X [] w w78 [some f_b, ob13, some f_dead_b, text_ob] [zab [f_v1, (zI f.most), (zO ob13 r13.2.1 cap13), (Value.map (some f_dead_b))], zab ([] ++ (cs25 ++ sp21)), (mcont (fun x : List UInt8 => zS x) (fun x : Bool => zac x) r13.2.2), zab ([] ++ (cs19 ++ sp18))] := hp19.1
    have K52 := ks w hp19.2
    have f51 := (hE78.mono (K52 S))
    have f52 := (((f48.mono (K50 S)).mono (K47 S)).mono (K52 S))
    obtain rfl := zad h
    refine zat ⟨(r13.2.1, r13.2.2, found11, (iw32 (c12 + 1))), rfl, ?_⟩
    exact ⟨ob13, cap13, sp21, cs25, r13.2.1.length, cs19, sp18, _, (zdx ⟨rfl, rfl, rfl, rfl, rfl, rfl, rfl, trivial⟩), hL57, (zam (zam (zam (zam (zam (zam (zam K26 K32) K33) K43) K44) K50) K47) K52), f51, rfl, hc31, f52, hc27, trivial⟩
   replace h := ite_f hc21 h
   refine zcf rfl ?_
   have f44 := (hE24.mono (K32 S))
   obtain rfl := zad h
   obtain rfl := hd11 _ rfl
   replace h := g11
   try dsimp only at h
   refine zat ?_
   exact ⟨out11, dead11, found11, ob12, cap12, sp15, cs15, out11.length, cs17, sp17, _, rfl, (zdx ⟨rfl, rfl, rfl, rfl, trivial⟩), hL34, (zam K26 K32), f44, rfl, hc17, hE54, hc20, trivial⟩
  rintro _ w80 ⟨out10, dead10, found10, ob11, cap11, sp13, cs13, ln10, cs14, sp14, u, rfl, rfl, hL58, K53, hE83, rfl, hc37, hE84, hc38, -⟩
  replace h := g11
  try dsimp only at h
  refine zan (zan (zaf rfl (zag (zae (v := (zac found10)) rfl ?_))))
  refine zag (zdq (x := found10) rfl (zas ?_))
  refine zch (!found10) rfl (fun hc39 => ?_) (fun hc39 => ?_)
  ·
   replace h := ite_t hc39 h
   refine zaf rfl (zag (zae (v := (zak (some ⟨f_b, 0, none⟩))) rfl ?_))
   refine zag (zdb (b := ⟨f_b, 0, none⟩) rfl ?_)
   refine zag (zau (q := 3) zcr rfl ti91 rfl rfl rfl ?_)
   refine zag (zav (v := (Value.map (some f_dead_b))) Try.underlying91 rfl rfl (hL58.at 0 rfl rfl) rfl ?_)
   refine zag (zae (v := (zS r11)) rfl ?_)
   refine zde (OpY.mapPut (kf := (fun x : List UInt8 => zS x)) (vf := (fun x : Bool => zac x)) (m := dead10) (x := r11) (y := true) mky_9 Try.underlying91 rfl rfl rfl hL58 2 rfl rfl ?_)
   intro w81 (hL59 : Go.X.Loc X [] w w81 [some f_b, ob11, some f_dead_b, text_ob] [zab [f_v1, (zI f.most), (zO ob11 out10 cap11), (Value.map (some f_dead_b))], zab ([] ++ (cs13 ++ sp13)), (mcont (fun x : List UInt8 => zS x) (fun x : Bool => zac x) (mput dead10 r11 true)), zab ([] ++ (cs14 ++ sp14))]) hS22
   have K54 := ks w hS22
   refine zas (zan (zaf rfl (zag (zae (v := (zac found10)) rfl ?_))))
   refine zag (zal (v := (zac found10)) rfl ?_)
   refine zas (zbq ?_)
   obtain rfl := zad h
   refine ⟨[(zac found10)], zrt, ?_⟩
   have f53 := (hE83.mono (K54 S))
   have f54 := (hE84.mono (K54 S))
   exact ⟨ob11, cap11, cs13, sp13, cs14, sp14, rfl, hL59, (zam (zam K25 K53) K54), f53, hc37, f54, hc38, trivial⟩
  replace h := ite_f hc39 h
  refine zbl (zan (zaf rfl (zag (zae (v := (zac found10)) rfl ?_))))
  refine zag (zal (v := (zac found10)) rfl ?_)
  refine zas (zbq ?_)
  obtain rfl := zad h
  refine ⟨[(zac found10)], zrt, ?_⟩
  exact ⟨ob11, cap11, cs13, sp13, cs14, sp14, rfl, hL58, (zam K25 K53), hE83, hc37, hE84, hc38, trivial⟩
theorem pWords_w (N : Nat) (l : (List TTest)) (length : Int) (most : Int) (l_v : Value) (w : World) (S : Nat → Prop) (l_h : Rs rTTest (vH w S [] w) l_v l) (r : (List (List UInt8))) (h : pWords N l length most = some r) :
  Calls Try.prog 39 #[l_v, (zI length), (zI most)] w (Ret w (fun v w' => ∃ (ob0 : Option Nat) (cap0 : Nat) (cs0 : List Value) (sp0 : List Value), (zO ob0 r cap0) = v ∧ NewOwn w w' [ob0] [zab ([] ++ (cs0 ++ sp0))] ∧ Els rStr (vH w None [ob0] w') cs0 r ∧ (cs0 ++ sp0).length = cap0 * rStr.sz ∧ True)) := by
 unfold pWords at h
 have hL : vL w w [] [] := Go.X.Loc.begin0 w
 refine calls_of (l := [l_v, (zI length), (zI most)]) (rl := [.tmp 6]) (n := 28) Try.func39 rfl rfl rfl (zai rfl) ?_
 refine zan (zaf rfl (zag (zal (v := zN) rfl ?_)))
 refine zas (zan (zan ?_))
 obtain ⟨s3, h, g4⟩ := zdt h
 refine zbu (fun e w' => ∃ (x2 : Bool) (u : Env), x2 = s3 ∧ e = upds [(0, l_v), (1, (zI length)), (2, (zI most)), (13, (zac x2))] u ∧ vL w w' [] [] ∧ Keep w.heap.size [] w [] w' ∧ True) ?_ ?_
 ·
  refine zaf rfl (zag (zae (v := (zI length)) rfl ?_))
  refine zag (zck (x := length) (y := 0) ((length : Int) < 0) rfl rfl zbk ?_)
  refine zag (zae (v := (zac (decide ((length : Int) < 0)))) rfl ?_)
  by_cases hc5 : (length : Int) < 0
  ·
   replace h := ite_t hc5 h
   refine zbe rfl rfl (zdv hc5) (zbe rfl rfl (zdv hc5) ?_)
   refine zag (zbr (t := (decide ((length : Int) < 0))) (v := zT) rfl (zdv hc5) rfl (zas ?_))
   obtain rfl := zad h
   refine zat ?_
   exact ⟨true, _, rfl, (zdx ⟨rfl, rfl, rfl, rfl, trivial⟩), hL, zbt, trivial⟩
  replace h := ite_f hc5 h
  refine zaz rfl rfl (zdu hc5) (zae (v := (zI most)) rfl ?_)
  refine zaz rfl rfl (zdu hc5) (OpY.leq (x := most) (y := 0) ((most : Int) ≤ 0) rfl rfl zbk ?_)
  refine zag (zbp (t := (decide ((length : Int) < 0))) (v := (zac (decide ((most : Int) ≤ 0)))) rfl (zdu hc5) rfl (zas ?_))
  obtain rfl := zad h
  refine zat ?_
  exact ⟨(decide ((most : Int) ≤ 0)), _, rfl, (zdx ⟨rfl, rfl, rfl, rfl, trivial⟩), hL, zbt, trivial⟩
 rintro _ w6 ⟨x2, u, rfl, rfl, hL7, K8, -⟩
 replace h := g4
 try dsimp only at h
 refine zch x2 rfl (fun hc9 => ?_) (fun hc9 => ?_)
 ·
  replace h := ite_t hc9 h
  refine zan (zaf rfl (zag (zal (v := zN) rfl (zas ?_))))
  have hp10 := hL7.addNil
  have hL10 : vL w w6 [none] [zab ([] ++ ([] ++ []))] := hp10.1
  have hE10 : Els rStr (vH w None [none] w6) [] [] := zcq
  refine zbq ?_
  obtain rfl := zad h
  refine ⟨[(osv none 0 (List.length ([] : (List (List UInt8)))) 0)], zrt, ⟨_, rfl, hL10.done, ?_⟩⟩
  exact ⟨none, 0, [], [], rfl, (hL10.newOwn [0] rfl rfl rfl), (hE10.mono (zds [0] rfl)), (show ([] ++ [] : List Value).length = 0 * rStr.sz by simp), trivial⟩
 replace h := ite_f hc9 h
 refine zbl (zan (zaf rfl (zag (zae (v := l_v) rfl ?_))))
 refine zag (zae (v := (zI most)) rfl ?_)
 refine zag (OpY.makeMap (kf := (fun x : List UInt8 => zS x)) (vf := (fun x : Bool => zac x)) hL7 ?_)
 intro b10 w10 hL11 hS10
 have K10 := ks w hS10
 have f10 := ((l_h.mono (K8 S)).mono (K10 S))
 refine zag (OpY.build (zc := [zN, (zI 0), zN, (Value.map none)]) (cs := [l_v, (zI most), zN, (Value.map (some b10))]) (is := [0, 1, 3]) (vs := [l_v, (zI most), (Value.map (some b10))]) (css := [[l_v], [(zI most)], [(Value.map (some b10))]]) pl93 ti93 rfl rfl rfl ⟨(zeg f10.one), ⟨rfl, rfl, trivial⟩⟩ rfl ?_)
 refine zag (zdr (cs := [l_v, (zI most), zN, (Value.map (some b10))]) rfl rfl hL11 ?_)
 intro b11 w11 hL12 hS11
 have K11 := ks w hS11
 refine zag (zal (v := (zak (some ⟨b11, 0, none⟩))) rfl ?_)
 refine zas (zan (zaf rfl (zag (zae (v := (zak (some ⟨b11, 0, none⟩))) rfl ?_))))
 refine zag (zae (v := (zak (some ⟨b11, 0, none⟩))) rfl ?_)
 obtain ⟨s10, h, g10⟩ := zdt h
 refine zag (zdo (T := fun e w' => ∃ (x10 : (List Int)) (ob10 : Option Nat) (cap10 : Nat) (sp10 : List Value) (cs10 : List Value) (ln10 : Nat), x10 = s10 ∧ e = Ending.returned (osv ob10 0 ln10 cap10) ∧ vL w w' [some b11, some b10, ob10] [zab [l_v, (zI most), zN, (Value.map (some b10))], (mcont (fun x : List UInt8 => zS x) (fun x : Bool => zac x) ([] : (List ((List UInt8) × Bool)))), zab ([] ++ (cs10 ++ sp10))] ∧ Keep w.heap.size [some b11, some b10] w11 [some b11, some b10, ob10] w' ∧ Els (rInt .u32) (vH w None [some b11, some b10, ob10] w') cs10 x10 ∧ ln10 = List.length x10 ∧ (cs10 ++ sp10).length = cap10 * (rInt .u32).sz ∧ True) en65 rfl rfl ?_ ?_)
 ·
  refine calls_of (l := [(zak (some ⟨b11, 0, none⟩))]) (rl := [.tmp 2]) (n := 22) Try.func65 rfl rfl rfl (zai rfl) ?_
  refine zan (zaf rfl (zag (zal (v := zN) rfl ?_)))
  refine zas (zan (zaf rfl (zag (zal (v := zN) rfl ?_))))
  refine zas (zan (zan (zaf rfl (zag (zae (v := (zak (some ⟨b11, 0, none⟩))) rfl ?_)))))
  refine zag (zdb (b := ⟨b11, 0, none⟩) rfl ?_)
  refine zag (zau (q := 0) zcr rfl ti23 rfl rfl rfl ?_)
  refine zag (zav (v := l_v) zbc rfl rfl (hL12.at 0 rfl rfl) rfl ?_)
  have f11 := (f10.mono (K11 S))
  refine zag (zcc (v := l_v) zbc rfl f11 ?_)
  refine zag (zae (v := (zI 0)) rfl (zas ?_))
  obtain ⟨s11, hl10, g11⟩ := zdt h
  refine zbu (fun e w' => ∃ (l10 : (List Int)) (ob11 : Option Nat) (cap11 : Nat) (sp11 : List Value) (cs11 : List Value) (ln11 : Nat) (u : Env), l10 = s11 ∧ e = upds [(3, (osv ob11 0 ln11 cap11))] u ∧ vL w w' [ob11, some b11, some b10] [zab ([] ++ (cs11 ++ sp11)), zab [l_v, (zI most), zN, (Value.map (some b10))], (mcont (fun x : List UInt8 => zS x) (fun x : Bool => zac x) ([] : (List ((List UInt8) × Bool))))] ∧ Keep w.heap.size [some b11, some b10] w11 [ob11, some b11, some b10] w' ∧ Els (rInt .u32) (vH w None [ob11, some b11, some b10] w') cs11 l10 ∧ ln11 = List.length l10 ∧ (cs11 ++ sp11).length = cap11 * (rInt .u32).sz ∧ True) ?_ ?_
  ·
   refine zbb ?_
   have hp11 := hL12.addNil
   have hL13 : vL w w11 [none, some b11, some b10] [zab ([] ++ ([] ++ [])), zab [l_v, (zI most), zN, (Value.map (some b10))], (mcont (fun x : List UInt8 => zS x) (fun x : Bool => zac x) ([] : (List ((List UInt8) × Bool))))] := hp11.1
   have K12 := ks w hp11.2
   refine zca hl10 (fun (ss : ((List Int) × Int)) (e : Env) (w' : World) => match ss with | (l11, x11) => ∃ (ob12 : Option Nat) (cap12 : Nat) (sp12 : List Value) (cs12 : List Value) (ln12 : Nat) (u : Env), e = upds [(3, (osv ob12 0 ln12 cap12)), (9, l_v), (10, (zI (l.length : Int))), (11, (zI x11))] u ∧ vL w w' [ob12, some b11, some b10] [zab ([] ++ (cs12 ++ sp12)), zab [l_v, (zI most), zN, (Value.map (some b10))], (mcont (fun x : List UInt8 => zS x) (fun x : Bool => zac x) ([] : (List ((List UInt8) × Bool))))] ∧ Keep w.heap.size [some b11, some b10] w11 [ob12, some b11, some b10] w' ∧ Els (rInt .u32) (vH w None [ob12, some b11, some b10] w') cs12 l11 ∧ ln12 = List.length l11 ∧ (cs12 ++ sp12).length = cap12 * (rInt .u32).sz ∧ True) ⟨none, 0, [], [], (List.length ([] : (List Int))), _, (zdx ⟨rfl, rfl, rfl, rfl, trivial⟩), hL13, K12, (zcq (r := (rInt .u32))), rfl, (show ([] ++ [] : List Value).length = 0 * (rInt .u32).sz by simp), trivial⟩ ?_
   rintro ⟨l11, x11⟩ oo _ w12 ⟨ob12, cap12, sp12, cs12, ln12, u, rfl, hL14, K13, hE11, rfl, hc10, -⟩ h hd10
   rw [pWords_b1] at h
   refine zan (zaf rfl (zag (zck (x := x11) (y := (l.length : Int)) ((x11 : Int) < (l.length : Int)) rfl rfl zbk ?_)))
   refine zas (zan ?_)
   refine zbm ((x11 : Int) < (l.length : Int)) rfl (fun hc11 => ?_) (fun hc11 => ?_)
   ·
    replace h := ite_t hc11 h
    refine zbl (zan (zbb (zan (zaf rfl ?_))))
    obtain ⟨x12, n10, q11, q12, -, h⟩ := zix h
    have f12 := (f11.mono (K13 S))
    obtain ⟨b12, o10, c10, vs10, q13, q14, f13, q15⟩ := zcy f12 q12
    obtain ⟨rfl, -⟩ := rTTest_open q15
    refine zag (zcb (r := rTTest) (v := l_v) (n := n10) (m := (o10 + n10 * rTTest.sz)) zbc ti44 rfl q13 rfl q11 q12 rfl ?_)
    refine zag (OpY.ldRoA (vs := [(zI x12.Var), (zI x12.Kind), (zac x12.Negated), (zS x12.Text)]) zbg rfl ti44 rfl rfl zec f13 ?_)
    refine zag (zdh (cs := [(zI 0), (zI 0), zF, (zah (s8 []))]) ti44 rfl hL14 ?_)
    intro b13 w13 hL15 hS12
    have K14 := ks w hS12
    refine zde (zcv (vs := [(zI x12.Var), (zI x12.Kind), (zac x12.Negated), (zS x12.Text)]) ti44 rfl rfl rfl rfl (zdz rfl (zdz rfl (zdz rfl (zdz rfl zej)))) hL15 0 rfl rfl (zai rfl) ?_)
    intro w14 (hL16 : vL w w14 [some b13, ob12, some b11, some b10] [zab [(zI x12.Var), (zI x12.Kind), (zac x12.Negated), (zS x12.Text)], zab ([] ++ (cs12 ++ sp12)), zab [l_v, (zI most), zN, (Value.map (some b10))], (mcont (fun x : List UInt8 => zS x) (fun x : Bool => zac x) ([] : (List ((List UInt8) × Bool))))]) hS13
    have K15 := ks w hS13
    refine zas (zaf rfl (zag (zae (v := (zO ob12 l11 cap12)) rfl ?_)))
    refine zag (zcu (vs := [(zI x12.Var), (zI x12.Kind), (zac x12.Negated), (zS x12.Text)]) zbg rfl ti44 rfl (hL16.at 0 rfl rfl) rfl rfl ?_)
    obtain ⟨r10, q16, h⟩ := zdt h
    refine zag (zbz en53 rfl rfl (pBegin_w N x12 _ Any r10 q16) ?_)
    rintro _ w15 hE12 ⟨rfl, -⟩
    obtain ⟨hL17, K16⟩ := zl hL16 hE12
    have hE13 : Els (rInt .u32) (vH w None [some b13, ob12, some b11, some b10] w15) [(zaa .u32 r10)] [r10] := (zcp (a := [(zaa .u32 r10)]) rfl zcq)
    refine zag (zct (r := (rInt .u32)) (vs := [(zaa .u32 r10)]) (css := [[(zaa .u32 r10)]]) (xs := [r10]) zdg ti79 (zai rfl) rfl rfl ⟨rfl, rfl, trivial⟩ (zai rfl) hE13 rfl hL17 ?_)
    intro b14 w16 hc12 hL18 hS14
    have K17 := ks w hS14
    obtain ⟨x13, q17, h⟩ := zdt h
    obtain ⟨q18, q19, q20⟩ := zek q17
    have f14 := (hE13.mono (K17 None))
    have f15 := ((((hE11.mono (K14 None)).mono (K15 None)).mono (K16 None)).mono (K17 None))
    refine zag (zcw (r := (rInt .u32)) (H := (vH w None [some b14, some b13, ob12, some b11, some b10] w16)) (cs := cs12) (sp := sp12) (xs := l11) (ys := [r10]) (Y := x13) (n := l11.length) (cap := cap12) (i := 2) zdg ti79 rfl rfl rfl rfl hL18 rfl rfl f15 rfl hc10 (Src.row (pre := []) (o := 0) (n := 1) (cap := 1) (hL18.at 0 rfl rfl) f14 rfl rfl rfl) (zcg (fun _ _ _ _ h => h) f14) q18 q19 q20 ?_)
    intro ob13 cap13 sp13 cs13 w17 hE14 hc13 (hL19 : vL w w17 [some b14, some b13, ob13, some b11, some b10] [zab ([] ++ ([(zaa .u32 r10)] ++ [])), zab [(zI x12.Var), (zI x12.Kind), (zac x12.Negated), (zS x12.Text)], zab ([] ++ (cs13 ++ sp13)), zab [l_v, (zI most), zN, (Value.map (some b10))], (mcont (fun x : List UInt8 => zS x) (fun x : Bool => zac x) ([] : (List ((List UInt8) × Bool))))]) hS15
    have K18 := ks w hS15
    refine zag (zal (v := (zO ob13 x13 cap13)) rfl ?_)
    refine zas (zbh (zaf rfl (zag (zce (x := x11) (y := 1) (z := (iw (x11 + 1))) rfl rfl rfl ?_))))
    refine zag (zae (v := (zI (iw (x11 + 1)))) rfl (zas ?_))
    have hp12 := hL19.pick [2, 3, 4] rfl rfl rfl
    have hL20 : vL w w17 [ob13, some b11, some b10] [zab ([] ++ (cs13 ++ sp13)), zab [l_v, (zI most), zN, (Value.map (some b10))], (mcont (fun x : List UInt8 => zS x) (fun x : Bool => zac x) ([] : (List ((List UInt8) × Bool))))] := hp12.1
    have K19 := ks w hp12.2
    have f16 := ((hE14.mono (K18 None)).mono (K19 None))
    obtain rfl := zad h
    refine zat ⟨(x13, (iw (x11 + 1))), rfl, ?_⟩
    exact ⟨ob13, cap13, sp13, cs13, x13.length, _, (zdx ⟨rfl, rfl, rfl, rfl, trivial⟩), hL20, (zam (zam (zam (zam (zam (zam K13 K14) K15) K16) K17) K18) K19), f16, rfl, hc13, trivial⟩
   replace h := ite_f hc11 h
   refine zcf rfl ?_
   obtain rfl := zad h
   obtain rfl := hd10 _ rfl
   replace h := g11
   try dsimp only at h
   refine zat ?_
   exact ⟨l11, ob12, cap12, sp12, cs12, l11.length, _, rfl, (zdx zrt), hL14, K13, hE11, rfl, hc10, trivial⟩
  rintro _ w18 ⟨l10, ob11, cap11, sp11, cs11, ln11, u, rfl, rfl, hL21, K20, hE15, rfl, hc14, -⟩
  replace h := g11
  try dsimp only at h
  refine zan (zaf rfl (zag (zae (v := (zO ob11 l10 cap11)) rfl ?_)))
  refine zag (zal (v := (zO ob11 l10 cap11)) rfl ?_)
  refine zas (zbq ?_)
  refine ⟨[(zO ob11 l10 cap11)], zrt, ?_⟩
  have hp13 := hL21.pick [1, 2, 0] rfl rfl rfl
  have hL22 : vL w w18 [some b11, some b10, ob11] [zab [l_v, (zI most), zN, (Value.map (some b10))], (mcont (fun x : List UInt8 => zS x) (fun x : Bool => zac x) ([] : (List ((List UInt8) × Bool)))), zab ([] ++ (cs11 ++ sp11))] := hp13.1
  have K21 := ks w hp13.2
  have f17 := (hE15.mono (K21 None))
  obtain rfl := zad h
  exact ⟨l10, ob11, cap11, sp11, cs11, l10.length, rfl, rfl, hL22, (zam K20 K21), f17, rfl, hc14, trivial⟩
 rintro _ w19 ⟨x10, ob10, cap10, sp10, cs10, ln10, rfl, rfl, hL23, K22, hE16, rfl, hc15, -⟩
 refine ⟨_, rfl, ?_⟩
 replace h := g10
 try dsimp only at h
 refine zag (zae (v := (zI length)) rfl ?_)
 have hp14 := hL23.addNil
 have hL24 : vL w w19 [none, some b11, some b10, ob10] [zab ([] ++ ([] ++ [])), zab [l_v, (zI most), zN, (Value.map (some b10))], (mcont (fun x : List UInt8 => zS x) (fun x : Bool => zac x) ([] : (List ((List UInt8) × Bool)))), zab ([] ++ (cs10 ++ sp10))] := hp14.1
 have K23 := ks w hp14.2
 have hE17 : Els rStr (vH w None [none, some b11, some b10, ob10] w19) [] [] := zcq
 have hp15 := hL24.addNil
 have hL25 : vL w w19 [none, none, some b11, some b10, ob10] [zab ([] ++ ([] ++ [])), zab ([] ++ ([] ++ [])), zab [l_v, (zI most), (osv none 0 (List.length ([] : (List (List UInt8)))) 0), (Value.map (some b10))], (mcont (fun x : List UInt8 => zS x) (fun x : Bool => zac x) ([] : (List ((List UInt8) × Bool)))), zab ([] ++ (cs10 ++ sp10))] := hp15.1
 have K24 := ks w hp15.2
 have hE18 : Els (rInt .u8) (vH w None [none, none, some b11, some b10, ob10] w19) [] [] := zcq
 obtain ⟨r11, q21, h⟩ := zdt h
 have hL26 := hL25.lendW [2, 1, 3, 0] rfl rfl rfl
 have f18 := ((((f10.mono (K11 S)).mono (K22 S)).mono (K23 S)).mono (K24 S))
 have f19 := (hE17.mono (K24 None))
 have f20 := ((hE16.mono (K23 None)).mono (K24 None))
 refine zag (zdo en64 rfl rfl (pFind_w N (TFinder.mk l most ([] : (List (List UInt8))) ([] : (List ((List UInt8) × Bool)))) x10 ([] : (List Int)) length b11 l_v none 0 [] [] b10 (zO ob10 x10 cap10) none 0 [] [] [some b11, none, some b10, none] _ Any hL26 (f18.mono (zcn [2, 1, 3, 0] rfl)) (f19.mono (zcn [2, 1, 3, 0] rfl)) (show ([] ++ [] : List Value).length = 0 * rStr.sz by simp) (zei (pre := []) (o := 0) (n := x10.length) (cap := cap10) hL25 4 [2, 1, 3, 0] rfl rfl rfl rfl f20 (zcn [2, 1, 3, 0] rfl) rfl rfl rfl hc15) (hE18.mono (zcn [2, 1, 3, 0] rfl)) (show ([] ++ [] : List Value).length = 0 * (rInt .u8).sz by simp) r11 q21) ?_)
 rintro _ w20 ⟨ob14, cap14, cs14, sp14, cs15, sp15, rfl, hL27, K25, hE19, hc16, hE20, hc17, -⟩
 refine ⟨_, rfl, ?_⟩
 have hp16 := hL25.backW [2, 1, 3, 0] [4] rfl rfl rfl rfl hL27
 have hL28 : vL w w20 [some b11, ob14, some b10, none, ob10] [zab [l_v, (zI most), (zO ob14 r11.2.1 cap14), (Value.map (some b10))], zab ([] ++ (cs14 ++ sp14)), (mcont (fun x : List UInt8 => zS x) (fun x : Bool => zac x) r11.2.2), zab ([] ++ (cs15 ++ sp15)), zab ([] ++ (cs10 ++ sp10))] := hp16.1
 have hE21 : Els rStr (vH w None [some b11, ob14, some b10, none, ob10] w20) cs14 r11.2.1 := zcg (fun _ _ _ _ h => h) hE19
 refine zas (zan (zaf rfl (zag (zae (v := (zak (some ⟨b11, 0, none⟩))) rfl ?_))))
 refine zag (zdb (b := ⟨b11, 0, none⟩) rfl ?_)
 refine zag (zau (q := 2) zcr rfl ti27 rfl rfl rfl ?_)
 refine zag (zav (v := (zO ob14 r11.2.1 cap14)) zax rfl rfl (hL28.at 0 rfl rfl) rfl ?_)
 refine zag (zal (v := (zO ob14 r11.2.1 cap14)) rfl ?_)
 refine zas (zbq ?_)
 obtain rfl := zad h
 refine ⟨[(zO ob14 r11.2.1 cap14)], zrt, ⟨_, rfl, hL28.done, ?_⟩⟩
 exact ⟨ob14, cap14, cs14, sp14, rfl, (hL28.newOwn [1] rfl rfl rfl), (hE21.mono (zds [1] rfl)), hc16, trivial⟩
end Go.Proofs.Ytaakoedphmeenaa.WA

/- Walks, written by a program of mine (wip/tool); the kernel checks them. -/
import Derived.Test.YtakkacdhlocckaaProg
import Derived.Test.YtakkacdhlocckaaZ7
import Derived.Test.YtakkacdhlocckaaPR
import Derived.Test.YtakkacdhlocckaaWAOf
set_option maxRecDepth 100000
set_option maxHeartbeats 4000000
set_option linter.unusedVariables false
namespace Go.Proofs.Ytakkacdhlocckaa.WR
open Go Go.RowKit Go.X Go.D Go.Proofs.Ytakkacdhlocckaa.WA
theorem mixed : Try.prog.follows .mixedOrders = true := by kernel_rfl
theorem ti3 : TI Try.prog 3 1 8 (Value.int .i64 0) := TI.mk (by kernel_rfl)
theorem ti24 : TI Try.prog 24 1 24 (Value.slice none 0 0) := TI.mk (by kernel_rfl)
theorem ti89 : TI Try.prog 89 1 4 (Value.int .u32 0) := TI.mk (by kernel_rfl)
theorem en82 : Enters Try.prog 82 := ⟨Try.f82, Try.func82, by kernel_rfl, by kernel_rfl⟩
theorem ti26 : TI Try.prog 26 2 32 (Value.agg #[(Value.bool false), (Value.slice none 0 0)]) := TI.mk (by kernel_rfl)
theorem pl26 : placesT Try.prog 26 = some [(0, 1), (1, 1)] := by kernel_rfl
theorem ti4 : TI Try.prog 4 1 1 (Value.bool false) := TI.mk (by kernel_rfl)
theorem en65 : Enters Try.prog 65 := ⟨Try.f65, Try.func65, by kernel_rfl, by kernel_rfl⟩
theorem en68 : Enters Try.prog 68 := ⟨Try.f68, Try.func68, by kernel_rfl, by kernel_rfl⟩
theorem en62 : Enters Try.prog 62 := ⟨Try.f62, Try.func62, by kernel_rfl, by kernel_rfl⟩
theorem en37 : Enters Try.prog 37 := ⟨Try.f37, Try.func37, by kernel_rfl, by kernel_rfl⟩
theorem rtrim_w (N : Nat) (l : (List Int)) (l_v : Value) (w : World) (S : Nat → Prop) (l_h : Rs (rInt .i64) (Hv w.heap.size S [] w) l_v l) (r : (List Int)) (h : rtrim N l = some r) :
  Calls Try.prog 82 #[l_v] w (Ret w (fun v w' => ∃ (v0_0 : Value), v0_0 = v ∧ Rs (rInt .i64) (Hv w.heap.size S [] w') v0_0 r ∧ True)) := by
 unfold rtrim at h
 have hL : Go.X.Loc [] [] w w [] [] := Go.X.Loc.begin0 w
 refine calls_of (l := [l_v]) (rl := [.tmp 2]) (n := 21) Try.func82 rfl rfl rfl (Nat.le_of_ble_eq_true rfl) ?_
 refine Swp.seq ?_
 refine Swp.region rfl ?_
 refine Rl.op (OpY.assign (v := (Value.slice none 0 0)) rfl ?_)
 refine Rl.nil ?_
 refine Swp.seq ?_
 obtain ⟨s118, hl120, g119⟩ := bind_some h
 refine Swp.join (fun e w' => ∃ (l115 : (List Int)) (v116 : Value) (u : Env), l115 = s118 ∧ e = upds [(0, v116)] u ∧ Go.X.Loc [] [] w w' [] [] ∧ Keep w.heap.size [] w [] w' ∧ Rs (rInt .i64) (Hv w.heap.size S [] w') v116 l115 ∧ True) ?_ ?_
 ·
  refine Swp.block ?_
  refine Swp.loopM hl120 (fun (ss : (List Int)) (e : Env) (w' : World) => match ss with | l112 => ∃ (v113 : Value) (u : Env), e = upds [(0, v113)] u ∧ Go.X.Loc [] [] w w' [] [] ∧ Keep w.heap.size [] w [] w' ∧ Rs (rInt .i64) (Hv w.heap.size S [] w') v113 l112 ∧ True) ⟨l_v, _, (upds_sym ⟨rfl, trivial⟩), hL, Keep.refl, l_h, trivial⟩ ?_
  rintro l112 oo _ w122 ⟨v113, u, rfl, hL123, K124, k114, -⟩ h hd121
  rw [rtrim_b1] at h
  refine Swp.seq ?_
  refine Swp.seq ?_
  obtain ⟨s140, h, g141⟩ := bind_some h
  refine Swp.join (fun e w' => ∃ (x139 : Bool) (u : Env), x139 = s140 ∧ e = upds [(0, v113), (14, (Value.bool x139))] u ∧ Go.X.Loc [] [] w w' [] [] ∧ Keep w.heap.size [] w122 [] w' ∧ True) ?_ ?_
  ·
   refine Swp.region rfl ?_
   refine Rl.op (OpY.move (v := v113) rfl ?_)
   refine Rl.op (OpY.lenRo (v := v113) Try.underlying91 rfl k114 ?_)
   refine Rl.op (OpY.gtr (x := (List.length l112 : Int)) (y := 0) (((List.length l112 : Int) : Int) > 0) rfl rfl Iff.rfl ?_)
   refine Rl.op (OpY.move (v := (Value.bool (decide (((List.length l112 : Int) : Int) > 0)))) rfl ?_)
   by_cases hc142 : ((List.length l112 : Int) : Int) > 0
   ·
    replace h := ite_t hc142 h
    refine Rl.yes (dj := 6) (b' := (decide (((List.length l112 : Int) : Int) > 0))) rfl rfl (decide_eq_true hc142) (OpY.move (v := v113) rfl ?_)
    refine Rl.yes (dj := 6) (b' := (decide (((List.length l112 : Int) : Int) > 0))) rfl rfl (decide_eq_true hc142) (OpY.move (v := v113) rfl ?_)
    refine Rl.yes (dj := 6) (b' := (decide (((List.length l112 : Int) : Int) > 0))) rfl rfl (decide_eq_true hc142) (OpY.lenRo (v := v113) Try.underlying91 rfl k114 ?_)
    refine Rl.yes (dj := 6) (b' := (decide (((List.length l112 : Int) : Int) > 0))) rfl rfl (decide_eq_true hc142) (OpY.sub (x := (List.length l112 : Int)) (y := 1) (z := (iw ((List.length l112 : Int) - 1))) rfl rfl rfl ?_)
    obtain ⟨x143, q144, h⟩ := bind_some h
    obtain ⟨n145, q146, q147⟩ := idx_some q144
    obtain ⟨b148, o149, c150, vs151, q152, q153, f154, q155⟩ := Rs.get k114 q147
    obtain rfl := q155
    refine Rl.yes (dj := 6) (b' := (decide (((List.length l112 : Int) : Int) > 0))) rfl rfl (decide_eq_true hc142) (OpY.ixRoD (r := (rInt .i64)) (v := v113) (n := n145) (m := (o149 + n145 * (rInt .i64).sz)) Try.underlying91 ti3 rfl q152 rfl q146 q147 rfl ?_)
    refine Rl.yes (dj := 6) (b' := (decide (((List.length l112 : Int) : Int) > 0))) rfl rfl (decide_eq_true hc142) (OpY.ldRo1 (v := (Value.int .i64 x143)) Try.underlying3 rfl rfl vw_view f154 ?_)
    refine Rl.yes (dj := 6) (b' := (decide (((List.length l112 : Int) : Int) > 0))) rfl rfl (decide_eq_true hc142) (OpY.eql (x := x143) (y := 0) ((x143 : Int) = 0) rfl rfl Iff.rfl ?_)
    refine Rl.op (OpY.pick_t (t := (decide (((List.length l112 : Int) : Int) > 0))) (v := (Value.bool (decide ((x143 : Int) = 0)))) rfl (decide_eq_true hc142) rfl ?_)
    refine Rl.nil ?_
    obtain rfl := Option.some.inj h
    refine Swp.pop_back ?_
    exact ⟨(decide ((x143 : Int) = 0)), _, rfl, (upds_sym ⟨rfl, ⟨rfl, trivial⟩⟩), hL123, Keep.refl, trivial⟩
   ·
    replace h := ite_f hc142 h
    refine Rl.no (dj := 6) (b' := (decide (((List.length l112 : Int) : Int) > 0))) rfl rfl (decide_eq_false hc142) ?_
    refine Rl.no (dj := 6) (b' := (decide (((List.length l112 : Int) : Int) > 0))) rfl rfl (decide_eq_false hc142) ?_
    refine Rl.no (dj := 6) (b' := (decide (((List.length l112 : Int) : Int) > 0))) rfl rfl (decide_eq_false hc142) ?_
    refine Rl.no (dj := 6) (b' := (decide (((List.length l112 : Int) : Int) > 0))) rfl rfl (decide_eq_false hc142) ?_
    refine Rl.no (dj := 6) (b' := (decide (((List.length l112 : Int) : Int) > 0))) rfl rfl (decide_eq_false hc142) ?_
    refine Rl.no (dj := 6) (b' := (decide (((List.length l112 : Int) : Int) > 0))) rfl rfl (decide_eq_false hc142) ?_
    refine Rl.no (dj := 6) (b' := (decide (((List.length l112 : Int) : Int) > 0))) rfl rfl (decide_eq_false hc142) ?_
    refine Rl.op (OpY.pick_f (t := (decide (((List.length l112 : Int) : Int) > 0))) (v := (Value.bool false)) rfl (decide_eq_false hc142) rfl ?_)
    refine Rl.nil ?_
    obtain rfl := Option.some.inj h
    refine Swp.pop_back ?_
    exact ⟨false, _, rfl, (upds_sym ⟨rfl, ⟨rfl, trivial⟩⟩), hL123, Keep.refl, trivial⟩
  ·
   rintro _ w156 ⟨x139, u, rfl, rfl, hL157, K158, -⟩
   replace h := g141
   try dsimp only at h
   refine Swp.cond_b x139 rfl (fun hc159 => ?_) (fun hc159 => ?_)
   ·
    replace h := ite_t hc159 h
    refine Swp.skip ?_
    refine Swp.block ?_
    refine Swp.region rfl ?_
    refine Rl.op (OpY.move (v := v113) rfl ?_)
    refine Rl.op (OpY.move (v := v113) rfl ?_)
    have f160 := (k114.mono (K158 S))
    refine Rl.op (OpY.lenRo (v := v113) Try.underlying91 rfl f160 ?_)
    refine Rl.op (OpY.sub (x := (List.length l112 : Int)) (y := 1) (z := (iw ((List.length l112 : Int) - 1))) rfl rfl rfl ?_)
    obtain ⟨x161, q162, h⟩ := bind_some h
    obtain ⟨m163, n164, q165, q166, q167, q168, q169⟩ := cut_some q162
    refine Rl.op (OpY.cutRoX (l := m163) (h' := n164) Try.underlying91 ti3 rfl f160 (.inl ⟨rfl, by omega⟩) (.inr ⟨_, _, rfl, by rw [← q166]; rfl⟩) q167 q168 q169 ?_)
    intro v170 k171
    refine Rl.op (OpY.assign (v := v170) rfl ?_)
    refine Rl.nil ?_
    refine Swp.pop_blk ?_
    obtain rfl := Option.some.inj h
    refine Swp.pop_back ⟨x161, rfl, ?_⟩
    exact ⟨v170, _, (upds_sym ⟨rfl, trivial⟩), hL157, (Keep.trans K124 K158), k171, trivial⟩
   ·
    replace h := ite_f hc159 h
    refine Swp.exit rfl ?_
    have f175 := (k114.mono (K158 S))
    obtain rfl := Option.some.inj h
    obtain rfl := hd121 _ rfl
    replace h := g119
    try dsimp only at h
    skip
    refine Swp.pop_back ?_
    exact ⟨l112, v113, _, rfl, (upds_sym ⟨rfl, trivial⟩), hL157, (Keep.trans K124 K158), f175, trivial⟩
 ·
  rintro _ w176 ⟨l115, v116, u, rfl, rfl, hL177, K178, k117, -⟩
  replace h := g119
  try dsimp only at h
  refine Swp.seq ?_
  refine Swp.region rfl ?_
  refine Rl.op (OpY.move (v := v116) rfl ?_)
  refine Rl.op (OpY.assign (v := v116) rfl ?_)
  refine Rl.nil ?_
  refine Swp.ret ?_
  obtain rfl := Option.some.inj h
  refine ⟨[v116], ⟨rfl, trivial⟩, ⟨_, rfl, hL177.done, ?_⟩⟩
  exact ⟨v116, rfl, (k117.mono Hv.out), trivial⟩
theorem halves_w (N : Nat) (x : Big) (x_v : Value) (w : World) (S : Nat → Prop) (x_h : Rs (rInt .u32) (Hv w.heap.size S [] w) x_v x.Digits) (r : (List Int)) (h : halves N x = some r) :
  Calls Try.prog 65 #[(Value.agg #[(Value.bool x.Negative), x_v])] w (Ret w (fun v w' => ∃ (v0_0 : Value), v0_0 = v ∧ Rs (rInt .i64) (Hv w.heap.size None [] w') v0_0 r ∧ True)) := by
 unfold halves at h
 have hL : Go.X.Loc [] [] w w [] [] := Go.X.Loc.begin0 w
 refine calls_of (l := [(Value.agg #[(Value.bool x.Negative), x_v])]) (rl := [.tmp 2]) (n := 32) Try.func65 rfl rfl rfl (Nat.le_of_ble_eq_true rfl) ?_
 refine Swp.seq ?_
 refine Swp.region rfl ?_
 refine Rl.op (OpY.box (cs := [(Value.bool x.Negative), x_v]) rfl rfl hL ?_)
 intro b1 w2 (hL3 : Go.X.Loc [] [] w w2 [some b1] [Cont.cells [(Value.bool x.Negative), x_v]]) hS5
 have K4 := Keep.step (s := w.heap.size) hS5
 refine Rl.op (OpY.assign (v := (Value.slice none 0 0)) rfl ?_)
 refine Rl.nil ?_
 refine Swp.seq ?_
 refine Swp.region rfl ?_
 refine Rl.op (OpY.litRow0 Try.underlying91 ti3 hL3 ?_)
 intro b6 w10 (hL11 : Go.X.Loc [] [] w w10 [some b6, some b1] [Cont.cells ([] ++ ([] ++ [])), Cont.cells [(Value.bool x.Negative), x_v]]) hS13
 have hE14 : Els (rInt .i64) (Hv w.heap.size None [some b1] w2) [] [] := Els.nil
 have K12 := Keep.step (s := w.heap.size) hS13
 refine Rl.op (OpY.assign (v := (osv (some b6) 0 (List.length ([] : (List Int))) 0)) rfl ?_)
 refine Rl.nil ?_
 refine Swp.seq ?_
 refine Swp.seq ?_
 refine Swp.region rfl ?_
 refine Rl.op (OpY.assign (v := (Value.int .i64 0)) rfl ?_)
 refine Rl.nil ?_
 obtain ⟨s388, hl390, g389⟩ := bind_some h
 refine Swp.join (fun e w' => ∃ (l384 : (List Int)) (ob380 : Option Nat) (cap381 : Nat) (sp382 : List Value) (cs383 : List Value) (ln387 : Nat) (u : Env), l384 = s388 ∧ e = upds [(3, (osv ob380 0 ln387 cap381))] u ∧ Go.X.Loc [] [] w w' [ob380] [Cont.cells ([] ++ (cs383 ++ sp382))] ∧ Keep w.heap.size [some b6, some b1] w10 [ob380] w' ∧ Els (rInt .i64) (Hv w.heap.size None [ob380] w') cs383 l384 ∧ ln387 = List.length l384 ∧ (cs383 ++ sp382).length = cap381 * (rInt .i64).sz ∧ True) ?_ ?_
 ·
  refine Swp.block ?_
  have hp392 := hL11.pick [1, 0] rfl rfl rfl
  have hL394 : Go.X.Loc [] [] w w10 [some b1, some b6] [Cont.cells [(Value.bool x.Negative), x_v], Cont.cells ([] ++ ([] ++ []))] := hp392.1
  have K393 := Keep.step (s := w.heap.size) hp392.2
  have f395 := ((hE14.mono (K12 None)).mono (K393 None))
  refine Swp.loopM hl390 (fun (ss : ((List Int) × Int)) (e : Env) (w' : World) => match ss with | (l374, i378) => ∃ (ob370 : Option Nat) (cap371 : Nat) (sp372 : List Value) (cs373 : List Value) (ln377 : Nat) (u : Env), e = upds [(1, (Value.pointer (some ⟨b1, 0, none⟩))), (3, (osv ob370 0 ln377 cap371)), (4, (Value.int .i64 i378))] u ∧ Go.X.Loc [] [] w w' [some b1, ob370] [Cont.cells [(Value.bool x.Negative), x_v], Cont.cells ([] ++ (cs373 ++ sp372))] ∧ Keep w.heap.size [some b6, some b1] w10 [some b1, ob370] w' ∧ Els (rInt .i64) (Hv w.heap.size None [some b1, ob370] w') cs373 l374 ∧ ln377 = List.length l374 ∧ (cs373 ++ sp372).length = cap371 * (rInt .i64).sz ∧ True) ⟨some b6, 0, [], [], (List.length ([] : (List Int))), _, (upds_sym ⟨rfl, ⟨rfl, ⟨rfl, trivial⟩⟩⟩), hL394, K393, f395, rfl, (show ([] ++ [] : List Value).length = 0 * (rInt .i64).sz by simp), trivial⟩ ?_
  rintro ⟨l374, i378⟩ oo _ w396 ⟨ob370, cap371, sp372, cs373, ln377, u, rfl, hL397, K398, hE375, rfl, hc376, -⟩ h hd391
  rw [halves_b1] at h
  refine Swp.seq ?_
  refine Swp.seq ?_
  refine Swp.region rfl ?_
  refine Rl.op (OpY.move (v := (Value.int .i64 i378)) rfl ?_)
  refine Rl.op (OpY.fieldAddr (q := 1) Try.underlying26 rfl ti24 rfl rfl rfl ?_)
  refine Rl.op (OpY.ldBox1 (v := x_v) Try.underlying24 rfl rfl (hL397.at 0 rfl rfl) rfl ?_)
  have f399 := (((x_h.mono (K4 S)).mono (K12 S)).mono (K398 S))
  refine Rl.op (OpY.lenRo (v := x_v) Try.underlying24 rfl f399 ?_)
  refine Rl.op (OpY.lss (x := i378) (y := (List.length x.Digits : Int)) ((i378 : Int) < (List.length x.Digits : Int)) rfl rfl Iff.rfl ?_)
  refine Rl.nil ?_
  refine Swp.cond_d ((i378 : Int) < (List.length x.Digits : Int)) rfl (fun hc400 => ?_) (fun hc400 => ?_)
  ·
   replace h := ite_t hc400 h
   refine Swp.skip ?_
   refine Swp.seq ?_
   refine Swp.block ?_
   obtain ⟨x401, q402, h⟩ := bind_some h
   obtain ⟨n403, q404, q405⟩ := idx_some q402
   obtain ⟨b406, o407, c408, vs409, q410, q411, f412, q413⟩ := Rs.get f399 q405
   obtain rfl := q413
   obtain ⟨x414, q415, h⟩ := bind_some h
   obtain ⟨n416, q417, q418⟩ := idx_some q415
   obtain ⟨b419, o420, c421, vs422, q423, q424, f425, q426⟩ := Rs.get f399 q418
   obtain rfl := q426
   refine Swp.drawW 16 [] (fun W1 => [.det (osv ob370 0 (List.length l374) cap371), .det (Value.pointer (some ⟨b1, 1, none⟩)), .det x_v, .det (Value.int .i64 i378), .det (Value.pointer (some ⟨b406, (o407 + n403 * (rInt .u32).sz), none⟩)), .det (Value.int .u32 x401), .det (Value.int .u32 (Int.tmod x401 65536)), .det (Value.int .i64 (iw (Int.tmod x401 65536))), .det (Value.pointer (some ⟨b1, 1, none⟩)), .det x_v, .det (Value.int .i64 i378), .det (Value.pointer (some ⟨b419, (o420 + n416 * (rInt .u32).sz), none⟩)), .det (Value.int .u32 x414), .det (Value.int .u32 (uw32 (Int.tdiv x414 65536))), .det (Value.int .i64 (iw (uw32 (Int.tdiv x414 65536)))), .rel (fun v Z w' => ∃ b427 cs434, (osv (some b427) 0 2 2) = v ∧ OwnC w' (some b427) (Cont.cells ([] ++ (cs434 ++ []))) ∧ Els (rInt .i64) (Zv W1 w.heap.size None [some b1, ob370] Z w') cs434 [(iw (Int.tmod x401 65536)), (iw (uw32 (Int.tdiv x414 65536)))] ∧ (cs434 ++ []).length = 2 * (rInt .i64).sz ∧ True) footV]) mixed rfl rfl rfl ?_ ?_
   ·
    intro W1 _
    exact ⟨fun v Z Z' w w' hΦ hz _ _ hs => by obtain ⟨b427, cs434, rfl, hO431, hE432, hc433, -⟩ := hΦ; exact ⟨b427, cs434, rfl, (hO431.stay (fun b hb => by cases hb; exact List.mem_cons_self) hs), (hE432.mono (Zv.stay hz hs)), hc433, trivial⟩, trivial⟩
   ·
    intro w435 hE436
    have hL437 := hL397.ext hE436
    have K438 := Keep.ext (s := w.heap.size) (O := [some b1, ob370]) hE436
    refine DrH.det ?_ ?_
    ·
     rintro w439 Z440 hE441 hZ442 ⟨-⟩
     refine GOp.op (OpY.move (v := (osv ob370 0 (List.length l374) cap371)) rfl ?_)
     exact ⟨Ext.refl _, rfl⟩
    refine DrH.det ?_ ?_
    ·
     rintro w445 Z446 hE447 hZ448 ⟨-⟩
     refine GOp.op (OpY.fieldAddr (q := 1) Try.underlying26 rfl ti24 rfl rfl rfl ?_)
     exact ⟨Ext.refl _, rfl⟩
    refine DrH.det ?_ ?_
    ·
     rintro w451 Z452 hE453 hZ454 ⟨-⟩
     have hL455 := hL437.ext hE453
     refine GOp.op (OpY.ldBox1 (v := x_v) Try.underlying24 rfl rfl (hL455.at 0 rfl rfl) rfl ?_)
     exact ⟨Ext.refl _, rfl⟩
    refine DrH.det ?_ ?_
    ·
     rintro w457 Z458 hE459 hZ460 ⟨-⟩
     refine GOp.op (OpY.move (v := (Value.int .i64 i378)) rfl ?_)
     exact ⟨Ext.refl _, rfl⟩
    refine DrH.det ?_ ?_
    ·
     rintro w463 Z464 hE465 hZ466 ⟨-⟩
     refine GOp.op (OpY.ixRoD (r := (rInt .u32)) (v := x_v) (n := n403) (m := (o407 + n403 * (rInt .u32).sz)) Try.underlying24 ti89 rfl q410 rfl q404 q405 rfl ?_)
     exact ⟨Ext.refl _, rfl⟩
    refine DrH.det ?_ ?_
    ·
     rintro w469 Z470 hE471 hZ472 ⟨-⟩
     have K474 := Keep.ext (s := w.heap.size) (O := [some b1, ob370]) hE471
     refine GOp.op (OpY.ldRo1 (v := (Value.int .u32 x401)) Try.underlying89 rfl rfl vw_view (At.mono (K474 S) (At.mono (K438 S) f412)) ?_)
     exact ⟨Ext.refl _, rfl⟩
    refine DrH.det ?_ ?_
    ·
     rintro w475 Z476 hE477 hZ478 ⟨-⟩
     refine GOp.op (OpY.remI (x := x401) (y := 65536) rfl rfl (by decide) ?_)
     exact ⟨Ext.refl _, rfl⟩
    refine DrH.det ?_ ?_
    ·
     rintro w481 Z482 hE483 hZ484 ⟨-⟩
     refine GOp.op (OpY.convInt (x := (Int.tmod x401 65536)) (z := (iw (Int.tmod x401 65536))) Try.underlying89 Try.underlying3 rfl rfl ?_)
     exact ⟨Ext.refl _, rfl⟩
    refine DrH.det ?_ ?_
    ·
     rintro w487 Z488 hE489 hZ490 ⟨-⟩
     refine GOp.op (OpY.fieldAddr (q := 1) Try.underlying26 rfl ti24 rfl rfl rfl ?_)
     exact ⟨Ext.refl _, rfl⟩
    refine DrH.det ?_ ?_
    ·
     rintro w493 Z494 hE495 hZ496 ⟨-⟩
     have hL497 := hL437.ext hE495
     refine GOp.op (OpY.ldBox1 (v := x_v) Try.underlying24 rfl rfl (hL497.at 0 rfl rfl) rfl ?_)
     exact ⟨Ext.refl _, rfl⟩
    refine DrH.det ?_ ?_
    ·
     rintro w499 Z500 hE501 hZ502 ⟨-⟩
     refine GOp.op (OpY.move (v := (Value.int .i64 i378)) rfl ?_)
     exact ⟨Ext.refl _, rfl⟩
    refine DrH.det ?_ ?_
    ·
     rintro w505 Z506 hE507 hZ508 ⟨-⟩
     refine GOp.op (OpY.ixRoD (r := (rInt .u32)) (v := x_v) (n := n416) (m := (o420 + n416 * (rInt .u32).sz)) Try.underlying24 ti89 rfl q423 rfl q417 q418 rfl ?_)
     exact ⟨Ext.refl _, rfl⟩
    refine DrH.det ?_ ?_
    ·
     rintro w511 Z512 hE513 hZ514 ⟨-⟩
     have K516 := Keep.ext (s := w.heap.size) (O := [some b1, ob370]) hE513
     refine GOp.op (OpY.ldRo1 (v := (Value.int .u32 x414)) Try.underlying89 rfl rfl vw_view (At.mono (K516 S) (At.mono (K438 S) f425)) ?_)
     exact ⟨Ext.refl _, rfl⟩
    refine DrH.det ?_ ?_
    ·
     rintro w517 Z518 hE519 hZ520 ⟨-⟩
     refine GOp.op (OpY.quoI (x := x414) (y := 65536) (z := (uw32 (Int.tdiv x414 65536))) rfl rfl (by decide) rfl ?_)
     exact ⟨Ext.refl _, rfl⟩
    refine DrH.det ?_ ?_
    ·
     rintro w523 Z524 hE525 hZ526 ⟨-⟩
     refine GOp.op (OpY.convInt (x := (uw32 (Int.tdiv x414 65536))) (z := (iw (uw32 (Int.tdiv x414 65536)))) Try.underlying89 Try.underlying3 rfl rfl ?_)
     exact ⟨Ext.refl _, rfl⟩
    refine DrH.rel ?_ ?_
    ·
     rintro w529 Z530 hE531 hZ532 ⟨-⟩
     have hE428 : Els (rInt .i64) (Zv w435 w.heap.size None [some b1, ob370] Z530 w529) [(Value.int .i64 (iw (Int.tmod x401 65536))), (Value.int .i64 (iw (uw32 (Int.tdiv x414 65536))))] [(iw (Int.tmod x401 65536)), (iw (uw32 (Int.tdiv x414 65536)))] := (Els.cons (a := [(Value.int .i64 (iw (Int.tmod x401 65536)))]) rfl (Els.cons (a := [(Value.int .i64 (iw (uw32 (Int.tdiv x414 65536))))]) rfl Els.nil))
     refine GOp.op (OpY.litRow (r := (rInt .i64)) (vs := [(Value.int .i64 (iw (Int.tmod x401 65536))), (Value.int .i64 (iw (uw32 (Int.tdiv x414 65536))))]) (css := [[(Value.int .i64 (iw (Int.tmod x401 65536)))], [(Value.int .i64 (iw (uw32 (Int.tdiv x414 65536))))]]) (xs := [(iw (Int.tmod x401 65536)), (iw (uw32 (Int.tdiv x414 65536)))]) Try.underlying91 ti3 (Nat.le_of_ble_eq_true rfl) rfl rfl ⟨rfl, rfl, ⟨rfl, rfl, trivial⟩⟩ (Nat.le_of_ble_eq_true rfl) hE428 rfl (Go.X.Loc.begin0 w529) ?_)
     intro b427 w535 hc429 hL536 hS537
     have hN538 : NewOwn w529 w535 [some b427] [Cont.cells ([] ++ ([(Value.int .i64 (iw (Int.tmod x401 65536))), (Value.int .i64 (iw (uw32 (Int.tdiv x414 65536))))] ++ []))] := hL536.newOwn [0] rfl rfl rfl
     exact Made.ext hL536.done hZ532 hN538 (fun _ h => h) ⟨b427, [(Value.int .i64 (iw (Int.tmod x401 65536))), (Value.int .i64 (iw (uw32 (Int.tdiv x414 65536))))], rfl, hN538.2.2.1, (hE428.mono (Zv.grow hL536.done)), hc429, trivial⟩
    intro z15
    refine DrH.fin ?_
    rintro w539 Z540 hE541 hZ542 ⟨⟨⟨b427, cs434, rfl, hO431, hE432, hc433, -⟩, hB15⟩, -⟩ ap543
    have hB544 : ∀ b, some b ∈ ([some b427] : List (Option Nat)) → w435.heap.size ≤ b ∧ ¬ Z540 b := by
     intro b hb
     rcases List.mem_cons.1 hb with hb' | hb
     ·
      have := hB15 b (by rw [hb']; exact List.mem_cons_self); exact ⟨this.1, this.2.2⟩
     cases hb
    replace hE432 := hE432.mono (Zv.fin hL437 hZ542 hB544)
    have hN547 : NewOwn w435 w539 [some b427] [Cont.cells ([] ++ (cs434 ++ []))] := (NewOwn.cons NewOwn.nil hO431 (fun b hb => (hB544 b (by rw [← hb]; simp)).1) (fun b _ hb => by cases hb))
    have hp548 := hL437.adoptL hE541 hN547
    have hL545 : Go.X.Loc [] [] w w539 [some b427, some b1, ob370] [Cont.cells ([] ++ (cs434 ++ [])), Cont.cells [(Value.bool x.Negative), x_v], Cont.cells ([] ++ (cs373 ++ sp372))] := hp548.1
    have K546 := Keep.step (s := w.heap.size) hp548.2
    obtain ⟨x549, q550, h⟩ := bind_some h
    obtain ⟨q551, q552, q553⟩ := apnd_some q550
    have f561 := ((hE375.mono (K438 None)).mono (K546 None))
    refine Rl.op (OpY.apRowX (r := (rInt .i64)) (H := (Hv w.heap.size None [some b427, some b1, ob370] w539)) (cs := cs373) (sp := sp372) (xs := l374) (ys := [(iw (Int.tmod x401 65536)), (iw (uw32 (Int.tdiv x414 65536)))]) (Y := x549) (n := (List.length l374)) (cap := cap371) (i := 2) Try.underlying91 ti3 rfl rfl rfl rfl hL545 rfl rfl f561 rfl hc376 (Src.row (pre := []) (o := 0) (n := 2) (cap := 2) (hL545.at 0 rfl rfl) hE432 rfl rfl rfl) (Els.anyH (fun _ _ _ _ h => h) hE432) q551 q552 q553 ?_)
    intro ob554 cap555 sp557 cs556 w562 hE558 hc559 (hL563 : Go.X.Loc [] [] w w562 [some b427, some b1, ob554] [Cont.cells ([] ++ (cs434 ++ [])), Cont.cells [(Value.bool x.Negative), x_v], Cont.cells ([] ++ (cs556 ++ sp557))]) hS565
    have K564 := Keep.step (s := w.heap.size) hS565
    refine Rl.op (OpY.assign (v := (osv ob554 0 (List.length x549) cap555)) rfl ?_)
    refine Rl.nil ?_
    refine Swp.pop_blk ?_
    refine Swp.region rfl ?_
    refine Rl.op (OpY.move (v := (Value.int .i64 i378)) rfl ?_)
    refine Rl.op (OpY.add (x := i378) (y := 1) (z := (iw (i378 + 1))) rfl rfl rfl ?_)
    refine Rl.op (OpY.assign (v := (Value.int .i64 (iw (i378 + 1)))) rfl ?_)
    refine Rl.nil ?_
    have hp566 := hL563.pick [1, 2] rfl rfl rfl
    have hL568 : Go.X.Loc [] [] w w562 [some b1, ob554] [Cont.cells [(Value.bool x.Negative), x_v], Cont.cells ([] ++ (cs556 ++ sp557))] := hp566.1
    have K567 := Keep.step (s := w.heap.size) hp566.2
    have f569 := ((hE558.mono (K564 None)).mono (K567 None))
    obtain rfl := Option.some.inj h
    refine Swp.pop_back ⟨(x549, (iw (i378 + 1))), rfl, ?_⟩
    exact ⟨ob554, cap555, sp557, cs556, (List.length x549), _, (upds_sym ⟨rfl, ⟨rfl, ⟨rfl, trivial⟩⟩⟩), hL568, (Keep.trans (Keep.trans (Keep.trans (Keep.trans K398 K438) K546) K564) K567), f569, rfl, hc559, trivial⟩
  ·
   replace h := ite_f hc400 h
   refine Swp.exit rfl ?_
   have hp570 := hL397.pick [1] rfl rfl rfl
   have hL572 : Go.X.Loc [] [] w w396 [ob370] [Cont.cells ([] ++ (cs373 ++ sp372))] := hp570.1
   have K571 := Keep.step (s := w.heap.size) hp570.2
   have f573 := (hE375.mono (K571 None))
   obtain rfl := Option.some.inj h
   obtain rfl := hd391 _ rfl
   replace h := g389
   try dsimp only at h
   skip
   refine Swp.pop_back ?_
   exact ⟨l374, ob370, cap371, sp372, cs373, (List.length l374), _, rfl, (upds_sym ⟨rfl, trivial⟩), hL572, (Keep.trans K398 K571), f573, rfl, hc376, trivial⟩
 ·
  rintro _ w574 ⟨l384, ob380, cap381, sp382, cs383, ln387, u, rfl, rfl, hL575, K576, hE385, rfl, hc386, -⟩
  replace h := g389
  try dsimp only at h
  refine Swp.seq ?_
  refine Swp.region rfl ?_
  refine Rl.op (OpY.move (v := (osv ob380 0 (List.length l384) cap381)) rfl ?_)
  have f577 := hL575.freezeRow 0 rfl rfl hE385 rfl rfl rfl hc386
  have hp578 := hL575.pick [] rfl rfl rfl
  have hL580 : Go.X.Loc [] [] w w574 [] [] := hp578.1
  obtain ⟨r581, q582, h⟩ := bind_some h
  refine Rl.op (OpY.call en82 rfl rfl (rtrim_w N l384 (osv ob380 0 (List.length l384) cap381) _ _ (f577.mono Hv.enter) r581 q582) ?_)
  rintro _ w586 hE589 ⟨v583, rfl, k584, -⟩
  replace k584 := k584.mono (Hv.aliasO (S := None) hL580 [])
  have hL587 := hL580.ext hE589
  refine Rl.op (OpY.assign (v := v583) rfl ?_)
  refine Rl.nil ?_
  refine Swp.ret ?_
  obtain rfl := Option.some.inj h
  refine ⟨[v583], ⟨rfl, trivial⟩, ⟨_, rfl, hL587.done, ?_⟩⟩
  exact ⟨v583, rfl, (k584.mono Hv.out), trivial⟩
theorem rbig_w (N : Nat) (negative : Bool) (l : (List Int)) (l_v : Value) (w : World) (S : Nat → Prop) (l_h : Rs (rInt .i64) (Hv w.heap.size S [] w) l_v l) (r : Big) (h : rbig N negative l = some r) :
  Calls Try.prog 68 #[(Value.bool negative), l_v] w (Ret w (fun v w' => ∃ (v0_0 : Value), (Value.agg #[(Value.bool r.Negative), v0_0]) = v ∧ Rs (rInt .u32) (Hv w.heap.size None [] w') v0_0 r.Digits ∧ True)) := by
 unfold rbig at h
 have hL : Go.X.Loc [] [] w w [] [] := Go.X.Loc.begin0 w
 refine calls_of (l := [(Value.bool negative), l_v]) (rl := [.cell 4 26]) (n := 49) Try.func68 rfl rfl rfl (Nat.le_of_ble_eq_true rfl) ?_
 refine Swp.seq ?_
 refine Swp.region rfl ?_
 refine Rl.op (OpY.alloc (cs := [(Value.bool false), (Value.slice none 0 0)]) ti26 rfl hL ?_)
 intro b1 w2 (hL3 : Go.X.Loc [] [] w w2 [some b1] [Cont.cells [(Value.bool false), (Value.slice none 0 0)]]) hS5
 have K4 := Keep.step (s := w.heap.size) hS5
 refine Rl.nil ?_
 refine Swp.seq ?_
 refine Swp.region rfl ?_
 refine Rl.op (OpY.move (v := l_v) rfl ?_)
 obtain ⟨r6, q7, h⟩ := bind_some h
 have f11 := (l_h.mono (K4 S))
 refine Rl.op (OpY.call en82 rfl rfl (rtrim_w N l l_v _ _ (f11.mono Hv.enter) r6 q7) ?_)
 rintro _ w12 hE15 ⟨v8, rfl, k9, -⟩
 replace k9 := k9.mono (Hv.aliasO (S := S) hL3 [])
 have hL13 := hL3.ext hE15
 refine Rl.op (OpY.assign (v := v8) rfl ?_)
 refine Rl.nil ?_
 refine Swp.seq ?_
 obtain ⟨s39, h, g40⟩ := bind_some h
 refine Swp.join (fun e w' => ∃ (negative38 : Bool) (b37 : Nat) (u : Env), negative38 = s39 ∧ e = upds [(1, v8), (4, (Value.pointer (some ⟨b1, 0, none⟩))), (5, (Value.pointer (some ⟨b37, 0, none⟩)))] u ∧ Go.X.Loc [] [] w w' [some b1, some b37] [Cont.cells [(Value.bool false), (Value.slice none 0 0)], Cont.cells [(Value.bool negative38), (Value.slice none 0 0)]] ∧ Keep w.heap.size [some b1] w12 [some b1, some b37] w' ∧ True) ?_ ?_
 ·
  refine Swp.region rfl ?_
  refine Rl.op (OpY.move (v := (Value.bool negative)) rfl ?_)
  refine Rl.op (OpY.move (v := (Value.bool negative)) rfl ?_)
  by_cases hc41 : negative = true
  ·
   replace h := ite_t hc41 h
   refine Rl.yes (dj := 11) (b' := negative) rfl rfl hc41 (OpY.move (v := v8) rfl ?_)
   refine Rl.yes (dj := 11) (b' := negative) rfl rfl hc41 (OpY.lenRo (v := v8) Try.underlying91 rfl k9 ?_)
   refine Rl.yes (dj := 11) (b' := negative) rfl rfl hc41 (OpY.gtr (x := (List.length r6 : Int)) (y := 0) (((List.length r6 : Int) : Int) > 0) rfl rfl Iff.rfl ?_)
   refine Rl.op (OpY.pick_t (t := negative) (v := (Value.bool (decide (((List.length r6 : Int) : Int) > 0)))) rfl hc41 rfl ?_)
   refine Rl.op (OpY.build (zc := [(Value.bool false), (Value.slice none 0 0)]) (cs := [(Value.bool (decide (((List.length r6 : Int) : Int) > 0))), (Value.slice none 0 0)]) (is := [0]) (vs := [(Value.bool (decide (((List.length r6 : Int) : Int) > 0)))]) (css := [[(Value.bool (decide (((List.length r6 : Int) : Int) > 0)))]]) pl26 ti26 rfl rfl rfl ⟨rfl, trivial⟩ rfl ?_)
   refine Rl.op (OpY.alloc (cs := [(Value.bool false), (Value.slice none 0 0)]) ti26 rfl hL13 ?_)
   intro b42 w43 (hL44 : Go.X.Loc [] [] w w43 [some b42, some b1] [Cont.cells [(Value.bool false), (Value.slice none 0 0)], Cont.cells [(Value.bool false), (Value.slice none 0 0)]]) hS46
   have K45 := Keep.step (s := w.heap.size) hS46
   refine Rl.op0 (OpY.store (vs := [(Value.bool (decide (((List.length r6 : Int) : Int) > 0))), (Value.slice none 0 0)]) ti26 rfl rfl rfl rfl (ones_cons rfl (ones_cons rfl ones_nil)) hL44 0 rfl rfl (Nat.le_of_ble_eq_true rfl) ?_)
   intro w47 (hL48 : Go.X.Loc [] [] w w47 [some b42, some b1] [Cont.cells [(Value.bool (decide (((List.length r6 : Int) : Int) > 0))), (Value.slice none 0 0)], Cont.cells [(Value.bool false), (Value.slice none 0 0)]]) hS50
   have K49 := Keep.step (s := w.heap.size) hS50
   refine Rl.nil ?_
   have hp51 := hL48.pick [1, 0] rfl rfl rfl
   have hL53 : Go.X.Loc [] [] w w47 [some b1, some b42] [Cont.cells [(Value.bool false), (Value.slice none 0 0)], Cont.cells [(Value.bool (decide (((List.length r6 : Int) : Int) > 0))), (Value.slice none 0 0)]] := hp51.1
   have K52 := Keep.step (s := w.heap.size) hp51.2
   obtain rfl := Option.some.inj h
   refine Swp.pop_back ?_
   exact ⟨(decide (((List.length r6 : Int) : Int) > 0)), b42, _, rfl, (upds_sym ⟨rfl, ⟨rfl, ⟨rfl, trivial⟩⟩⟩), hL53, (Keep.trans (Keep.trans K45 K49) K52), trivial⟩
  ·
   replace h := ite_f hc41 h
   refine Rl.no (dj := 11) (b' := negative) rfl rfl (eq_false_of_ne_true hc41) ?_
   refine Rl.no (dj := 11) (b' := negative) rfl rfl (eq_false_of_ne_true hc41) ?_
   refine Rl.no (dj := 11) (b' := negative) rfl rfl (eq_false_of_ne_true hc41) ?_
   refine Rl.op (OpY.pick_f (t := negative) (v := (Value.bool false)) rfl (eq_false_of_ne_true hc41) rfl ?_)
   refine Rl.op (OpY.build (zc := [(Value.bool false), (Value.slice none 0 0)]) (cs := [(Value.bool false), (Value.slice none 0 0)]) (is := [0]) (vs := [(Value.bool false)]) (css := [[(Value.bool false)]]) pl26 ti26 rfl rfl rfl ⟨rfl, trivial⟩ rfl ?_)
   refine Rl.op (OpY.alloc (cs := [(Value.bool false), (Value.slice none 0 0)]) ti26 rfl hL13 ?_)
   intro b54 w55 (hL56 : Go.X.Loc [] [] w w55 [some b54, some b1] [Cont.cells [(Value.bool false), (Value.slice none 0 0)], Cont.cells [(Value.bool false), (Value.slice none 0 0)]]) hS58
   have K57 := Keep.step (s := w.heap.size) hS58
   refine Rl.op0 (OpY.store (vs := [(Value.bool false), (Value.slice none 0 0)]) ti26 rfl rfl rfl rfl (ones_cons rfl (ones_cons rfl ones_nil)) hL56 0 rfl rfl (Nat.le_of_ble_eq_true rfl) ?_)
   intro w59 (hL60 : Go.X.Loc [] [] w w59 [some b54, some b1] [Cont.cells [(Value.bool false), (Value.slice none 0 0)], Cont.cells [(Value.bool false), (Value.slice none 0 0)]]) hS62
   have K61 := Keep.step (s := w.heap.size) hS62
   refine Rl.nil ?_
   have hp63 := hL60.pick [1, 0] rfl rfl rfl
   have hL65 : Go.X.Loc [] [] w w59 [some b1, some b54] [Cont.cells [(Value.bool false), (Value.slice none 0 0)], Cont.cells [(Value.bool false), (Value.slice none 0 0)]] := hp63.1
   have K64 := Keep.step (s := w.heap.size) hp63.2
   obtain rfl := Option.some.inj h
   refine Swp.pop_back ?_
   exact ⟨false, b54, _, rfl, (upds_sym ⟨rfl, ⟨rfl, ⟨rfl, trivial⟩⟩⟩), hL65, (Keep.trans (Keep.trans K57 K61) K64), trivial⟩
 ·
  rintro _ w66 ⟨negative38, b37, u, rfl, rfl, hL67, K68, -⟩
  replace h := g40
  try dsimp only at h
  refine Swp.seq ?_
  refine Swp.seq ?_
  refine Swp.region rfl ?_
  refine Rl.op (OpY.assign (v := (Value.int .i64 0)) rfl ?_)
  refine Rl.nil ?_
  obtain ⟨s279, hl281, g280⟩ := bind_some h
  refine Swp.join (fun e w' => ∃ (digits275 : (List Int)) (ob271 : Option Nat) (cap272 : Nat) (sp273 : List Value) (cs274 : List Value) (ln278 : Nat) (u : Env), digits275 = s279 ∧ e = upds [(4, (Value.pointer (some ⟨b1, 0, none⟩))), (5, (Value.pointer (some ⟨b37, 0, none⟩)))] u ∧ Go.X.Loc [] [] w w' [some b1, some b37, ob271] [Cont.cells [(Value.bool false), (Value.slice none 0 0)], Cont.cells [(Value.bool negative38), (osv ob271 0 ln278 cap272)], Cont.cells ([] ++ (cs274 ++ sp273))] ∧ Keep w.heap.size [some b1, some b37] w66 [some b1, some b37, ob271] w' ∧ Els (rInt .u32) (Hv w.heap.size None [some b1, some b37, ob271] w') cs274 digits275 ∧ ln278 = List.length digits275 ∧ (cs274 ++ sp273).length = cap272 * (rInt .u32).sz ∧ True) ?_ ?_
  ·
   refine Swp.block ?_
   have hp283 := hL67.addNil
   have hL284 : Go.X.Loc [] [] w w66 [none, some b1, some b37] [Cont.cells ([] ++ ([] ++ [])), Cont.cells [(Value.bool false), (Value.slice none 0 0)], Cont.cells [(Value.bool negative38), (Value.slice none 0 0)]] := hp283.1
   have K285 := Keep.step (s := w.heap.size) hp283.2
   have hp287 := hL284.pick [1, 2, 0] rfl rfl rfl
   have hL289 : Go.X.Loc [] [] w w66 [some b1, some b37, none] [Cont.cells [(Value.bool false), (Value.slice none 0 0)], Cont.cells [(Value.bool negative38), (osv none 0 (List.length ([] : (List Int))) 0)], Cont.cells ([] ++ ([] ++ []))] := hp287.1
   have K288 := Keep.step (s := w.heap.size) hp287.2
   have f290 := ((Els.nil (r := (rInt .u32))).mono (K288 None))
   refine Swp.loopM hl281 (fun (ss : ((List Int) × Int)) (e : Env) (w' : World) => match ss with | (digits263, i267) => ∃ (ob259 : Option Nat) (cap260 : Nat) (sp261 : List Value) (cs262 : List Value) (ln266 : Nat) (u : Env), e = upds [(1, v8), (4, (Value.pointer (some ⟨b1, 0, none⟩))), (5, (Value.pointer (some ⟨b37, 0, none⟩))), (6, (Value.int .i64 i267))] u ∧ Go.X.Loc [] [] w w' [some b1, some b37, ob259] [Cont.cells [(Value.bool false), (Value.slice none 0 0)], Cont.cells [(Value.bool negative38), (osv ob259 0 ln266 cap260)], Cont.cells ([] ++ (cs262 ++ sp261))] ∧ Keep w.heap.size [some b1, some b37] w66 [some b1, some b37, ob259] w' ∧ Els (rInt .u32) (Hv w.heap.size None [some b1, some b37, ob259] w') cs262 digits263 ∧ ln266 = List.length digits263 ∧ (cs262 ++ sp261).length = cap260 * (rInt .u32).sz ∧ True) ⟨none, 0, [], [], (List.length ([] : (List Int))), _, (upds_sym ⟨rfl, ⟨rfl, ⟨rfl, ⟨rfl, trivial⟩⟩⟩⟩), hL289, (Keep.trans K285 K288), f290, rfl, (show ([] ++ [] : List Value).length = 0 * (rInt .u32).sz by simp), trivial⟩ ?_
   rintro ⟨digits263, i267⟩ oo _ w291 ⟨ob259, cap260, sp261, cs262, ln266, u, rfl, hL292, K293, hE264, rfl, hc265, -⟩ h hd282
   rw [rbig_b1] at h
   refine Swp.seq ?_
   refine Swp.seq ?_
   refine Swp.region rfl ?_
   refine Rl.op (OpY.move (v := (Value.int .i64 i267)) rfl ?_)
   refine Rl.op (OpY.move (v := v8) rfl ?_)
   have f294 := ((k9.mono (K68 S)).mono (K293 S))
   refine Rl.op (OpY.lenRo (v := v8) Try.underlying91 rfl f294 ?_)
   refine Rl.op (OpY.lss (x := i267) (y := (List.length r6 : Int)) ((i267 : Int) < (List.length r6 : Int)) rfl rfl Iff.rfl ?_)
   refine Rl.nil ?_
   refine Swp.cond_d ((i267 : Int) < (List.length r6 : Int)) rfl (fun hc295 => ?_) (fun hc295 => ?_)
   ·
    replace h := ite_t hc295 h
    refine Swp.skip ?_
    refine Swp.seq ?_
    refine Swp.block ?_
    refine Swp.seq ?_
    refine Swp.region rfl ?_
    refine Rl.op (OpY.move (v := v8) rfl ?_)
    refine Rl.op (OpY.move (v := (Value.int .i64 i267)) rfl ?_)
    obtain ⟨x296, q297, h⟩ := bind_some h
    obtain ⟨n298, q299, q300⟩ := idx_some q297
    obtain ⟨b301, o302, c303, vs304, q305, q306, f307, q308⟩ := Rs.get f294 q300
    obtain rfl := q308
    refine Rl.op (OpY.ixRoD (r := (rInt .i64)) (v := v8) (n := n298) (m := (o302 + n298 * (rInt .i64).sz)) Try.underlying91 ti3 rfl q305 rfl q299 q300 rfl ?_)
    refine Rl.op (OpY.ldRo1 (v := (Value.int .i64 x296)) Try.underlying3 rfl rfl vw_view f307 ?_)
    refine Rl.op (OpY.convInt (x := x296) (z := (uw32 x296)) Try.underlying3 Try.underlying89 rfl rfl ?_)
    refine Rl.op (OpY.assign (v := (Value.int .u32 (uw32 x296))) rfl ?_)
    refine Rl.nil ?_
    refine Swp.seq ?_
    refine Swp.seq ?_
    refine Swp.region rfl ?_
    refine Rl.op (OpY.move (v := (Value.int .i64 i267)) rfl ?_)
    refine Rl.op (OpY.add (x := i267) (y := 1) (z := (iw (i267 + 1))) rfl rfl rfl ?_)
    refine Rl.op (OpY.move (v := v8) rfl ?_)
    refine Rl.op (OpY.lenRo (v := v8) Try.underlying91 rfl f294 ?_)
    refine Rl.op (OpY.lss (x := (iw (i267 + 1))) (y := (List.length r6 : Int)) (((iw (i267 + 1)) : Int) < (List.length r6 : Int)) rfl rfl Iff.rfl ?_)
    refine Rl.nil ?_
    obtain ⟨s327, h, g328⟩ := bind_some h
    refine Swp.join (fun e w' => ∃ (d326 : Int) (u : Env), d326 = s327 ∧ e = upds [(1, v8), (4, (Value.pointer (some ⟨b1, 0, none⟩))), (5, (Value.pointer (some ⟨b37, 0, none⟩))), (6, (Value.int .i64 i267)), (7, (Value.int .u32 d326))] u ∧ Go.X.Loc [] [] w w' [some b1, some b37, ob259] [Cont.cells [(Value.bool false), (Value.slice none 0 0)], Cont.cells [(Value.bool negative38), (osv ob259 0 (List.length digits263) cap260)], Cont.cells ([] ++ (cs262 ++ sp261))] ∧ Keep w.heap.size [some b1, some b37, ob259] w291 [some b1, some b37, ob259] w' ∧ True) ?_ ?_
    ·
     refine Swp.cond_d (((iw (i267 + 1)) : Int) < (List.length r6 : Int)) rfl (fun hc329 => ?_) (fun hc329 => ?_)
     ·
      replace h := ite_t hc329 h
      refine Swp.region rfl ?_
      refine Rl.op (OpY.move (v := (Value.int .u32 (uw32 x296))) rfl ?_)
      refine Rl.op (OpY.move (v := v8) rfl ?_)
      refine Rl.op (OpY.move (v := (Value.int .i64 i267)) rfl ?_)
      refine Rl.op (OpY.add (x := i267) (y := 1) (z := (iw (i267 + 1))) rfl rfl rfl ?_)
      obtain ⟨x330, q331, h⟩ := bind_some h
      obtain ⟨n332, q333, q334⟩ := idx_some q331
      obtain ⟨b335, o336, c337, vs338, q339, q340, f341, q342⟩ := Rs.get f294 q334
      obtain rfl := q342
      refine Rl.op (OpY.ixRoD (r := (rInt .i64)) (v := v8) (n := n332) (m := (o336 + n332 * (rInt .i64).sz)) Try.underlying91 ti3 rfl q339 rfl q333 q334 rfl ?_)
      refine Rl.op (OpY.ldRo1 (v := (Value.int .i64 x330)) Try.underlying3 rfl rfl vw_view f341 ?_)
      refine Rl.op (OpY.convInt (x := x330) (z := (uw32 x330)) Try.underlying3 Try.underlying89 rfl rfl ?_)
      refine Rl.op (OpY.mul (x := 65536) (y := (uw32 x330)) (z := (uw32 (65536 * (uw32 x330)))) rfl rfl rfl ?_)
      refine Rl.op (OpY.add (x := (uw32 x296)) (y := (uw32 (65536 * (uw32 x330)))) (z := (uw32 ((uw32 x296) + (uw32 (65536 * (uw32 x330)))))) rfl rfl rfl ?_)
      refine Rl.op (OpY.assign (v := (Value.int .u32 (uw32 ((uw32 x296) + (uw32 (65536 * (uw32 x330))))))) rfl ?_)
      refine Rl.nil ?_
      obtain rfl := Option.some.inj h
      refine Swp.pop_back ?_
      exact ⟨(uw32 ((uw32 x296) + (uw32 (65536 * (uw32 x330))))), _, rfl, (upds_sym ⟨rfl, ⟨rfl, ⟨rfl, ⟨rfl, ⟨rfl, trivial⟩⟩⟩⟩⟩), hL292, Keep.refl, trivial⟩
     ·
      replace h := ite_f hc329 h
      refine Swp.skip ?_
      obtain rfl := Option.some.inj h
      refine Swp.pop_back ?_
      exact ⟨(uw32 x296), _, rfl, (upds_sym ⟨rfl, ⟨rfl, ⟨rfl, ⟨rfl, ⟨rfl, trivial⟩⟩⟩⟩⟩), hL292, Keep.refl, trivial⟩
    ·
     rintro _ w343 ⟨d326, u, rfl, rfl, hL344, K345, -⟩
     replace h := g328
     try dsimp only at h
     refine Swp.region rfl ?_
     refine Rl.op (OpY.fieldAddr (q := 1) Try.underlying26 rfl ti24 rfl rfl rfl ?_)
     refine Rl.op (OpY.ldBox1 (v := (osv ob259 0 (List.length digits263) cap260)) Try.underlying24 rfl rfl (hL344.at 1 rfl rfl) rfl ?_)
     refine Rl.op (OpY.move (v := (Value.int .u32 d326)) rfl ?_)
     have hE347 : Els (rInt .u32) (Hv w.heap.size None [some b1, some b37, ob259] w343) [(Value.int .u32 d326)] [d326] := (Els.cons (a := [(Value.int .u32 d326)]) rfl Els.nil)
     refine Rl.op (OpY.litRow (r := (rInt .u32)) (vs := [(Value.int .u32 d326)]) (css := [[(Value.int .u32 d326)]]) (xs := [d326]) Try.underlying24 ti89 (Nat.le_of_ble_eq_true rfl) rfl rfl ⟨rfl, rfl, trivial⟩ (Nat.le_of_ble_eq_true rfl) hE347 rfl hL344 ?_)
     intro b346 w350 hc348 (hL351 : Go.X.Loc [] [] w w350 [some b346, some b1, some b37, ob259] [Cont.cells ([] ++ ([(Value.int .u32 d326)] ++ [])), Cont.cells [(Value.bool false), (Value.slice none 0 0)], Cont.cells [(Value.bool negative38), (osv ob259 0 (List.length digits263) cap260)], Cont.cells ([] ++ (cs262 ++ sp261))]) hS353
     have K352 := Keep.step (s := w.heap.size) hS353
     obtain ⟨x354, q355, h⟩ := bind_some h
     obtain ⟨q356, q357, q358⟩ := apnd_some q355
     have f359 := (hE347.mono (K352 None))
     have f367 := ((hE264.mono (K345 None)).mono (K352 None))
     refine Rl.op (OpY.apRowX (r := (rInt .u32)) (H := (Hv w.heap.size None [some b346, some b1, some b37, ob259] w350)) (cs := cs262) (sp := sp261) (xs := digits263) (ys := [d326]) (Y := x354) (n := (List.length digits263)) (cap := cap260) (i := 3) Try.underlying24 ti89 rfl rfl rfl rfl hL351 rfl rfl f367 rfl hc265 (Src.row (pre := []) (o := 0) (n := 1) (cap := 1) (hL351.at 0 rfl rfl) f359 rfl rfl rfl) (Els.anyH (fun _ _ _ _ h => h) f359) q356 q357 q358 ?_)
     intro ob360 cap361 sp363 cs362 w368 hE364 hc365 (hL369 : Go.X.Loc [] [] w w368 [some b346, some b1, some b37, ob360] [Cont.cells ([] ++ ([(Value.int .u32 d326)] ++ [])), Cont.cells [(Value.bool false), (Value.slice none 0 0)], Cont.cells [(Value.bool negative38), (osv ob259 0 (List.length digits263) cap260)], Cont.cells ([] ++ (cs362 ++ sp363))]) hS371
     have K370 := Keep.step (s := w.heap.size) hS371
     refine Rl.op (OpY.fieldAddr (q := 1) Try.underlying26 rfl ti24 rfl rfl rfl ?_)
     refine Rl.op0 (OpY.store (vs := [(osv ob360 0 (List.length x354) cap361)]) ti24 rfl rfl (one_cells (osv_one _ _ _ _)) rfl (ones_cons (osv_one _ _ _ _) ones_nil) hL369 2 rfl rfl (Nat.le_of_ble_eq_true rfl) ?_)
     intro w372 (hL373 : Go.X.Loc [] [] w w372 [some b346, some b1, some b37, ob360] [Cont.cells ([] ++ ([(Value.int .u32 d326)] ++ [])), Cont.cells [(Value.bool false), (Value.slice none 0 0)], Cont.cells [(Value.bool negative38), (osv ob360 0 (List.length x354) cap361)], Cont.cells ([] ++ (cs362 ++ sp363))]) hS375
     have K374 := Keep.step (s := w.heap.size) hS375
     refine Rl.nil ?_
     refine Swp.pop_blk ?_
     refine Swp.region rfl ?_
     refine Rl.op (OpY.move (v := (Value.int .i64 i267)) rfl ?_)
     refine Rl.op (OpY.add (x := i267) (y := 2) (z := (iw (i267 + 2))) rfl rfl rfl ?_)
     refine Rl.op (OpY.assign (v := (Value.int .i64 (iw (i267 + 2)))) rfl ?_)
     refine Rl.nil ?_
     have hp376 := hL373.pick [1, 2, 3] rfl rfl rfl
     have hL378 : Go.X.Loc [] [] w w372 [some b1, some b37, ob360] [Cont.cells [(Value.bool false), (Value.slice none 0 0)], Cont.cells [(Value.bool negative38), (osv ob360 0 (List.length x354) cap361)], Cont.cells ([] ++ (cs362 ++ sp363))] := hp376.1
     have K377 := Keep.step (s := w.heap.size) hp376.2
     have f379 := (((hE364.mono (K370 None)).mono (K374 None)).mono (K377 None))
     obtain rfl := Option.some.inj h
     refine Swp.pop_back ⟨(x354, (iw (i267 + 2))), rfl, ?_⟩
     exact ⟨ob360, cap361, sp363, cs362, (List.length x354), _, (upds_sym ⟨rfl, ⟨rfl, ⟨rfl, ⟨rfl, trivial⟩⟩⟩⟩), hL378, (Keep.trans (Keep.trans (Keep.trans (Keep.trans (Keep.trans K293 K345) K352) K370) K374) K377), f379, rfl, hc365, trivial⟩
   ·
    replace h := ite_f hc295 h
    refine Swp.exit rfl ?_
    obtain rfl := Option.some.inj h
    obtain rfl := hd282 _ rfl
    replace h := g280
    try dsimp only at h
    skip
    refine Swp.pop_back ?_
    exact ⟨digits263, ob259, cap260, sp261, cs262, (List.length digits263), _, rfl, (upds_sym ⟨rfl, ⟨rfl, trivial⟩⟩), hL292, K293, hE264, rfl, hc265, trivial⟩
  ·
   rintro _ w380 ⟨digits275, ob271, cap272, sp273, cs274, ln278, u, rfl, rfl, hL381, K382, hE276, rfl, hc277, -⟩
   replace h := g280
   try dsimp only at h
   refine Swp.seq ?_
   refine Swp.region rfl ?_
   refine Rl.op (OpY.ldBoxA (vs := [(Value.bool negative38), (osv ob271 0 (List.length digits275) cap272)]) Try.underlying26 rfl ti26 rfl (hL381.at 1 rfl rfl) rfl rfl ?_)
   refine Rl.op0 (OpY.store (vs := [(Value.bool negative38), (osv ob271 0 (List.length digits275) cap272)]) ti26 rfl rfl rfl rfl (ones_cons rfl (ones_cons (osv_one _ _ _ _) ones_nil)) hL381 0 rfl rfl (Nat.le_of_ble_eq_true rfl) ?_)
   intro w383 (hL384 : Go.X.Loc [] [] w w383 [some b1, some b37, ob271] [Cont.cells [(Value.bool negative38), (osv ob271 0 (List.length digits275) cap272)], Cont.cells [(Value.bool negative38), (osv ob271 0 (List.length digits275) cap272)], Cont.cells ([] ++ (cs274 ++ sp273))]) hS386
   have K385 := Keep.step (s := w.heap.size) hS386
   refine Rl.nil ?_
   have f388 := (hE276.mono (K385 None))
   have f387 := hL384.freezeRow 2 rfl rfl f388 rfl rfl rfl hc277
   have hp389 := hL384.pick [0, 1] rfl rfl rfl
   have hL391 : Go.X.Loc [] [] w w383 [some b1, some b37] [Cont.cells [(Value.bool negative38), (osv ob271 0 (List.length digits275) cap272)], Cont.cells [(Value.bool negative38), (osv ob271 0 (List.length digits275) cap272)]] := hp389.1
   refine Swp.ret ?_
   obtain rfl := Option.some.inj h
   refine ⟨[(Value.agg #[(Value.bool negative38), (osv ob271 0 (List.length digits275) cap272)])], ⟨⟨⟨b1, 0, none⟩, rfl, res_boxA Try.underlying26 rfl ti26 (hL391.at 0 rfl rfl) rfl⟩, trivial⟩, ⟨_, rfl, hL391.done, ?_⟩⟩
   exact ⟨(osv ob271 0 (List.length digits275) cap272), rfl, (f387.mono Hv.out), trivial⟩
theorem rNormal_w (N : Nat) (x : Big) (x_v : Value) (w : World) (S : Nat → Prop) (x_h : Rs (rInt .u32) (Hv w.heap.size S [] w) x_v x.Digits) (r : Big) (h : rNormal N x = some r) :
  Calls Try.prog 81 #[(Value.agg #[(Value.bool x.Negative), x_v])] w (Ret w (fun v w' => ∃ (v0_0 : Value), (Value.agg #[(Value.bool r.Negative), v0_0]) = v ∧ Rs (rInt .u32) (Hv w.heap.size None [] w') v0_0 r.Digits ∧ True)) := by
 unfold rNormal at h
 have hL : Go.X.Loc [] [] w w [] [] := Go.X.Loc.begin0 w
 refine calls_of (l := [(Value.agg #[(Value.bool x.Negative), x_v])]) (rl := [.cell 2 26]) (n := 8) Try.func81 rfl rfl rfl (Nat.le_of_ble_eq_true rfl) ?_
 refine Swp.seq ?_
 refine Swp.region rfl ?_
 refine Rl.op (OpY.box (cs := [(Value.bool x.Negative), x_v]) rfl rfl hL ?_)
 intro b1 w2 (hL3 : Go.X.Loc [] [] w w2 [some b1] [Cont.cells [(Value.bool x.Negative), x_v]]) hS5
 have K4 := Keep.step (s := w.heap.size) hS5
 refine Rl.op (OpY.alloc (cs := [(Value.bool false), (Value.slice none 0 0)]) ti26 rfl hL3 ?_)
 intro b6 w7 (hL8 : Go.X.Loc [] [] w w7 [some b6, some b1] [Cont.cells [(Value.bool false), (Value.slice none 0 0)], Cont.cells [(Value.bool x.Negative), x_v]]) hS10
 have K9 := Keep.step (s := w.heap.size) hS10
 refine Rl.nil ?_
 refine Swp.seq ?_
 obtain ⟨r11, q12, h⟩ := bind_some h
 refine Swp.drawW 4 [] (fun W1 => [.det (Value.pointer (some ⟨b1, 0, none⟩)), .det (Value.bool x.Negative), .det (Value.agg #[(Value.bool x.Negative), x_v]), .rel (fun v Z w' => ∃ v13, v13 = v ∧ Rs (rInt .i64) (Zv W1 w.heap.size None [some b6, some b1] Z w') v13 r11 ∧ True) (fun _ => [])]) mixed rfl rfl rfl ?_ ?_
 ·
  intro W1 _
  exact ⟨fun v Z Z' w w' hΦ hz _ _ hs => by obtain ⟨v13, rfl, k14, -⟩ := hΦ; exact ⟨v13, rfl, (k14.mono (Zv.stay hz hs)), trivial⟩, trivial⟩
 ·
  intro w16 hE17
  have hL18 := hL8.ext hE17
  have K19 := Keep.ext (s := w.heap.size) (O := [some b6, some b1]) hE17
  refine DrH.det ?_ ?_
  ·
   rintro w20 Z21 hE22 hZ23 ⟨-⟩
   refine GOp.op (OpY.fieldAddr (q := 0) Try.underlying26 rfl ti4 rfl rfl rfl ?_)
   exact ⟨Ext.refl _, rfl⟩
  refine DrH.det ?_ ?_
  ·
   rintro w26 Z27 hE28 hZ29 ⟨-⟩
   have hL30 := hL18.ext hE28
   refine GOp.op (OpY.ldBox1 (v := (Value.bool x.Negative)) Try.underlying4 rfl rfl (hL30.at 1 rfl rfl) rfl ?_)
   exact ⟨Ext.refl _, rfl⟩
  refine DrH.det ?_ ?_
  ·
   rintro w32 Z33 hE34 hZ35 ⟨-⟩
   have hL36 := hL18.ext hE34
   refine GOp.op (OpY.ldBoxA (vs := [(Value.bool x.Negative), x_v]) Try.underlying26 rfl ti26 rfl (hL36.at 1 rfl rfl) rfl rfl ?_)
   exact ⟨Ext.refl _, rfl⟩
  refine DrH.rel ?_ ?_
  ·
   rintro w38 Z39 hE40 hZ41 ⟨-⟩
   have K43 := Keep.ext (s := w.heap.size) (O := [some b6, some b1]) hE40
   refine GOp.op (OpY.call en65 rfl rfl (halves_w N x x_v _ Any (((((x_h.mono (K4 S)).mono (K9 S)).mono (K19 S)).mono (K43 S)).mono vw_any) r11 q12) ?_)
   rintro _ w44 hE45 ⟨v13, rfl, k14, -⟩
   exact Made.ext hE45 hZ41 NewOwn.nil (fun _ h => h) ⟨v13, rfl, (k14.mono Zv.made), trivial⟩
  intro z3
  refine DrH.fin ?_
  rintro w46 Z47 hE48 hZ49 ⟨⟨⟨v13, rfl, k14, -⟩, hB3⟩, -⟩ ap50
  have hB51 : ∀ b, some b ∈ ([] : List (Option Nat)) → w16.heap.size ≤ b ∧ ¬ Z47 b := by
   intro b hb; cases hb
  replace k14 := k14.mono (Zv.fin hL18 hZ49 hB51)
  have hL52 := hL18.ext hE48
  obtain ⟨r54, q55, h⟩ := bind_some h
  refine Rl.op (OpY.call en68 rfl rfl (rbig_w N x.Negative r11 v13 _ Any (k14.mono vw_any) r54 q55) ?_)
  rintro _ w59 hE62 ⟨v56, rfl, k57, -⟩
  replace k57 := k57.mono (Hv.freshO (S := None) hL52 [])
  have hL60 := hL52.ext hE62
  refine Rl.op0 (OpY.store (vs := [(Value.bool r54.Negative), v56]) ti26 rfl rfl rfl rfl (ones_cons rfl (ones_cons k57.one ones_nil)) hL60 0 rfl rfl (Nat.le_of_ble_eq_true rfl) ?_)
  intro w63 (hL64 : Go.X.Loc [] [] w w63 [some b6, some b1] [Cont.cells [(Value.bool r54.Negative), v56], Cont.cells [(Value.bool x.Negative), x_v]]) hS66
  have K65 := Keep.step (s := w.heap.size) hS66
  refine Rl.nil ?_
  refine Swp.ret ?_
  obtain rfl := Option.some.inj h
  refine ⟨[(Value.agg #[(Value.bool r54.Negative), v56])], ⟨⟨⟨b6, 0, none⟩, rfl, res_boxA Try.underlying26 rfl ti26 (hL64.at 0 rfl rfl) rfl⟩, trivial⟩, ⟨_, rfl, hL64.done, ?_⟩⟩
  have f67 := (k57.mono (K65 None))
  exact ⟨v56, rfl, (f67.mono Hv.out), trivial⟩
theorem rNeg_w (N : Nat) (x : Big) (x_v : Value) (w : World) (S : Nat → Prop) (x_h : Rs (rInt .u32) (Hv w.heap.size S [] w) x_v x.Digits) (r : Big) (h : rNeg N x = some r) :
  Calls Try.prog 62 #[(Value.agg #[(Value.bool x.Negative), x_v])] w (Ret w (fun v w' => ∃ (v0_0 : Value), (Value.agg #[(Value.bool r.Negative), v0_0]) = v ∧ Rs (rInt .u32) (Hv w.heap.size None [] w') v0_0 r.Digits ∧ True)) := by
 unfold rNeg at h
 have hL : Go.X.Loc [] [] w w [] [] := Go.X.Loc.begin0 w
 refine calls_of (l := [(Value.agg #[(Value.bool x.Negative), x_v])]) (rl := [.cell 2 26]) (n := 9) Try.func62 rfl rfl rfl (Nat.le_of_ble_eq_true rfl) ?_
 refine Swp.seq ?_
 refine Swp.region rfl ?_
 refine Rl.op (OpY.box (cs := [(Value.bool x.Negative), x_v]) rfl rfl hL ?_)
 intro b1 w2 (hL3 : Go.X.Loc [] [] w w2 [some b1] [Cont.cells [(Value.bool x.Negative), x_v]]) hS5
 have K4 := Keep.step (s := w.heap.size) hS5
 refine Rl.op (OpY.alloc (cs := [(Value.bool false), (Value.slice none 0 0)]) ti26 rfl hL3 ?_)
 intro b6 w7 (hL8 : Go.X.Loc [] [] w w7 [some b6, some b1] [Cont.cells [(Value.bool false), (Value.slice none 0 0)], Cont.cells [(Value.bool x.Negative), x_v]]) hS10
 have K9 := Keep.step (s := w.heap.size) hS10
 refine Rl.nil ?_
 refine Swp.seq ?_
 obtain ⟨r11, q12, h⟩ := bind_some h
 refine Swp.drawW 5 [] (fun W1 => [.det (Value.pointer (some ⟨b1, 0, none⟩)), .det (Value.bool x.Negative), .det (Value.bool (!x.Negative)), .det (Value.agg #[(Value.bool x.Negative), x_v]), .rel (fun v Z w' => ∃ v13, v13 = v ∧ Rs (rInt .i64) (Zv W1 w.heap.size None [some b6, some b1] Z w') v13 r11 ∧ True) (fun _ => [])]) mixed rfl rfl rfl ?_ ?_
 ·
  intro W1 _
  exact ⟨fun v Z Z' w w' hΦ hz _ _ hs => by obtain ⟨v13, rfl, k14, -⟩ := hΦ; exact ⟨v13, rfl, (k14.mono (Zv.stay hz hs)), trivial⟩, trivial⟩
 ·
  intro w16 hE17
  have hL18 := hL8.ext hE17
  have K19 := Keep.ext (s := w.heap.size) (O := [some b6, some b1]) hE17
  refine DrH.det ?_ ?_
  ·
   rintro w20 Z21 hE22 hZ23 ⟨-⟩
   refine GOp.op (OpY.fieldAddr (q := 0) Try.underlying26 rfl ti4 rfl rfl rfl ?_)
   exact ⟨Ext.refl _, rfl⟩
  refine DrH.det ?_ ?_
  ·
   rintro w26 Z27 hE28 hZ29 ⟨-⟩
   have hL30 := hL18.ext hE28
   refine GOp.op (OpY.ldBox1 (v := (Value.bool x.Negative)) Try.underlying4 rfl rfl (hL30.at 1 rfl rfl) rfl ?_)
   exact ⟨Ext.refl _, rfl⟩
  refine DrH.det ?_ ?_
  ·
   rintro w32 Z33 hE34 hZ35 ⟨-⟩
   refine GOp.op (OpY.not (x := x.Negative) rfl ?_)
   exact ⟨Ext.refl _, rfl⟩
  refine DrH.det ?_ ?_
  ·
   rintro w38 Z39 hE40 hZ41 ⟨-⟩
   have hL42 := hL18.ext hE40
   refine GOp.op (OpY.ldBoxA (vs := [(Value.bool x.Negative), x_v]) Try.underlying26 rfl ti26 rfl (hL42.at 1 rfl rfl) rfl rfl ?_)
   exact ⟨Ext.refl _, rfl⟩
  refine DrH.rel ?_ ?_
  ·
   rintro w44 Z45 hE46 hZ47 ⟨-⟩
   have K49 := Keep.ext (s := w.heap.size) (O := [some b6, some b1]) hE46
   refine GOp.op (OpY.call en65 rfl rfl (halves_w N x x_v _ Any (((((x_h.mono (K4 S)).mono (K9 S)).mono (K19 S)).mono (K49 S)).mono vw_any) r11 q12) ?_)
   rintro _ w50 hE51 ⟨v13, rfl, k14, -⟩
   exact Made.ext hE51 hZ47 NewOwn.nil (fun _ h => h) ⟨v13, rfl, (k14.mono Zv.made), trivial⟩
  intro z4
  refine DrH.fin ?_
  rintro w52 Z53 hE54 hZ55 ⟨⟨⟨v13, rfl, k14, -⟩, hB4⟩, -⟩ ap56
  have hB57 : ∀ b, some b ∈ ([] : List (Option Nat)) → w16.heap.size ≤ b ∧ ¬ Z53 b := by
   intro b hb; cases hb
  replace k14 := k14.mono (Zv.fin hL18 hZ55 hB57)
  have hL58 := hL18.ext hE54
  obtain ⟨r60, q61, h⟩ := bind_some h
  refine Rl.op (OpY.call en68 rfl rfl (rbig_w N (!x.Negative) r11 v13 _ Any (k14.mono vw_any) r60 q61) ?_)
  rintro _ w65 hE68 ⟨v62, rfl, k63, -⟩
  replace k63 := k63.mono (Hv.freshO (S := None) hL58 [])
  have hL66 := hL58.ext hE68
  refine Rl.op0 (OpY.store (vs := [(Value.bool r60.Negative), v62]) ti26 rfl rfl rfl rfl (ones_cons rfl (ones_cons k63.one ones_nil)) hL66 0 rfl rfl (Nat.le_of_ble_eq_true rfl) ?_)
  intro w69 (hL70 : Go.X.Loc [] [] w w69 [some b6, some b1] [Cont.cells [(Value.bool r60.Negative), v62], Cont.cells [(Value.bool x.Negative), x_v]]) hS72
  have K71 := Keep.step (s := w.heap.size) hS72
  refine Rl.nil ?_
  refine Swp.ret ?_
  obtain rfl := Option.some.inj h
  refine ⟨[(Value.agg #[(Value.bool r60.Negative), v62])], ⟨⟨⟨b6, 0, none⟩, rfl, res_boxA Try.underlying26 rfl ti26 (hL70.at 0 rfl rfl) rfl⟩, trivial⟩, ⟨_, rfl, hL70.done, ?_⟩⟩
  have f73 := (k63.mono (K71 None))
  exact ⟨v62, rfl, (f73.mono Hv.out), trivial⟩
theorem rOf_w (N : Nat) (n : Int)  (w : World) (S : Nat → Prop)  (r : Big) (h : rOf N n = some r) :
  Calls Try.prog 37 #[(Value.int .i64 n)] w (Ret w (fun v w' => ∃ (v0_0 : Value), (Value.agg #[(Value.bool r.Negative), v0_0]) = v ∧ Rs (rInt .u32) (Hv w.heap.size None [] w') v0_0 r.Digits ∧ True)) := by
 unfold rOf at h
 have hL : Go.X.Loc [] [] w w [] [] := Go.X.Loc.begin0 w
 refine calls_of (l := [(Value.int .i64 n)]) (rl := [.cell 2 26]) (n := 29) Try.func37 rfl rfl rfl (Nat.le_of_ble_eq_true rfl) ?_
 refine Swp.seq ?_
 refine Swp.region rfl ?_
 refine Rl.op (OpY.alloc (cs := [(Value.bool false), (Value.slice none 0 0)]) ti26 rfl hL ?_)
 intro b1 w2 (hL3 : Go.X.Loc [] [] w w2 [some b1] [Cont.cells [(Value.bool false), (Value.slice none 0 0)]]) hS5
 refine Rl.nil ?_
 refine Swp.seq ?_
 refine Swp.region rfl ?_
 refine Rl.op (OpY.move (v := (Value.int .i64 n)) rfl ?_)
 refine Rl.op (OpY.convInt (x := n) (z := (uw n)) Try.underlying2 Try.underlying93 rfl rfl ?_)
 refine Rl.op (OpY.assign (v := (Value.int .u64 (uw n))) rfl ?_)
 refine Rl.nil ?_
 refine Swp.seq ?_
 refine Swp.seq ?_
 refine Swp.region rfl ?_
 refine Rl.op (OpY.move (v := (Value.int .i64 n)) rfl ?_)
 refine Rl.op (OpY.lss (x := n) (y := 0) ((n : Int) < 0) rfl rfl Iff.rfl ?_)
 refine Rl.nil ?_
 obtain ⟨s9, h, g10⟩ := bind_some h
 refine Swp.join (fun e w' => ∃ (u8 : Int) (u : Env), u8 = s9 ∧ e = upds [(0, (Value.int .i64 n)), (2, (Value.pointer (some ⟨b1, 0, none⟩))), (3, (Value.int .u64 u8))] u ∧ Go.X.Loc [] [] w w' [some b1] [Cont.cells [(Value.bool false), (Value.slice none 0 0)]] ∧ Keep w.heap.size [some b1] w2 [some b1] w' ∧ True) ?_ ?_
 ·
  refine Swp.cond_d ((n : Int) < 0) rfl (fun hc11 => ?_) (fun hc11 => ?_)
  ·
   replace h := ite_t hc11 h
   refine Swp.region rfl ?_
   refine Rl.op (OpY.move (v := (Value.int .i64 n)) rfl ?_)
   refine Rl.op (OpY.add (x := n) (y := 1) (z := (iw (n + 1))) rfl rfl rfl ?_)
   refine Rl.op (OpY.neg (x := (iw (n + 1))) (z := (iw (0 - (iw (n + 1))))) rfl rfl ?_)
   refine Rl.op (OpY.convInt (x := (iw (0 - (iw (n + 1))))) (z := (uw (iw (0 - (iw (n + 1)))))) Try.underlying2 Try.underlying93 rfl rfl ?_)
   refine Rl.op (OpY.add (x := (uw (iw (0 - (iw (n + 1)))))) (y := 1) (z := (uw ((uw (iw (0 - (iw (n + 1))))) + 1))) rfl rfl rfl ?_)
   refine Rl.op (OpY.assign (v := (Value.int .u64 (uw ((uw (iw (0 - (iw (n + 1))))) + 1)))) rfl ?_)
   refine Rl.nil ?_
   obtain rfl := Option.some.inj h
   refine Swp.pop_back ?_
   exact ⟨(uw ((uw (iw (0 - (iw (n + 1))))) + 1)), _, rfl, (upds_sym ⟨rfl, ⟨rfl, ⟨rfl, trivial⟩⟩⟩), hL3, Keep.refl, trivial⟩
  ·
   replace h := ite_f hc11 h
   refine Swp.skip ?_
   obtain rfl := Option.some.inj h
   refine Swp.pop_back ?_
   exact ⟨(uw n), _, rfl, (upds_sym ⟨rfl, ⟨rfl, ⟨rfl, trivial⟩⟩⟩), hL3, Keep.refl, trivial⟩
 ·
  rintro _ w12 ⟨u8, u, rfl, rfl, hL13, K14, -⟩
  replace h := g10
  try dsimp only at h
  refine Swp.seq ?_
  refine Swp.region rfl ?_
  refine Rl.op (OpY.litRow0 Try.underlying91 ti3 hL13 ?_)
  intro b15 w19 (hL20 : Go.X.Loc [] [] w w19 [some b15, some b1] [Cont.cells ([] ++ ([] ++ [])), Cont.cells [(Value.bool false), (Value.slice none 0 0)]]) hS22
  have hE23 : Els (rInt .i64) (Hv w.heap.size None [some b1] w12) [] [] := Els.nil
  have K21 := Keep.step (s := w.heap.size) hS22
  refine Rl.op (OpY.assign (v := (osv (some b15) 0 (List.length ([] : (List Int))) 0)) rfl ?_)
  refine Rl.nil ?_
  refine Swp.seq ?_
  obtain ⟨s118, hl120, g119⟩ := bind_some h
  refine Swp.join (fun e w' => ∃ (l114 : (List Int)) (ob110 : Option Nat) (cap111 : Nat) (sp112 : List Value) (cs113 : List Value) (ln117 : Nat) (u : Env), l114 = s118 ∧ e = upds [(0, (Value.int .i64 n)), (2, (Value.pointer (some ⟨b1, 0, none⟩))), (4, (osv ob110 0 ln117 cap111))] u ∧ Go.X.Loc [] [] w w' [some b1, ob110] [Cont.cells [(Value.bool false), (Value.slice none 0 0)], Cont.cells ([] ++ (cs113 ++ sp112))] ∧ Keep w.heap.size [some b15, some b1] w19 [some b1, ob110] w' ∧ Els (rInt .i64) (Hv w.heap.size None [some b1, ob110] w') cs113 l114 ∧ ln117 = List.length l114 ∧ (cs113 ++ sp112).length = cap111 * (rInt .i64).sz ∧ True) ?_ ?_
  ·
   refine Swp.block ?_
   have hp122 := hL20.pick [1, 0] rfl rfl rfl
   have hL124 : Go.X.Loc [] [] w w19 [some b1, some b15] [Cont.cells [(Value.bool false), (Value.slice none 0 0)], Cont.cells ([] ++ ([] ++ []))] := hp122.1
   have K123 := Keep.step (s := w.heap.size) hp122.2
   have f125 := ((hE23.mono (K21 None)).mono (K123 None))
   refine Swp.loopM hl120 (fun (ss : (Int × (List Int))) (e : Env) (w' : World) => match ss with | (u98, l104) => ∃ (ob100 : Option Nat) (cap101 : Nat) (sp102 : List Value) (cs103 : List Value) (ln107 : Nat) (u : Env), e = upds [(0, (Value.int .i64 n)), (2, (Value.pointer (some ⟨b1, 0, none⟩))), (3, (Value.int .u64 u98)), (4, (osv ob100 0 ln107 cap101))] u ∧ Go.X.Loc [] [] w w' [some b1, ob100] [Cont.cells [(Value.bool false), (Value.slice none 0 0)], Cont.cells ([] ++ (cs103 ++ sp102))] ∧ Keep w.heap.size [some b15, some b1] w19 [some b1, ob100] w' ∧ Els (rInt .i64) (Hv w.heap.size None [some b1, ob100] w') cs103 l104 ∧ ln107 = List.length l104 ∧ (cs103 ++ sp102).length = cap101 * (rInt .i64).sz ∧ True) ⟨some b15, 0, [], [], (List.length ([] : (List Int))), _, (upds_sym ⟨rfl, ⟨rfl, ⟨rfl, ⟨rfl, trivial⟩⟩⟩⟩), hL124, K123, f125, rfl, (show ([] ++ [] : List Value).length = 0 * (rInt .i64).sz by simp), trivial⟩ ?_
   rintro ⟨u98, l104⟩ oo _ w126 ⟨ob100, cap101, sp102, cs103, ln107, u, rfl, hL127, K128, hE105, rfl, hc106, -⟩ h hd121
   rw [rOf_b1] at h
   refine Swp.seq ?_
   refine Swp.seq ?_
   refine Swp.region rfl ?_
   refine Rl.op (OpY.move (v := (Value.int .u64 u98)) rfl ?_)
   refine Rl.op (OpY.gtr (x := u98) (y := 0) ((u98 : Int) > 0) rfl rfl Iff.rfl ?_)
   refine Rl.nil ?_
   refine Swp.cond_d ((u98 : Int) > 0) rfl (fun hc129 => ?_) (fun hc129 => ?_)
   ·
    replace h := ite_t hc129 h
    refine Swp.skip ?_
    refine Swp.block ?_
    refine Swp.seq ?_
    refine Swp.region rfl ?_
    refine Rl.op (OpY.move (v := (osv ob100 0 (List.length l104) cap101)) rfl ?_)
    refine Rl.op (OpY.move (v := (Value.int .u64 u98)) rfl ?_)
    refine Rl.op (OpY.remI (x := u98) (y := 65536) rfl rfl (by decide) ?_)
    refine Rl.op (OpY.convInt (x := (Int.tmod u98 65536)) (z := (iw (Int.tmod u98 65536))) Try.underlying93 Try.underlying3 rfl rfl ?_)
    have hE131 : Els (rInt .i64) (Hv w.heap.size None [some b1, ob100] w126) [(Value.int .i64 (iw (Int.tmod u98 65536)))] [(iw (Int.tmod u98 65536))] := (Els.cons (a := [(Value.int .i64 (iw (Int.tmod u98 65536)))]) rfl Els.nil)
    refine Rl.op (OpY.litRow (r := (rInt .i64)) (vs := [(Value.int .i64 (iw (Int.tmod u98 65536)))]) (css := [[(Value.int .i64 (iw (Int.tmod u98 65536)))]]) (xs := [(iw (Int.tmod u98 65536))]) Try.underlying91 ti3 (Nat.le_of_ble_eq_true rfl) rfl rfl ⟨rfl, rfl, trivial⟩ (Nat.le_of_ble_eq_true rfl) hE131 rfl hL127 ?_)
    intro b130 w134 hc132 (hL135 : Go.X.Loc [] [] w w134 [some b130, some b1, ob100] [Cont.cells ([] ++ ([(Value.int .i64 (iw (Int.tmod u98 65536)))] ++ [])), Cont.cells [(Value.bool false), (Value.slice none 0 0)], Cont.cells ([] ++ (cs103 ++ sp102))]) hS137
    have K136 := Keep.step (s := w.heap.size) hS137
    obtain ⟨x138, q139, h⟩ := bind_some h
    obtain ⟨q140, q141, q142⟩ := apnd_some q139
    have f143 := (hE131.mono (K136 None))
    have f151 := (hE105.mono (K136 None))
    refine Rl.op (OpY.apRowX (r := (rInt .i64)) (H := (Hv w.heap.size None [some b130, some b1, ob100] w134)) (cs := cs103) (sp := sp102) (xs := l104) (ys := [(iw (Int.tmod u98 65536))]) (Y := x138) (n := (List.length l104)) (cap := cap101) (i := 2) Try.underlying91 ti3 rfl rfl rfl rfl hL135 rfl rfl f151 rfl hc106 (Src.row (pre := []) (o := 0) (n := 1) (cap := 1) (hL135.at 0 rfl rfl) f143 rfl rfl rfl) (Els.anyH (fun _ _ _ _ h => h) f143) q140 q141 q142 ?_)
    intro ob144 cap145 sp147 cs146 w152 hE148 hc149 (hL153 : Go.X.Loc [] [] w w152 [some b130, some b1, ob144] [Cont.cells ([] ++ ([(Value.int .i64 (iw (Int.tmod u98 65536)))] ++ [])), Cont.cells [(Value.bool false), (Value.slice none 0 0)], Cont.cells ([] ++ (cs146 ++ sp147))]) hS155
    have K154 := Keep.step (s := w.heap.size) hS155
    refine Rl.op (OpY.assign (v := (osv ob144 0 (List.length x138) cap145)) rfl ?_)
    refine Rl.nil ?_
    refine Swp.region rfl ?_
    refine Rl.op (OpY.move (v := (Value.int .u64 u98)) rfl ?_)
    refine Rl.op (OpY.quoI (x := u98) (y := 65536) (z := (uw (Int.tdiv u98 65536))) rfl rfl (by decide) rfl ?_)
    refine Rl.op (OpY.assign (v := (Value.int .u64 (uw (Int.tdiv u98 65536)))) rfl ?_)
    refine Rl.nil ?_
    refine Swp.pop_blk ?_
    have hp156 := hL153.pick [1, 2] rfl rfl rfl
    have hL158 : Go.X.Loc [] [] w w152 [some b1, ob144] [Cont.cells [(Value.bool false), (Value.slice none 0 0)], Cont.cells ([] ++ (cs146 ++ sp147))] := hp156.1
    have K157 := Keep.step (s := w.heap.size) hp156.2
    have f159 := ((hE148.mono (K154 None)).mono (K157 None))
    obtain rfl := Option.some.inj h
    refine Swp.pop_back ⟨((uw (Int.tdiv u98 65536)), x138), rfl, ?_⟩
    exact ⟨ob144, cap145, sp147, cs146, (List.length x138), _, (upds_sym ⟨rfl, ⟨rfl, ⟨rfl, ⟨rfl, trivial⟩⟩⟩⟩), hL158, (Keep.trans (Keep.trans (Keep.trans K128 K136) K154) K157), f159, rfl, hc149, trivial⟩
   ·
    replace h := ite_f hc129 h
    refine Swp.exit rfl ?_
    obtain rfl := Option.some.inj h
    obtain rfl := hd121 _ rfl
    replace h := g119
    try dsimp only at h
    skip
    refine Swp.pop_back ?_
    exact ⟨l104, ob100, cap101, sp102, cs103, (List.length l104), _, rfl, (upds_sym ⟨rfl, ⟨rfl, ⟨rfl, trivial⟩⟩⟩), hL127, K128, hE105, rfl, hc106, trivial⟩
  ·
   rintro _ w160 ⟨l114, ob110, cap111, sp112, cs113, ln117, u, rfl, rfl, hL161, K162, hE115, rfl, hc116, -⟩
   replace h := g119
   try dsimp only at h
   refine Swp.seq ?_
   refine Swp.region rfl ?_
   refine Rl.op (OpY.move (v := (Value.int .i64 n)) rfl ?_)
   refine Rl.op (OpY.lss (x := n) (y := 0) ((n : Int) < 0) rfl rfl Iff.rfl ?_)
   refine Rl.op (OpY.move (v := (osv ob110 0 (List.length l114) cap111)) rfl ?_)
   obtain ⟨r163, q164, h⟩ := bind_some h
   refine Rl.op (OpY.call en68 rfl rfl (rbig_w N (decide ((n : Int) < 0)) l114 (osv ob110 0 (List.length l114) cap111) _ Any (own_row_any (pre := []) (o := 0) (n := (List.length l114)) (cap := cap111) (hL161.at 1 rfl rfl) hE115 vw_any rfl rfl rfl hc116) r163 q164) ?_)
   rintro _ w168 hE171 ⟨v165, rfl, k166, -⟩
   replace k166 := k166.mono (Hv.freshO (S := None) hL161 [])
   have hL169 := hL161.ext hE171
   refine Rl.op0 (OpY.store (vs := [(Value.bool r163.Negative), v165]) ti26 rfl rfl rfl rfl (ones_cons rfl (ones_cons k166.one ones_nil)) hL169 0 rfl rfl (Nat.le_of_ble_eq_true rfl) ?_)
   intro w172 (hL173 : Go.X.Loc [] [] w w172 [some b1, ob110] [Cont.cells [(Value.bool r163.Negative), v165], Cont.cells ([] ++ (cs113 ++ sp112))]) hS175
   have K174 := Keep.step (s := w.heap.size) hS175
   refine Rl.nil ?_
   refine Swp.ret ?_
   obtain rfl := Option.some.inj h
   refine ⟨[(Value.agg #[(Value.bool r163.Negative), v165])], ⟨⟨⟨b1, 0, none⟩, rfl, res_boxA Try.underlying26 rfl ti26 (hL173.at 0 rfl rfl) rfl⟩, trivial⟩, ⟨_, rfl, hL173.done, ?_⟩⟩
   have f176 := (k166.mono (K174 None))
   exact ⟨v165, rfl, (f176.mono Hv.out), trivial⟩
theorem rSame_w (N : Nat) (a : Big) (b : Big) (a_v : Value) (b_v : Value) (w : World) (S : Nat → Prop) (a_h : Rs (rInt .u32) (Hv w.heap.size S [] w) a_v a.Digits) (b_h : Rs (rInt .u32) (Hv w.heap.size S [] w) b_v b.Digits) (r : Bool) (h : rSame N a b = some r) :
  Calls Try.prog 23 #[(Value.agg #[(Value.bool a.Negative), a_v]), (Value.agg #[(Value.bool b.Negative), b_v])] w (Ret w (fun v w' => (Value.bool r) = v ∧ True)) := by
 unfold rSame at h
 have hL : Go.X.Loc [] [] w w [] [] := Go.X.Loc.begin0 w
 refine calls_of (l := [(Value.agg #[(Value.bool a.Negative), a_v]), (Value.agg #[(Value.bool b.Negative), b_v])]) (rl := [.tmp 4]) (n := 38) Try.func23 rfl rfl rfl (Nat.le_of_ble_eq_true rfl) ?_
 refine Swp.seq ?_
 refine Swp.region rfl ?_
 refine Rl.op (OpY.box (cs := [(Value.bool a.Negative), a_v]) rfl rfl hL ?_)
 intro b1 w2 (hL3 : Go.X.Loc [] [] w w2 [some b1] [Cont.cells [(Value.bool a.Negative), a_v]]) hS5
 have K4 := Keep.step (s := w.heap.size) hS5
 refine Rl.op (OpY.box (cs := [(Value.bool b.Negative), b_v]) rfl rfl hL3 ?_)
 intro b6 w7 (hL8 : Go.X.Loc [] [] w w7 [some b6, some b1] [Cont.cells [(Value.bool b.Negative), b_v], Cont.cells [(Value.bool a.Negative), a_v]]) hS10
 have K9 := Keep.step (s := w.heap.size) hS10
 refine Rl.op (OpY.assign (v := (Value.bool false)) rfl ?_)
 refine Rl.nil ?_
 refine Swp.seq ?_
 refine Swp.seq ?_
 obtain ⟨s17, h, g18⟩ := bind_some h
 refine Swp.join (fun e w' => ∃ (x16 : Bool) (u : Env), x16 = s17 ∧ e = upds [(2, (Value.pointer (some ⟨b1, 0, none⟩))), (3, (Value.pointer (some ⟨b6, 0, none⟩))), (19, (Value.bool x16))] u ∧ Go.X.Loc [] [] w w' [some b1, some b6] [Cont.cells [(Value.bool a.Negative), a_v], Cont.cells [(Value.bool b.Negative), b_v]] ∧ Keep w.heap.size [some b6, some b1] w7 [some b1, some b6] w' ∧ True) ?_ ?_
 ·
  refine Swp.region rfl ?_
  refine Rl.op (OpY.fieldAddr (q := 0) Try.underlying26 rfl ti4 rfl rfl rfl ?_)
  refine Rl.op (OpY.ldBox1 (v := (Value.bool a.Negative)) Try.underlying4 rfl rfl (hL8.at 1 rfl rfl) rfl ?_)
  refine Rl.op (OpY.fieldAddr (q := 0) Try.underlying26 rfl ti4 rfl rfl rfl ?_)
  refine Rl.op (OpY.ldBox1 (v := (Value.bool b.Negative)) Try.underlying4 rfl rfl (hL8.at 0 rfl rfl) rfl ?_)
  refine Rl.op (OpY.neqBool (x := a.Negative) (y := b.Negative) Try.underlying4 rfl rfl ?_)
  refine Rl.op (OpY.move (v := (Value.bool (!(a.Negative == b.Negative)))) rfl ?_)
  by_cases hc19 : (!(a.Negative == b.Negative)) = true
  ·
   replace h := ite_t hc19 h
   refine Rl.no (dj := 11) (b' := (!(a.Negative == b.Negative))) rfl rfl hc19 ?_
   refine Rl.no (dj := 11) (b' := (!(a.Negative == b.Negative))) rfl rfl hc19 ?_
   refine Rl.no (dj := 11) (b' := (!(a.Negative == b.Negative))) rfl rfl hc19 ?_
   refine Rl.no (dj := 11) (b' := (!(a.Negative == b.Negative))) rfl rfl hc19 ?_
   refine Rl.no (dj := 11) (b' := (!(a.Negative == b.Negative))) rfl rfl hc19 ?_
   refine Rl.no (dj := 11) (b' := (!(a.Negative == b.Negative))) rfl rfl hc19 ?_
   refine Rl.no (dj := 11) (b' := (!(a.Negative == b.Negative))) rfl rfl hc19 ?_
   refine Rl.op (OpY.pick_t (t := (!(a.Negative == b.Negative))) (v := (Value.bool true)) rfl hc19 rfl ?_)
   refine Rl.nil ?_
   have hp20 := hL8.pick [1, 0] rfl rfl rfl
   have hL22 : Go.X.Loc [] [] w w7 [some b1, some b6] [Cont.cells [(Value.bool a.Negative), a_v], Cont.cells [(Value.bool b.Negative), b_v]] := hp20.1
   have K21 := Keep.step (s := w.heap.size) hp20.2
   obtain rfl := Option.some.inj h
   refine Swp.pop_back ?_
   exact ⟨true, _, rfl, (upds_sym ⟨rfl, ⟨rfl, ⟨rfl, trivial⟩⟩⟩), hL22, K21, trivial⟩
  ·
   replace h := ite_f hc19 h
   refine Rl.yes (dj := 11) (b' := (!(a.Negative == b.Negative))) rfl rfl (eq_false_of_ne_true hc19) (OpY.fieldAddr (q := 1) Try.underlying26 rfl ti24 rfl rfl rfl ?_)
   refine Rl.yes (dj := 11) (b' := (!(a.Negative == b.Negative))) rfl rfl (eq_false_of_ne_true hc19) (OpY.ldBox1 (v := a_v) Try.underlying24 rfl rfl (hL8.at 1 rfl rfl) rfl ?_)
   have f23 := ((a_h.mono (K4 S)).mono (K9 S))
   refine Rl.yes (dj := 11) (b' := (!(a.Negative == b.Negative))) rfl rfl (eq_false_of_ne_true hc19) (OpY.lenRo (v := a_v) Try.underlying24 rfl f23 ?_)
   refine Rl.yes (dj := 11) (b' := (!(a.Negative == b.Negative))) rfl rfl (eq_false_of_ne_true hc19) (OpY.fieldAddr (q := 1) Try.underlying26 rfl ti24 rfl rfl rfl ?_)
   refine Rl.yes (dj := 11) (b' := (!(a.Negative == b.Negative))) rfl rfl (eq_false_of_ne_true hc19) (OpY.ldBox1 (v := b_v) Try.underlying24 rfl rfl (hL8.at 0 rfl rfl) rfl ?_)
   have f24 := ((b_h.mono (K4 S)).mono (K9 S))
   refine Rl.yes (dj := 11) (b' := (!(a.Negative == b.Negative))) rfl rfl (eq_false_of_ne_true hc19) (OpY.lenRo (v := b_v) Try.underlying24 rfl f24 ?_)
   refine Rl.yes (dj := 11) (b' := (!(a.Negative == b.Negative))) rfl rfl (eq_false_of_ne_true hc19) (OpY.neq (x := (List.length a.Digits : Int)) (y := (List.length b.Digits : Int)) (((List.length a.Digits : Int) : Int) ≠ (List.length b.Digits : Int)) rfl rfl Iff.rfl ?_)
   refine Rl.op (OpY.pick_f (t := (!(a.Negative == b.Negative))) (v := (Value.bool (decide (((List.length a.Digits : Int) : Int) ≠ (List.length b.Digits : Int))))) rfl (eq_false_of_ne_true hc19) rfl ?_)
   refine Rl.nil ?_
   have hp25 := hL8.pick [1, 0] rfl rfl rfl
   have hL27 : Go.X.Loc [] [] w w7 [some b1, some b6] [Cont.cells [(Value.bool a.Negative), a_v], Cont.cells [(Value.bool b.Negative), b_v]] := hp25.1
   have K26 := Keep.step (s := w.heap.size) hp25.2
   obtain rfl := Option.some.inj h
   refine Swp.pop_back ?_
   exact ⟨(decide (((List.length a.Digits : Int) : Int) ≠ (List.length b.Digits : Int))), _, rfl, (upds_sym ⟨rfl, ⟨rfl, ⟨rfl, trivial⟩⟩⟩), hL27, K26, trivial⟩
 ·
  rintro _ w28 ⟨x16, u, rfl, rfl, hL29, K30, -⟩
  replace h := g18
  try dsimp only at h
  refine Swp.cond_b x16 rfl (fun hc31 => ?_) (fun hc31 => ?_)
  ·
   replace h := ite_t hc31 h
   refine Swp.seq ?_
   refine Swp.region rfl ?_
   refine Rl.op (OpY.assign (v := (Value.bool false)) rfl ?_)
   refine Rl.nil ?_
   refine Swp.ret ?_
   obtain rfl := Option.some.inj h
   refine ⟨[(Value.bool false)], ⟨rfl, trivial⟩, ⟨_, rfl, hL29.done, ?_⟩⟩
   exact ⟨rfl, trivial⟩
  ·
   replace h := ite_f hc31 h
   refine Swp.skip ?_
   refine Swp.seq ?_
   refine Swp.seq ?_
   refine Swp.region rfl ?_
   refine Rl.op (OpY.assign (v := (Value.int .i64 0)) rfl ?_)
   refine Rl.nil ?_
   obtain ⟨s250, hl252, g251⟩ := bind_some h
   refine Swp.join (fun e w' => ∃  (u : Env), (Sum.inl ()) = s250 ∧ e = upds [] u ∧ Go.X.Loc [] [] w w' [] [] ∧ Keep w.heap.size [some b1, some b6] w28 [] w' ∧ True) ?_ ?_
   ·
    refine Swp.block ?_
    refine Swp.loopM hl252 (fun (ss : Int) (e : Env) (w' : World) => match ss with | i249 => ∃ (u : Env), e = upds [(2, (Value.pointer (some ⟨b1, 0, none⟩))), (3, (Value.pointer (some ⟨b6, 0, none⟩))), (5, (Value.int .i64 i249))] u ∧ Go.X.Loc [] [] w w' [some b1, some b6] [Cont.cells [(Value.bool a.Negative), a_v], Cont.cells [(Value.bool b.Negative), b_v]] ∧ Keep w.heap.size [some b1, some b6] w28 [some b1, some b6] w' ∧ True) ⟨_, (upds_sym ⟨rfl, ⟨rfl, ⟨rfl, trivial⟩⟩⟩), hL29, Keep.refl, trivial⟩ ?_
    rintro i249 oo _ w254 ⟨u, rfl, hL255, K256, -⟩ h hd253
    rw [rSame_b1] at h
    refine Swp.seq ?_
    refine Swp.seq ?_
    refine Swp.region rfl ?_
    refine Rl.op (OpY.move (v := (Value.int .i64 i249)) rfl ?_)
    refine Rl.op (OpY.fieldAddr (q := 1) Try.underlying26 rfl ti24 rfl rfl rfl ?_)
    refine Rl.op (OpY.ldBox1 (v := a_v) Try.underlying24 rfl rfl (hL255.at 0 rfl rfl) rfl ?_)
    have f257 := ((((a_h.mono (K4 S)).mono (K9 S)).mono (K30 S)).mono (K256 S))
    refine Rl.op (OpY.lenRo (v := a_v) Try.underlying24 rfl f257 ?_)
    refine Rl.op (OpY.lss (x := i249) (y := (List.length a.Digits : Int)) ((i249 : Int) < (List.length a.Digits : Int)) rfl rfl Iff.rfl ?_)
    refine Rl.nil ?_
    refine Swp.cond_d ((i249 : Int) < (List.length a.Digits : Int)) rfl (fun hc258 => ?_) (fun hc258 => ?_)
    ·
     replace h := ite_t hc258 h
     refine Swp.skip ?_
     refine Swp.seq ?_
     refine Swp.block ?_
     refine Swp.seq ?_
     obtain ⟨x259, q260, h⟩ := bind_some h
     obtain ⟨n261, q262, q263⟩ := idx_some q260
     obtain ⟨b264, o265, c266, vs267, q268, q269, f270, q271⟩ := Rs.get f257 q263
     obtain rfl := q271
     obtain ⟨x272, q273, h⟩ := bind_some h
     obtain ⟨n274, q275, q276⟩ := idx_some q273
     have f285 := ((((b_h.mono (K4 S)).mono (K9 S)).mono (K30 S)).mono (K256 S))
     obtain ⟨b277, o278, c279, vs280, q281, q282, f283, q284⟩ := Rs.get f285 q276
     obtain rfl := q284
     refine Swp.drawW 10 [] (fun W1 => [.det (Value.pointer (some ⟨b1, 1, none⟩)), .det a_v, .det (Value.int .i64 i249), .det (Value.pointer (some ⟨b264, (o265 + n261 * (rInt .u32).sz), none⟩)), .det (Value.int .u32 x259), .det (Value.pointer (some ⟨b6, 1, none⟩)), .det b_v, .det (Value.int .i64 i249), .det (Value.pointer (some ⟨b277, (o278 + n274 * (rInt .u32).sz), none⟩)), .det (Value.int .u32 x272)]) mixed rfl rfl rfl ?_ ?_
     ·
      intro W1 _
      exact trivial
     ·
      intro w286 hE287
      have hL288 := hL255.ext hE287
      have K289 := Keep.ext (s := w.heap.size) (O := [some b1, some b6]) hE287
      refine DrH.det ?_ ?_
      ·
       rintro w290 Z291 hE292 hZ293 ⟨-⟩
       refine GOp.op (OpY.fieldAddr (q := 1) Try.underlying26 rfl ti24 rfl rfl rfl ?_)
       exact ⟨Ext.refl _, rfl⟩
      refine DrH.det ?_ ?_
      ·
       rintro w296 Z297 hE298 hZ299 ⟨-⟩
       have hL300 := hL288.ext hE298
       refine GOp.op (OpY.ldBox1 (v := a_v) Try.underlying24 rfl rfl (hL300.at 0 rfl rfl) rfl ?_)
       exact ⟨Ext.refl _, rfl⟩
      refine DrH.det ?_ ?_
      ·
       rintro w302 Z303 hE304 hZ305 ⟨-⟩
       refine GOp.op (OpY.move (v := (Value.int .i64 i249)) rfl ?_)
       exact ⟨Ext.refl _, rfl⟩
      refine DrH.det ?_ ?_
      ·
       rintro w308 Z309 hE310 hZ311 ⟨-⟩
       refine GOp.op (OpY.ixRoD (r := (rInt .u32)) (v := a_v) (n := n261) (m := (o265 + n261 * (rInt .u32).sz)) Try.underlying24 ti89 rfl q268 rfl q262 q263 rfl ?_)
       exact ⟨Ext.refl _, rfl⟩
      refine DrH.det ?_ ?_
      ·
       rintro w314 Z315 hE316 hZ317 ⟨-⟩
       have K319 := Keep.ext (s := w.heap.size) (O := [some b1, some b6]) hE316
       refine GOp.op (OpY.ldRo1 (v := (Value.int .u32 x259)) Try.underlying89 rfl rfl vw_view (At.mono (K319 S) (At.mono (K289 S) f270)) ?_)
       exact ⟨Ext.refl _, rfl⟩
      refine DrH.det ?_ ?_
      ·
       rintro w320 Z321 hE322 hZ323 ⟨-⟩
       refine GOp.op (OpY.fieldAddr (q := 1) Try.underlying26 rfl ti24 rfl rfl rfl ?_)
       exact ⟨Ext.refl _, rfl⟩
      refine DrH.det ?_ ?_
      ·
       rintro w326 Z327 hE328 hZ329 ⟨-⟩
       have hL330 := hL288.ext hE328
       refine GOp.op (OpY.ldBox1 (v := b_v) Try.underlying24 rfl rfl (hL330.at 1 rfl rfl) rfl ?_)
       exact ⟨Ext.refl _, rfl⟩
      refine DrH.det ?_ ?_
      ·
       rintro w332 Z333 hE334 hZ335 ⟨-⟩
       refine GOp.op (OpY.move (v := (Value.int .i64 i249)) rfl ?_)
       exact ⟨Ext.refl _, rfl⟩
      refine DrH.det ?_ ?_
      ·
       rintro w338 Z339 hE340 hZ341 ⟨-⟩
       refine GOp.op (OpY.ixRoD (r := (rInt .u32)) (v := b_v) (n := n274) (m := (o278 + n274 * (rInt .u32).sz)) Try.underlying24 ti89 rfl q281 rfl q275 q276 rfl ?_)
       exact ⟨Ext.refl _, rfl⟩
      refine DrH.det ?_ ?_
      ·
       rintro w344 Z345 hE346 hZ347 ⟨-⟩
       have K349 := Keep.ext (s := w.heap.size) (O := [some b1, some b6]) hE346
       refine GOp.op (OpY.ldRo1 (v := (Value.int .u32 x272)) Try.underlying89 rfl rfl vw_view (At.mono (K349 S) (At.mono (K289 S) f283)) ?_)
       exact ⟨Ext.refl _, rfl⟩
      refine DrH.fin ?_
      rintro w350 Z351 hE352 hZ353 ⟨-⟩ ap354
      have hB355 : ∀ b, some b ∈ ([] : List (Option Nat)) → w286.heap.size ≤ b ∧ ¬ Z351 b := by
       intro b hb; cases hb
      have hL356 := hL288.ext hE352
      have K357 := Keep.ext (s := w.heap.size) (O := [some b1, some b6]) hE352
      refine Rl.op (OpY.neq (x := x259) (y := x272) ((x259 : Int) ≠ x272) rfl rfl Iff.rfl ?_)
      refine Rl.nil ?_
      refine Swp.cond_d ((x259 : Int) ≠ x272) rfl (fun hc358 => ?_) (fun hc358 => ?_)
      ·
       replace h := ite_t hc358 h
       refine Swp.seq ?_
       refine Swp.region rfl ?_
       refine Rl.op (OpY.assign (v := (Value.bool false)) rfl ?_)
       refine Rl.nil ?_
       refine Swp.ret ?_
       obtain rfl := Option.some.inj h
       obtain rfl := hd253 _ rfl
       replace h := g251
       try dsimp only at h
       obtain rfl := Option.some.inj h
       refine ⟨[(Value.bool false)], ⟨rfl, trivial⟩, ⟨_, rfl, hL356.done, ?_⟩⟩
       exact ⟨rfl, trivial⟩
      ·
       replace h := ite_f hc358 h
       refine Swp.skip ?_
       refine Swp.pop_blk ?_
       refine Swp.region rfl ?_
       refine Rl.op (OpY.move (v := (Value.int .i64 i249)) rfl ?_)
       refine Rl.op (OpY.add (x := i249) (y := 1) (z := (iw (i249 + 1))) rfl rfl rfl ?_)
       refine Rl.op (OpY.assign (v := (Value.int .i64 (iw (i249 + 1)))) rfl ?_)
       refine Rl.nil ?_
       obtain rfl := Option.some.inj h
       refine Swp.pop_back ⟨(iw (i249 + 1)), rfl, ?_⟩
       exact ⟨_, (upds_sym ⟨rfl, ⟨rfl, ⟨rfl, trivial⟩⟩⟩), hL356, (Keep.trans (Keep.trans K256 K289) K357), trivial⟩
    ·
     replace h := ite_f hc258 h
     refine Swp.exit rfl ?_
     have hp359 := hL255.pick [] rfl rfl rfl
     have hL361 : Go.X.Loc [] [] w w254 [] [] := hp359.1
     have K360 := Keep.step (s := w.heap.size) hp359.2
     obtain rfl := Option.some.inj h
     obtain rfl := hd253 _ rfl
     replace h := g251
     try dsimp only at h
     skip
     refine Swp.pop_back ?_
     exact ⟨_, rfl, (upds_sym trivial), hL361, (Keep.trans K256 K360), trivial⟩
   ·
    rintro _ w362 ⟨u, rfl, rfl, hL363, K364, -⟩
    replace h := g251
    try dsimp only at h
    refine Swp.seq ?_
    refine Swp.region rfl ?_
    refine Rl.op (OpY.assign (v := (Value.bool true)) rfl ?_)
    refine Rl.nil ?_
    refine Swp.ret ?_
    obtain rfl := Option.some.inj h
    refine ⟨[(Value.bool true)], ⟨rfl, trivial⟩, ⟨_, rfl, hL363.done, ?_⟩⟩
    exact ⟨rfl, trivial⟩
end Go.Proofs.Ytakkacdhlocckaa.WR

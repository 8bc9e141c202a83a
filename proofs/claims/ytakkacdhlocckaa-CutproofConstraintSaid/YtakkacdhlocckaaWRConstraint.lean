/- Walks, written by a program of mine (wip/tool); the kernel checks them. -/
import Derived.Test.YtakkacdhlocckaaProg
import Derived.Test.YtakkacdhlocckaaZ7
import Derived.Test.YtakkacdhlocckaaPR
import Derived.Test.YtakkacdhlocckaaWAConstraint
set_option maxRecDepth 100000
set_option maxHeartbeats 4000000
set_option linter.unusedVariables false
namespace Go.Proofs.Ytakkacdhlocckaa.WR
open Go Go.RowKit Go.X Go.D Go.Proofs.Ytakkacdhlocckaa.WA
theorem mixed : Try.prog.follows .mixedOrders = true := by kernel_rfl
theorem ti3 : TI Try.prog 3 1 8 (Value.int .i64 0) := TI.mk (by kernel_rfl)
theorem ti24 : TI Try.prog 24 1 24 (Value.slice none 0 0) := TI.mk (by kernel_rfl)
theorem ti89 : TI Try.prog 89 1 4 (Value.int .u32 0) := TI.mk (by kernel_rfl)
theorem en82 : Enters Try.prog 82 := ⟨Try.f82, Try.func82, by kernel_rfl, by kernel_rfl⟩
theorem ti26 : TI Try.prog 26 2 32 (Value.agg #[(Value.bool false), (Value.slice none 0 0)]) := TI.mk (by kernel_rfl)
theorem pl26 : placesT Try.prog 26 = some [(0, 1), (1, 1)] := by kernel_rfl
theorem ti4 : TI Try.prog 4 1 1 (Value.bool false) := TI.mk (by kernel_rfl)
theorem en65 : Enters Try.prog 65 := ⟨Try.f65, Try.func65, by kernel_rfl, by kernel_rfl⟩
theorem en68 : Enters Try.prog 68 := ⟨Try.f68, Try.func68, by kernel_rfl, by kernel_rfl⟩
theorem en40 : Enters Try.prog 40 := ⟨Try.f40, Try.func40, by kernel_rfl, by kernel_rfl⟩
theorem en64 : Enters Try.prog 64 := ⟨Try.f64, Try.func64, by kernel_rfl, by kernel_rfl⟩
theorem en69 : Enters Try.prog 69 := ⟨Try.f69, Try.func69, by kernel_rfl, by kernel_rfl⟩
theorem en70 : Enters Try.prog 70 := ⟨Try.f70, Try.func70, by kernel_rfl, by kernel_rfl⟩
theorem en38 : Enters Try.prog 38 := ⟨Try.f38, Try.func38, by kernel_rfl, by kernel_rfl⟩
theorem en71 : Enters Try.prog 71 := ⟨Try.f71, Try.func71, by kernel_rfl, by kernel_rfl⟩
theorem en37 : Enters Try.prog 37 := ⟨Try.f37, Try.func37, by kernel_rfl, by kernel_rfl⟩
theorem rtrim_w (N : Nat) (l : (List Int)) (l_v : Value) (w : World) (S : Nat → Prop) (l_h : Rs (rInt .i64) (Hv w.heap.size S [] w) l_v l) (r : (List Int)) (h : rtrim N l = some r) :
  Calls Try.prog 82 #[l_v] w (Ret w (fun v w' => ∃ (v0_0 : Value), v0_0 = v ∧ Rs (rInt .i64) (Hv w.heap.size S [] w') v0_0 r ∧ True)) := by
 unfold rtrim at h
 have hL : Go.X.Loc [] [] w w [] [] := Go.X.Loc.begin0 w
 refine calls_of (l := [l_v]) (rl := [.tmp 2]) (n := 21) Try.func82 rfl rfl rfl (Nat.le_of_ble_eq_true rfl) ?_
 refine Swp.seq ?_
 refine Swp.region rfl ?_
 refine Rl.op (OpY.assign (v := (Value.slice none 0 0)) rfl ?_)
 refine Rl.nil ?_
 refine Swp.seq ?_
 obtain ⟨s118, hl120, g119⟩ := bind_some h
 refine Swp.join (fun e w' => ∃ (l115 : (List Int)) (v116 : Value) (u : Env), l115 = s118 ∧ e = upds [(0, v116)] u ∧ Go.X.Loc [] [] w w' [] [] ∧ Keep w.heap.size [] w [] w' ∧ Rs (rInt .i64) (Hv w.heap.size S [] w') v116 l115 ∧ True) ?_ ?_
 ·
  refine Swp.block ?_
  refine Swp.loopM hl120 (fun (ss : (List Int)) (e : Env) (w' : World) => match ss with | l112 => ∃ (v113 : Value) (u : Env), e = upds [(0, v113)] u ∧ Go.X.Loc [] [] w w' [] [] ∧ Keep w.heap.size [] w [] w' ∧ Rs (rInt .i64) (Hv w.heap.size S [] w') v113 l112 ∧ True) ⟨l_v, _, (upds_sym ⟨rfl, trivial⟩), hL, Keep.refl, l_h, trivial⟩ ?_
  rintro l112 oo _ w122 ⟨v113, u, rfl, hL123, K124, k114, -⟩ h hd121
  rw [rtrim_b1] at h
  refine Swp.seq ?_
  refine Swp.seq ?_
  obtain ⟨s140, h, g141⟩ := bind_some h
  refine Swp.join (fun e w' => ∃ (x139 : Bool) (u : Env), x139 = s140 ∧ e = upds [(0, v113), (14, (Value.bool x139))] u ∧ Go.X.Loc [] [] w w' [] [] ∧ Keep w.heap.size [] w122 [] w' ∧ True) ?_ ?_
  ·
   refine Swp.region rfl ?_
   refine Rl.op (OpY.move (v := v113) rfl ?_)
   refine Rl.op (OpY.lenRo (v := v113) Try.underlying91 rfl k114 ?_)
   refine Rl.op (OpY.gtr (x := (List.length l112 : Int)) (y := 0) (((List.length l112 : Int) : Int) > 0) rfl rfl Iff.rfl ?_)
   refine Rl.op (OpY.move (v := (Value.bool (decide (((List.length l112 : Int) : Int) > 0)))) rfl ?_)
   by_cases hc142 : ((List.length l112 : Int) : Int) > 0
   ·
    replace h := ite_t hc142 h
    refine Rl.yes (dj := 6) (b' := (decide (((List.length l112 : Int) : Int) > 0))) rfl rfl (decide_eq_true hc142) (OpY.move (v := v113) rfl ?_)
    refine Rl.yes (dj := 6) (b' := (decide (((List.length l112 : Int) : Int) > 0))) rfl rfl (decide_eq_true hc142) (OpY.move (v := v113) rfl ?_)
    refine Rl.yes (dj := 6) (b' := (decide (((List.length l112 : Int) : Int) > 0))) rfl rfl (decide_eq_true hc142) (OpY.lenRo (v := v113) Try.underlying91 rfl k114 ?_)
    refine Rl.yes (dj := 6) (b' := (decide (((List.length l112 : Int) : Int) > 0))) rfl rfl (decide_eq_true hc142) (OpY.sub (x := (List.length l112 : Int)) (y := 1) (z := (iw ((List.length l112 : Int) - 1))) rfl rfl rfl ?_)
    obtain ⟨x143, q144, h⟩ := bind_some h
    obtain ⟨n145, q146, q147⟩ := idx_some q144
    obtain ⟨b148, o149, c150, vs151, q152, q153, f154, q155⟩ := Rs.get k114 q147
    obtain rfl := q155
    refine Rl.yes (dj := 6) (b' := (decide (((List.length l112 : Int) : Int) > 0))) rfl rfl (decide_eq_true hc142) (OpY.ixRoD (r := (rInt .i64)) (v := v113) (n := n145) (m := (o149 + n145 * (rInt .i64).sz)) Try.underlying91 ti3 rfl q152 rfl q146 q147 rfl ?_)
    refine Rl.yes (dj := 6) (b' := (decide (((List.length l112 : Int) : Int) > 0))) rfl rfl (decide_eq_true hc142) (OpY.ldRo1 (v := (Value.int .i64 x143)) Try.underlying3 rfl rfl vw_view f154 ?_)
    refine Rl.yes (dj := 6) (b' := (decide (((List.length l112 : Int) : Int) > 0))) rfl rfl (decide_eq_true hc142) (OpY.eql (x := x143) (y := 0) ((x143 : Int) = 0) rfl rfl Iff.rfl ?_)
    refine Rl.op (OpY.pick_t (t := (decide (((List.length l112 : Int) : Int) > 0))) (v := (Value.bool (decide ((x143 : Int) = 0)))) rfl (decide_eq_true hc142) rfl ?_)
    refine Rl.nil ?_
    obtain rfl := Option.some.inj h
    refine Swp.pop_back ?_
    exact ⟨(decide ((x143 : Int) = 0)), _, rfl, (upds_sym ⟨rfl, ⟨rfl, trivial⟩⟩), hL123, Keep.refl, trivial⟩
   ·
    replace h := ite_f hc142 h
    refine Rl.no (dj := 6) (b' := (decide (((List.length l112 : Int) : Int) > 0))) rfl rfl (decide_eq_false hc142) ?_
    refine Rl.no (dj := 6) (b' := (decide (((List.length l112 : Int) : Int) > 0))) rfl rfl (decide_eq_false hc142) ?_
    refine Rl.no (dj := 6) (b' := (decide (((List.length l112 : Int) : Int) > 0))) rfl rfl (decide_eq_false hc142) ?_
    refine Rl.no (dj := 6) (b' := (decide (((List.length l112 : Int) : Int) > 0))) rfl rfl (decide_eq_false hc142) ?_
    refine Rl.no (dj := 6) (b' := (decide (((List.length l112 : Int) : Int) > 0))) rfl rfl (decide_eq_false hc142) ?_
    refine Rl.no (dj := 6) (b' := (decide (((List.length l112 : Int) : Int) > 0))) rfl rfl (decide_eq_false hc142) ?_
    refine Rl.no (dj := 6) (b' := (decide (((List.length l112 : Int) : Int) > 0))) rfl rfl (decide_eq_false hc142) ?_
    refine Rl.op (OpY.pick_f (t := (decide (((List.length l112 : Int) : Int) > 0))) (v := (Value.bool false)) rfl (decide_eq_false hc142) rfl ?_)
    refine Rl.nil ?_
    obtain rfl := Option.some.inj h
    refine Swp.pop_back ?_
    exact ⟨false, _, rfl, (upds_sym ⟨rfl, ⟨rfl, trivial⟩⟩), hL123, Keep.refl, trivial⟩
  ·
   rintro _ w156 ⟨x139, u, rfl, rfl, hL157, K158, -⟩
   replace h := g141
   try dsimp only at h
   refine Swp.cond_b x139 rfl (fun hc159 => ?_) (fun hc159 => ?_)
   ·
    replace h := ite_t hc159 h
    refine Swp.skip ?_
    refine Swp.block ?_
    refine Swp.region rfl ?_
    refine Rl.op (OpY.move (v := v113) rfl ?_)
    refine Rl.op (OpY.move (v := v113) rfl ?_)
    have f160 := (k114.mono (K158 S))
    refine Rl.op (OpY.lenRo (v := v113) Try.underlying91 rfl f160 ?_)
    refine Rl.op (OpY.sub (x := (List.length l112 : Int)) (y := 1) (z := (iw ((List.length l112 : Int) - 1))) rfl rfl rfl ?_)
    obtain ⟨x161, q162, h⟩ := bind_some h
    obtain ⟨m163, n164, q165, q166, q167, q168, q169⟩ := cut_some q162
    refine Rl.op (OpY.cutRoX (l := m163) (h' := n164) Try.underlying91 ti3 rfl f160 (.inl ⟨rfl, by omega⟩) (.inr ⟨_, _, rfl, by rw [← q166]; rfl⟩) q167 q168 q169 ?_)
    intro v170 k171
    refine Rl.op (OpY.assign (v := v170) rfl ?_)
    refine Rl.nil ?_
    refine Swp.pop_blk ?_
    obtain rfl := Option.some.inj h
    refine Swp.pop_back ⟨x161, rfl, ?_⟩
    exact ⟨v170, _, (upds_sym ⟨rfl, trivial⟩), hL157, (Keep.trans K124 K158), k171, trivial⟩
   ·
    replace h := ite_f hc159 h
    refine Swp.exit rfl ?_
    have f175 := (k114.mono (K158 S))
    obtain rfl := Option.some.inj h
    obtain rfl := hd121 _ rfl
    replace h := g119
    try dsimp only at h
    skip
    refine Swp.pop_back ?_
    exact ⟨l112, v113, _, rfl, (upds_sym ⟨rfl, trivial⟩), hL157, (Keep.trans K124 K158), f175, trivial⟩
 ·
  rintro _ w176 ⟨l115, v116, u, rfl, rfl, hL177, K178, k117, -⟩
  replace h := g119
  try dsimp only at h
  refine Swp.seq ?_
  refine Swp.region rfl ?_
  refine Rl.op (OpY.move (v := v116) rfl ?_)
  refine Rl.op (OpY.assign (v := v116) rfl ?_)
  refine Rl.nil ?_
  refine Swp.ret ?_
  obtain rfl := Option.some.inj h
  refine ⟨[v116], ⟨rfl, trivial⟩, ⟨_, rfl, hL177.done, ?_⟩⟩
  exact ⟨v116, rfl, (k117.mono Hv.out), trivial⟩
theorem halves_w (N : Nat) (x : Big) (x_v : Value) (w : World) (S : Nat → Prop) (x_h : Rs (rInt .u32) (Hv w.heap.size S [] w) x_v x.Digits) (r : (List Int)) (h : halves N x = some r) :
  Calls Try.prog 65 #[(Value.agg #[(Value.bool x.Negative), x_v])] w (Ret w (fun v w' => ∃ (v0_0 : Value), v0_0 = v ∧ Rs (rInt .i64) (Hv w.heap.size None [] w') v0_0 r ∧ True)) := by
 unfold halves at h
 have hL : Go.X.Loc [] [] w w [] [] := Go.X.Loc.begin0 w
 refine calls_of (l := [(Value.agg #[(Value.bool x.Negative), x_v])]) (rl := [.tmp 2]) (n := 32) Try.func65 rfl rfl rfl (Nat.le_of_ble_eq_true rfl) ?_
 refine Swp.seq ?_
 refine Swp.region rfl ?_
 refine Rl.op (OpY.box (cs := [(Value.bool x.Negative), x_v]) rfl rfl hL ?_)
 intro b1 w2 (hL3 : Go.X.Loc [] [] w w2 [some b1] [Cont.cells [(Value.bool x.Negative), x_v]]) hS5
 have K4 := Keep.step (s := w.heap.size) hS5
 refine Rl.op (OpY.assign (v := (Value.slice none 0 0)) rfl ?_)
 refine Rl.nil ?_
 refine Swp.seq ?_
 refine Swp.region rfl ?_
 refine Rl.op (OpY.litRow0 Try.underlying91 ti3 hL3 ?_)
 intro b6 w10 (hL11 : Go.X.Loc [] [] w w10 [some b6, some b1] [Cont.cells ([] ++ ([] ++ [])), Cont.cells [(Value.bool x.Negative), x_v]]) hS13
 have hE14 : Els (rInt .i64) (Hv w.heap.size None [some b1] w2) [] [] := Els.nil
 have K12 := Keep.step (s := w.heap.size) hS13
 refine Rl.op (OpY.assign (v := (osv (some b6) 0 (List.length ([] : (List Int))) 0)) rfl ?_)
 refine Rl.nil ?_
 refine Swp.seq ?_
 refine Swp.seq ?_
 refine Swp.region rfl ?_
 refine Rl.op (OpY.assign (v := (Value.int .i64 0)) rfl ?_)
 refine Rl.nil ?_
 obtain ⟨s388, hl390, g389⟩ := bind_some h
 refine Swp.join (fun e w' => ∃ (l384 : (List Int)) (ob380 : Option Nat) (cap381 : Nat) (sp382 : List Value) (cs383 : List Value) (ln387 : Nat) (u : Env), l384 = s388 ∧ e = upds [(3, (osv ob380 0 ln387 cap381))] u ∧ Go.X.Loc [] [] w w' [ob380] [Cont.cells ([] ++ (cs383 ++ sp382))] ∧ Keep w.heap.size [some b6, some b1] w10 [ob380] w' ∧ Els (rInt .i64) (Hv w.heap.size None [ob380] w') cs383 l384 ∧ ln387 = List.length l384 ∧ (cs383 ++ sp382).length = cap381 * (rInt .i64).sz ∧ True) ?_ ?_
 ·
  refine Swp.block ?_
  have hp392 := hL11.pick [1, 0] rfl rfl rfl
  have hL394 : Go.X.Loc [] [] w w10 [some b1, some b6] [Cont.cells [(Value.bool x.Negative), x_v], Cont.cells ([] ++ ([] ++ []))] := hp392.1
  have K393 := Keep.step (s := w.heap.size) hp392.2
  have f395 := ((hE14.mono (K12 None)).mono (K393 None))
  refine Swp.loopM hl390 (fun (ss : ((List Int) × Int)) (e : Env) (w' : World) => match ss with | (l374, i378) => ∃ (ob370 : Option Nat) (cap371 : Nat) (sp372 : List Value) (cs373 : List Value) (ln377 : Nat) (u : Env), e = upds [(1, (Value.pointer (some ⟨b1, 0, none⟩))), (3, (osv ob370 0 ln377 cap371)), (4, (Value.int .i64 i378))] u ∧ Go.X.Loc [] [] w w' [some b1, ob370] [Cont.cells [(Value.bool x.Negative), x_v], Cont.cells ([] ++ (cs373 ++ sp372))] ∧ Keep w.heap.size [some b6, some b1] w10 [some b1, ob370] w' ∧ Els (rInt .i64) (Hv w.heap.size None [some b1, ob370] w') cs373 l374 ∧ ln377 = List.length l374 ∧ (cs373 ++ sp372).length = cap371 * (rInt .i64).sz ∧ True) ⟨some b6, 0, [], [], (List.length ([] : (List Int))), _, (upds_sym ⟨rfl, ⟨rfl, ⟨rfl, trivial⟩⟩⟩), hL394, K393, f395, rfl, (show ([] ++ [] : List Value).length = 0 * (rInt .i64).sz by simp), trivial⟩ ?_
  rintro ⟨l374, i378⟩ oo _ w396 ⟨ob370, cap371, sp372, cs373, ln377, u, rfl, hL397, K398, hE375, rfl, hc376, -⟩ h hd391
  rw [halves_b1] at h
  refine Swp.seq ?_
  refine Swp.seq ?_
  refine Swp.region rfl ?_
  refine Rl.op (OpY.move (v := (Value.int .i64 i378)) rfl ?_)
  refine Rl.op (OpY.fieldAddr (q := 1) Try.underlying26 rfl ti24 rfl rfl rfl ?_)
  refine Rl.op (OpY.ldBox1 (v := x_v) Try.underlying24 rfl rfl (hL397.at 0 rfl rfl) rfl ?_)
  have f399 := (((x_h.mono (K4 S)).mono (K12 S)).mono (K398 S))
  refine Rl.op (OpY.lenRo (v := x_v) Try.underlying24 rfl f399 ?_)
  refine Rl.op (OpY.lss (x := i378) (y := (List.length x.Digits : Int)) ((i378 : Int) < (List.length x.Digits : Int)) rfl rfl Iff.rfl ?_)
  refine Rl.nil ?_
  refine Swp.cond_d ((i378 : Int) < (List.length x.Digits : Int)) rfl (fun hc400 => ?_) (fun hc400 => ?_)
  ·
   replace h := ite_t hc400 h
   refine Swp.skip ?_
   refine Swp.seq ?_
   refine Swp.block ?_
   obtain ⟨x401, q402, h⟩ := bind_some h
   obtain ⟨n403, q404, q405⟩ := idx_some q402
   obtain ⟨b406, o407, c408, vs409, q410, q411, f412, q413⟩ := Rs.get f399 q405
   obtain rfl := q413
   obtain ⟨x414, q415, h⟩ := bind_some h
   obtain ⟨n416, q417, q418⟩ := idx_some q415
   obtain ⟨b419, o420, c421, vs422, q423, q424, f425, q426⟩ := Rs.get f399 q418
   obtain rfl := q426
   refine Swp.drawL 16 [] [] (fun W1 => [.det (osv ob370 0 (List.length l374) cap371), .det (Value.pointer (some ⟨b1, 1, none⟩)), .det x_v, .det (Value.int .i64 i378), .det (Value.pointer (some ⟨b406, (o407 + n403 * (rInt .u32).sz), none⟩)), .det (Value.int .u32 x401), .det (Value.int .u32 (Int.tmod x401 65536)), .det (Value.int .i64 (iw (Int.tmod x401 65536))), .det (Value.pointer (some ⟨b1, 1, none⟩)), .det x_v, .det (Value.int .i64 i378), .det (Value.pointer (some ⟨b419, (o420 + n416 * (rInt .u32).sz), none⟩)), .det (Value.int .u32 x414), .det (Value.int .u32 (uw32 (Int.tdiv x414 65536))), .det (Value.int .i64 (iw (uw32 (Int.tdiv x414 65536)))), .rel (fun v Z w' => ∃ b427 cs434, (osv (some b427) 0 2 2) = v ∧ OwnC w' (some b427) (Cont.cells ([] ++ (cs434 ++ []))) ∧ Els (rInt .i64) (Zv W1 w.heap.size None [some b1, ob370] Z w') cs434 [(iw (Int.tmod x401 65536)), (iw (uw32 (Int.tdiv x414 65536)))] ∧ (cs434 ++ [] : List Value).length = 2 * (rInt .i64).sz ∧ True) footV]) mixed rfl rfl rfl (fun _ => rfl) (fun _ => rfl) ?_ ?_
   ·
    intro W1 _
    exact ⟨fun v Z Z' w w' hΦ hz _ _ hs => by obtain ⟨b427, cs434, rfl, hO431, hE432, hc433, -⟩ := hΦ; exact ⟨b427, cs434, rfl, (hO431.stay (fun b hb => by cases hb; exact List.mem_cons_self) hs), (hE432.mono (Zv.stay hz hs)), hc433, trivial⟩, trivial⟩
   ·
    intro w435 hE436
    have hL437 := hL397.ext hE436
    have K438 := Keep.ext (s := w.heap.size) (O := [some b1, ob370]) hE436
    refine DrH.det ?_ ?_
    ·
     rintro w439 Z440 hE441 hZ442 ⟨-⟩
     refine GOp.op (OpY.move (v := (osv ob370 0 (List.length l374) cap371)) rfl ?_)
     exact ⟨Ext.refl _, rfl⟩
    refine DrH.det ?_ ?_
    ·
     rintro w445 Z446 hE447 hZ448 ⟨-⟩
     refine GOp.op (OpY.fieldAddr (q := 1) Try.underlying26 rfl ti24 rfl rfl rfl ?_)
     exact ⟨Ext.refl _, rfl⟩
    refine DrH.det ?_ ?_
    ·
     rintro w451 Z452 hE453 hZ454 ⟨-⟩
     have hL455 := hL437.ext hE453
     refine GOp.op (OpY.ldBox1 (v := x_v) Try.underlying24 rfl rfl (hL455.at 0 rfl rfl) rfl ?_)
     exact ⟨Ext.refl _, rfl⟩
    refine DrH.det ?_ ?_
    ·
     rintro w457 Z458 hE459 hZ460 ⟨-⟩
     refine GOp.op (OpY.move (v := (Value.int .i64 i378)) rfl ?_)
     exact ⟨Ext.refl _, rfl⟩
    refine DrH.det ?_ ?_
    ·
     rintro w463 Z464 hE465 hZ466 ⟨-⟩
     refine GOp.op (OpY.ixRoD (r := (rInt .u32)) (v := x_v) (n := n403) (m := (o407 + n403 * (rInt .u32).sz)) Try.underlying24 ti89 rfl q410 rfl q404 q405 rfl ?_)
     exact ⟨Ext.refl _, rfl⟩
    refine DrH.det ?_ ?_
    ·
     rintro w469 Z470 hE471 hZ472 ⟨-⟩
     have K474 := Keep.ext (s := w.heap.size) (O := [some b1, ob370]) hE471
     refine GOp.op (OpY.ldRo1 (v := (Value.int .u32 x401)) Try.underlying89 rfl rfl vw_view (At.mono (K474 S) (At.mono (K438 S) f412)) ?_)
     exact ⟨Ext.refl _, rfl⟩
    refine DrH.det ?_ ?_
    ·
     rintro w475 Z476 hE477 hZ478 ⟨-⟩
     refine GOp.op (OpY.remI (x := x401) (y := 65536) rfl rfl (by decide) ?_)
     exact ⟨Ext.refl _, rfl⟩
    refine DrH.det ?_ ?_
    ·
     rintro w481 Z482 hE483 hZ484 ⟨-⟩
     refine GOp.op (OpY.convInt (x := (Int.tmod x401 65536)) (z := (iw (Int.tmod x401 65536))) Try.underlying89 Try.underlying3 rfl rfl ?_)
     exact ⟨Ext.refl _, rfl⟩
    refine DrH.det ?_ ?_
    ·
     rintro w487 Z488 hE489 hZ490 ⟨-⟩
     refine GOp.op (OpY.fieldAddr (q := 1) Try.underlying26 rfl ti24 rfl rfl rfl ?_)
     exact ⟨Ext.refl _, rfl⟩
    refine DrH.det ?_ ?_
    ·
     rintro w493 Z494 hE495 hZ496 ⟨-⟩
     have hL497 := hL437.ext hE495
     refine GOp.op (OpY.ldBox1 (v := x_v) Try.underlying24 rfl rfl (hL497.at 0 rfl rfl) rfl ?_)
     exact ⟨Ext.refl _, rfl⟩
    refine DrH.det ?_ ?_
    ·
     rintro w499 Z500 hE501 hZ502 ⟨-⟩
     refine GOp.op (OpY.move (v := (Value.int .i64 i378)) rfl ?_)
     exact ⟨Ext.refl _, rfl⟩
    refine DrH.det ?_ ?_
    ·
     rintro w505 Z506 hE507 hZ508 ⟨-⟩
     refine GOp.op (OpY.ixRoD (r := (rInt .u32)) (v := x_v) (n := n416) (m := (o420 + n416 * (rInt .u32).sz)) Try.underlying24 ti89 rfl q423 rfl q417 q418 rfl ?_)
     exact ⟨Ext.refl _, rfl⟩
    refine DrH.det ?_ ?_
    ·
     rintro w511 Z512 hE513 hZ514 ⟨-⟩
     have K516 := Keep.ext (s := w.heap.size) (O := [some b1, ob370]) hE513
     refine GOp.op (OpY.ldRo1 (v := (Value.int .u32 x414)) Try.underlying89 rfl rfl vw_view (At.mono (K516 S) (At.mono (K438 S) f425)) ?_)
     exact ⟨Ext.refl _, rfl⟩
    refine DrH.det ?_ ?_
    ·
     rintro w517 Z518 hE519 hZ520 ⟨-⟩
     refine GOp.op (OpY.quoI (x := x414) (y := 65536) (z := (uw32 (Int.tdiv x414 65536))) rfl rfl (by decide) rfl ?_)
     exact ⟨Ext.refl _, rfl⟩
    refine DrH.det ?_ ?_
    ·
     rintro w523 Z524 hE525 hZ526 ⟨-⟩
     refine GOp.op (OpY.convInt (x := (uw32 (Int.tdiv x414 65536))) (z := (iw (uw32 (Int.tdiv x414 65536)))) Try.underlying89 Try.underlying3 rfl rfl ?_)
     exact ⟨Ext.refl _, rfl⟩
    refine DrH.rel ?_ ?_
    ·
     rintro w529 Z530 hE531 hZ532 ⟨-⟩
     have hE428 : Els (rInt .i64) (Zv w435 w.heap.size None [some b1, ob370] Z530 w529) [(Value.int .i64 (iw (Int.tmod x401 65536))), (Value.int .i64 (iw (uw32 (Int.tdiv x414 65536))))] [(iw (Int.tmod x401 65536)), (iw (uw32 (Int.tdiv x414 65536)))] := (Els.cons (a := [(Value.int .i64 (iw (Int.tmod x401 65536)))]) rfl (Els.cons (a := [(Value.int .i64 (iw (uw32 (Int.tdiv x414 65536))))]) rfl Els.nil))
     refine GOp.op (OpY.litRow (r := (rInt .i64)) (vs := [(Value.int .i64 (iw (Int.tmod x401 65536))), (Value.int .i64 (iw (uw32 (Int.tdiv x414 65536))))]) (css := [[(Value.int .i64 (iw (Int.tmod x401 65536)))], [(Value.int .i64 (iw (uw32 (Int.tdiv x414 65536))))]]) (xs := [(iw (Int.tmod x401 65536)), (iw (uw32 (Int.tdiv x414 65536)))]) Try.underlying91 ti3 (Nat.le_of_ble_eq_true rfl) rfl rfl ⟨rfl, rfl, ⟨rfl, rfl, trivial⟩⟩ (Nat.le_of_ble_eq_true rfl) hE428 rfl (Go.X.Loc.begin0 w529) ?_)
     intro b427 w535 hc429 hL536 hS537
     have hN538 : NewOwn w529 w535 [some b427] [Cont.cells ([] ++ ([(Value.int .i64 (iw (Int.tmod x401 65536))), (Value.int .i64 (iw (uw32 (Int.tdiv x414 65536))))] ++ []))] := hL536.newOwn [0] rfl rfl rfl
     exact Made.ext hL536.done hZ532 hN538 (fun _ h => h) ⟨b427, [(Value.int .i64 (iw (Int.tmod x401 65536))), (Value.int .i64 (iw (uw32 (Int.tdiv x414 65536))))], rfl, hN538.2.2.1, (hE428.mono (Zv.grow hL536.done)), hc429, trivial⟩
    intro z15
    refine DrH.fin0 ?_
    rintro w539 Z540 hE541 hZ542 ⟨⟨⟨b427, cs434, rfl, hO431, hE432, hc433, -⟩, hB15⟩, -⟩ ap543
    have hB544 : ∀ b, some b ∈ ([some b427] : List (Option Nat)) → w435.heap.size ≤ b ∧ ¬ Z540 b := by
     intro b hb
     rcases List.mem_cons.1 hb with hb' | hb
     ·
      have := hB15 b (by rw [hb']; exact List.mem_cons_self); exact ⟨this.1, this.2.2⟩
     cases hb
    replace hE432 := hE432.mono (Zv.fin hL437 hZ542 hB544)
    have hN547 : NewOwn w435 w539 [some b427] [Cont.cells ([] ++ (cs434 ++ []))] := (NewOwn.cons NewOwn.nil hO431 (fun b hb => (hB544 b (by rw [← hb]; simp)).1) (fun b _ hb => by cases hb))
    have hp548 := hL437.adoptL hE541 hN547
    have hL545 : Go.X.Loc [] [] w w539 [some b427, some b1, ob370] [Cont.cells ([] ++ (cs434 ++ [])), Cont.cells [(Value.bool x.Negative), x_v], Cont.cells ([] ++ (cs373 ++ sp372))] := hp548.1
    have K546 := Keep.step (s := w.heap.size) hp548.2
    obtain ⟨x549, q550, h⟩ := bind_some h
    obtain ⟨q551, q552, q553⟩ := apnd_some q550
    have f561 := ((hE375.mono (K438 None)).mono (K546 None))
    refine Rl.op (OpY.apRowX (r := (rInt .i64)) (H := (Hv w.heap.size None [some b427, some b1, ob370] w539)) (cs := cs373) (sp := sp372) (xs := l374) (ys := [(iw (Int.tmod x401 65536)), (iw (uw32 (Int.tdiv x414 65536)))]) (Y := x549) (n := (List.length l374)) (cap := cap371) (i := 2) Try.underlying91 ti3 rfl rfl rfl rfl hL545 rfl rfl f561 rfl hc376 (Src.row (pre := []) (o := 0) (n := 2) (cap := 2) (hL545.at 0 rfl rfl) hE432 rfl rfl rfl) (Els.anyH (fun _ _ _ _ h => h) hE432) q551 q552 q553 ?_)
    intro ob554 cap555 sp557 cs556 w562 hE558 hc559 (hL563 : Go.X.Loc [] [] w w562 [some b427, some b1, ob554] [Cont.cells ([] ++ (cs434 ++ [])), Cont.cells [(Value.bool x.Negative), x_v], Cont.cells ([] ++ (cs556 ++ sp557))]) hS565
    have K564 := Keep.step (s := w.heap.size) hS565
    refine Rl.op (OpY.assign (v := (osv ob554 0 (List.length x549) cap555)) rfl ?_)
    refine Rl.nil ?_
    refine Swp.pop_blk ?_
    refine Swp.region rfl ?_
    refine Rl.op (OpY.move (v := (Value.int .i64 i378)) rfl ?_)
    refine Rl.op (OpY.add (x := i378) (y := 1) (z := (iw (i378 + 1))) rfl rfl rfl ?_)
    refine Rl.op (OpY.assign (v := (Value.int .i64 (iw (i378 + 1)))) rfl ?_)
    refine Rl.nil ?_
    have hp566 := hL563.pick [1, 2] rfl rfl rfl
    have hL568 : Go.X.Loc [] [] w w562 [some b1, ob554] [Cont.cells [(Value.bool x.Negative), x_v], Cont.cells ([] ++ (cs556 ++ sp557))] := hp566.1
    have K567 := Keep.step (s := w.heap.size) hp566.2
    have f569 := ((hE558.mono (K564 None)).mono (K567 None))
    obtain rfl := Option.some.inj h
    refine Swp.pop_back ⟨(x549, (iw (i378 + 1))), rfl, ?_⟩
    exact ⟨ob554, cap555, sp557, cs556, (List.length x549), _, (upds_sym ⟨rfl, ⟨rfl, ⟨rfl, trivial⟩⟩⟩), hL568, (Keep.trans (Keep.trans (Keep.trans (Keep.trans K398 K438) K546) K564) K567), f569, rfl, hc559, trivial⟩
  ·
   replace h := ite_f hc400 h
   refine Swp.exit rfl ?_
   have hp570 := hL397.pick [1] rfl rfl rfl
   have hL572 : Go.X.Loc [] [] w w396 [ob370] [Cont.cells ([] ++ (cs373 ++ sp372))] := hp570.1
   have K571 := Keep.step (s := w.heap.size) hp570.2
   have f573 := (hE375.mono (K571 None))
   obtain rfl := Option.some.inj h
   obtain rfl := hd391 _ rfl
   replace h := g389
   try dsimp only at h
   skip
   refine Swp.pop_back ?_
   exact ⟨l374, ob370, cap371, sp372, cs373, (List.length l374), _, rfl, (upds_sym ⟨rfl, trivial⟩), hL572, (Keep.trans K398 K571), f573, rfl, hc376, trivial⟩
 ·
  rintro _ w574 ⟨l384, ob380, cap381, sp382, cs383, ln387, u, rfl, rfl, hL575, K576, hE385, rfl, hc386, -⟩
  replace h := g389
  try dsimp only at h
  refine Swp.seq ?_
  refine Swp.region rfl ?_
  refine Rl.op (OpY.move (v := (osv ob380 0 (List.length l384) cap381)) rfl ?_)
  have f577 := hL575.freezeRow 0 rfl rfl hE385 rfl rfl rfl hc386
  have hp578 := hL575.pick [] rfl rfl rfl
  have hL580 : Go.X.Loc [] [] w w574 [] [] := hp578.1
  obtain ⟨r581, q582, h⟩ := bind_some h
  refine Rl.op (OpY.call en82 rfl rfl (rtrim_w N l384 (osv ob380 0 (List.length l384) cap381) _ _ (f577.mono Hv.enter) r581 q582) ?_)
  rintro _ w586 hE589 ⟨v583, rfl, k584, -⟩
  replace k584 := k584.mono (Hv.aliasO (S := None) hL580 [])
  have hL587 := hL580.ext hE589
  refine Rl.op (OpY.assign (v := v583) rfl ?_)
  refine Rl.nil ?_
  refine Swp.ret ?_
  obtain rfl := Option.some.inj h
  refine ⟨[v583], ⟨rfl, trivial⟩, ⟨_, rfl, hL587.done, ?_⟩⟩
  exact ⟨v583, rfl, (k584.mono Hv.out), trivial⟩
theorem rbig_w (N : Nat) (negative : Bool) (l : (List Int)) (l_v : Value) (w : World) (S : Nat → Prop) (l_h : Rs (rInt .i64) (Hv w.heap.size S [] w) l_v l) (r : Big) (h : rbig N negative l = some r) :
  Calls Try.prog 68 #[(Value.bool negative), l_v] w (Ret w (fun v w' => ∃ (v0_0 : Value), (Value.agg #[(Value.bool r.Negative), v0_0]) = v ∧ Rs (rInt .u32) (Hv w.heap.size None [] w') v0_0 r.Digits ∧ True)) := by
 unfold rbig at h
 have hL : Go.X.Loc [] [] w w [] [] := Go.X.Loc.begin0 w
 refine calls_of (l := [(Value.bool negative), l_v]) (rl := [.cell 4 26]) (n := 49) Try.func68 rfl rfl rfl (Nat.le_of_ble_eq_true rfl) ?_
 refine Swp.seq ?_
 refine Swp.region rfl ?_
 refine Rl.op (OpY.alloc (cs := [(Value.bool false), (Value.slice none 0 0)]) ti26 rfl hL ?_)
 intro b1 w2 (hL3 : Go.X.Loc [] [] w w2 [some b1] [Cont.cells [(Value.bool false), (Value.slice none 0 0)]]) hS5
 have K4 := Keep.step (s := w.heap.size) hS5
 refine Rl.nil ?_
 refine Swp.seq ?_
 refine Swp.region rfl ?_
 refine Rl.op (OpY.move (v := l_v) rfl ?_)
 obtain ⟨r6, q7, h⟩ := bind_some h
 have f11 := (l_h.mono (K4 S))
 refine Rl.op (OpY.call en82 rfl rfl (rtrim_w N l l_v _ _ (f11.mono Hv.enter) r6 q7) ?_)
 rintro _ w12 hE15 ⟨v8, rfl, k9, -⟩
 replace k9 := k9.mono (Hv.aliasO (S := S) hL3 [])
 have hL13 := hL3.ext hE15
 refine Rl.op (OpY.assign (v := v8) rfl ?_)
 refine Rl.nil ?_
 refine Swp.seq ?_
 obtain ⟨s39, h, g40⟩ := bind_some h
 refine Swp.join (fun e w' => ∃ (negative38 : Bool) (b37 : Nat) (u : Env), negative38 = s39 ∧ e = upds [(1, v8), (4, (Value.pointer (some ⟨b1, 0, none⟩))), (5, (Value.pointer (some ⟨b37, 0, none⟩)))] u ∧ Go.X.Loc [] [] w w' [some b1, some b37] [Cont.cells [(Value.bool false), (Value.slice none 0 0)], Cont.cells [(Value.bool negative38), (Value.slice none 0 0)]] ∧ Keep w.heap.size [some b1] w12 [some b1, some b37] w' ∧ True) ?_ ?_
 ·
  refine Swp.region rfl ?_
  refine Rl.op (OpY.move (v := (Value.bool negative)) rfl ?_)
  refine Rl.op (OpY.move (v := (Value.bool negative)) rfl ?_)
  by_cases hc41 : negative = true
  ·
   replace h := ite_t hc41 h
   refine Rl.yes (dj := 11) (b' := negative) rfl rfl hc41 (OpY.move (v := v8) rfl ?_)
   refine Rl.yes (dj := 11) (b' := negative) rfl rfl hc41 (OpY.lenRo (v := v8) Try.underlying91 rfl k9 ?_)
   refine Rl.yes (dj := 11) (b' := negative) rfl rfl hc41 (OpY.gtr (x := (List.length r6 : Int)) (y := 0) (((List.length r6 : Int) : Int) > 0) rfl rfl Iff.rfl ?_)
   refine Rl.op (OpY.pick_t (t := negative) (v := (Value.bool (decide (((List.length r6 : Int) : Int) > 0)))) rfl hc41 rfl ?_)
   refine Rl.op (OpY.build (zc := [(Value.bool false), (Value.slice none 0 0)]) (cs := [(Value.bool (decide (((List.length r6 : Int) : Int) > 0))), (Value.slice none 0 0)]) (is := [0]) (vs := [(Value.bool (decide (((List.length r6 : Int) : Int) > 0)))]) (css := [[(Value.bool (decide (((List.length r6 : Int) : Int) > 0)))]]) pl26 ti26 rfl rfl rfl ⟨rfl, trivial⟩ rfl ?_)
   refine Rl.op (OpY.alloc (cs := [(Value.bool false), (Value.slice none 0 0)]) ti26 rfl hL13 ?_)
   intro b42 w43 (hL44 : Go.X.Loc [] [] w w43 [some b42, some b1] [Cont.cells [(Value.bool false), (Value.slice none 0 0)], Cont.cells [(Value.bool false), (Value.slice none 0 0)]]) hS46
   have K45 := Keep.step (s := w.heap.size) hS46
   refine Rl.op0 (OpY.store (vs := [(Value.bool (decide (((List.length r6 : Int) : Int) > 0))), (Value.slice none 0 0)]) ti26 rfl rfl rfl rfl (ones_cons rfl (ones_cons rfl ones_nil)) hL44 0 rfl rfl (Nat.le_of_ble_eq_true rfl) ?_)
   intro w47 (hL48 : Go.X.Loc [] [] w w47 [some b42, some b1] [Cont.cells [(Value.bool (decide (((List.length r6 : Int) : Int) > 0))), (Value.slice none 0 0)], Cont.cells [(Value.bool false), (Value.slice none 0 0)]]) hS50
   have K49 := Keep.step (s := w.heap.size) hS50
   refine Rl.nil ?_
   have hp51 := hL48.pick [1, 0] rfl rfl rfl
   have hL53 : Go.X.Loc [] [] w w47 [some b1, some b42] [Cont.cells [(Value.bool false), (Value.slice none 0 0)], Cont.cells [(Value.bool (decide (((List.length r6 : Int) : Int) > 0))), (Value.slice none 0 0)]] := hp51.1
   have K52 := Keep.step (s := w.heap.size) hp51.2
   obtain rfl := Option.some.inj h
   refine Swp.pop_back ?_
   exact ⟨(decide (((List.length r6 : Int) : Int) > 0)), b42, _, rfl, (upds_sym ⟨rfl, ⟨rfl, ⟨rfl, trivial⟩⟩⟩), hL53, (Keep.trans (Keep.trans K45 K49) K52), trivial⟩
  ·
   replace h := ite_f hc41 h
   refine Rl.no (dj := 11) (b' := negative) rfl rfl (eq_false_of_ne_true hc41) ?_
   refine Rl.no (dj := 11) (b' := negative) rfl rfl (eq_false_of_ne_true hc41) ?_
   refine Rl.no (dj := 11) (b' := negative) rfl rfl (eq_false_of_ne_true hc41) ?_
   refine Rl.op (OpY.pick_f (t := negative) (v := (Value.bool false)) rfl (eq_false_of_ne_true hc41) rfl ?_)
   refine Rl.op (OpY.build (zc := [(Value.bool false), (Value.slice none 0 0)]) (cs := [(Value.bool false), (Value.slice none 0 0)]) (is := [0]) (vs := [(Value.bool false)]) (css := [[(Value.bool false)]]) pl26 ti26 rfl rfl rfl ⟨rfl, trivial⟩ rfl ?_)
   refine Rl.op (OpY.alloc (cs := [(Value.bool false), (Value.slice none 0 0)]) ti26 rfl hL13 ?_)
   intro b54 w55 (hL56 : Go.X.Loc [] [] w w55 [some b54, some b1] [Cont.cells [(Value.bool false), (Value.slice none 0 0)], Cont.cells [(Value.bool false), (Value.slice none 0 0)]]) hS58
   have K57 := Keep.step (s := w.heap.size) hS58
   refine Rl.op0 (OpY.store (vs := [(Value.bool false), (Value.slice none 0 0)]) ti26 rfl rfl rfl rfl (ones_cons rfl (ones_cons rfl ones_nil)) hL56 0 rfl rfl (Nat.le_of_ble_eq_true rfl) ?_)
   intro w59 (hL60 : Go.X.Loc [] [] w w59 [some b54, some b1] [Cont.cells [(Value.bool false), (Value.slice none 0 0)], Cont.cells [(Value.bool false), (Value.slice none 0 0)]]) hS62
   have K61 := Keep.step (s := w.heap.size) hS62
   refine Rl.nil ?_
   have hp63 := hL60.pick [1, 0] rfl rfl rfl
   have hL65 : Go.X.Loc [] [] w w59 [some b1, some b54] [Cont.cells [(Value.bool false), (Value.slice none 0 0)], Cont.cells [(Value.bool false), (Value.slice none 0 0)]] := hp63.1
   have K64 := Keep.step (s := w.heap.size) hp63.2
   obtain rfl := Option.some.inj h
   refine Swp.pop_back ?_
   exact ⟨false, b54, _, rfl, (upds_sym ⟨rfl, ⟨rfl, ⟨rfl, trivial⟩⟩⟩), hL65, (Keep.trans (Keep.trans K57 K61) K64), trivial⟩
 ·
  rintro _ w66 ⟨negative38, b37, u, rfl, rfl, hL67, K68, -⟩
  replace h := g40
  try dsimp only at h
  refine Swp.seq ?_
  refine Swp.seq ?_
  refine Swp.region rfl ?_
  refine Rl.op (OpY.assign (v := (Value.int .i64 0)) rfl ?_)
  refine Rl.nil ?_
  obtain ⟨s279, hl281, g280⟩ := bind_some h
  refine Swp.join (fun e w' => ∃ (digits275 : (List Int)) (ob271 : Option Nat) (cap272 : Nat) (sp273 : List Value) (cs274 : List Value) (ln278 : Nat) (u : Env), digits275 = s279 ∧ e = upds [(4, (Value.pointer (some ⟨b1, 0, none⟩))), (5, (Value.pointer (some ⟨b37, 0, none⟩)))] u ∧ Go.X.Loc [] [] w w' [some b1, some b37, ob271] [Cont.cells [(Value.bool false), (Value.slice none 0 0)], Cont.cells [(Value.bool negative38), (osv ob271 0 ln278 cap272)], Cont.cells ([] ++ (cs274 ++ sp273))] ∧ Keep w.heap.size [some b1, some b37] w66 [some b1, some b37, ob271] w' ∧ Els (rInt .u32) (Hv w.heap.size None [some b1, some b37, ob271] w') cs274 digits275 ∧ ln278 = List.length digits275 ∧ (cs274 ++ sp273).length = cap272 * (rInt .u32).sz ∧ True) ?_ ?_
  ·
   refine Swp.block ?_
   have hp283 := hL67.addNil
   have hL284 : Go.X.Loc [] [] w w66 [none, some b1, some b37] [Cont.cells ([] ++ ([] ++ [])), Cont.cells [(Value.bool false), (Value.slice none 0 0)], Cont.cells [(Value.bool negative38), (Value.slice none 0 0)]] := hp283.1
   have K285 := Keep.step (s := w.heap.size) hp283.2
   have hp287 := hL284.pick [1, 2, 0] rfl rfl rfl
   have hL289 : Go.X.Loc [] [] w w66 [some b1, some b37, none] [Cont.cells [(Value.bool false), (Value.slice none 0 0)], Cont.cells [(Value.bool negative38), (osv none 0 (List.length ([] : (List Int))) 0)], Cont.cells ([] ++ ([] ++ []))] := hp287.1
   have K288 := Keep.step (s := w.heap.size) hp287.2
   have f290 := ((Els.nil (r := (rInt .u32))).mono (K288 None))
   refine Swp.loopM hl281 (fun (ss : ((List Int) × Int)) (e : Env) (w' : World) => match ss with | (digits263, i267) => ∃ (ob259 : Option Nat) (cap260 : Nat) (sp261 : List Value) (cs262 : List Value) (ln266 : Nat) (u : Env), e = upds [(1, v8), (4, (Value.pointer (some ⟨b1, 0, none⟩))), (5, (Value.pointer (some ⟨b37, 0, none⟩))), (6, (Value.int .i64 i267))] u ∧ Go.X.Loc [] [] w w' [some b1, some b37, ob259] [Cont.cells [(Value.bool false), (Value.slice none 0 0)], Cont.cells [(Value.bool negative38), (osv ob259 0 ln266 cap260)], Cont.cells ([] ++ (cs262 ++ sp261))] ∧ Keep w.heap.size [some b1, some b37] w66 [some b1, some b37, ob259] w' ∧ Els (rInt .u32) (Hv w.heap.size None [some b1, some b37, ob259] w') cs262 digits263 ∧ ln266 = List.length digits263 ∧ (cs262 ++ sp261).length = cap260 * (rInt .u32).sz ∧ True) ⟨none, 0, [], [], (List.length ([] : (List Int))), _, (upds_sym ⟨rfl, ⟨rfl, ⟨rfl, ⟨rfl, trivial⟩⟩⟩⟩), hL289, (Keep.trans K285 K288), f290, rfl, (show ([] ++ [] : List Value).length = 0 * (rInt .u32).sz by simp), trivial⟩ ?_
   rintro ⟨digits263, i267⟩ oo _ w291 ⟨ob259, cap260, sp261, cs262, ln266, u, rfl, hL292, K293, hE264, rfl, hc265, -⟩ h hd282
   rw [rbig_b1] at h
   refine Swp.seq ?_
   refine Swp.seq ?_
   refine Swp.region rfl ?_
   refine Rl.op (OpY.move (v := (Value.int .i64 i267)) rfl ?_)
   refine Rl.op (OpY.move (v := v8) rfl ?_)
   have f294 := ((k9.mono (K68 S)).mono (K293 S))
   refine Rl.op (OpY.lenRo (v := v8) Try.underlying91 rfl f294 ?_)
   refine Rl.op (OpY.lss (x := i267) (y := (List.length r6 : Int)) ((i267 : Int) < (List.length r6 : Int)) rfl rfl Iff.rfl ?_)
   refine Rl.nil ?_
   refine Swp.cond_d ((i267 : Int) < (List.length r6 : Int)) rfl (fun hc295 => ?_) (fun hc295 => ?_)
   ·
    replace h := ite_t hc295 h
    refine Swp.skip ?_
    refine Swp.seq ?_
    refine Swp.block ?_
    refine Swp.seq ?_
    refine Swp.region rfl ?_
    refine Rl.op (OpY.move (v := v8) rfl ?_)
    refine Rl.op (OpY.move (v := (Value.int .i64 i267)) rfl ?_)
    obtain ⟨x296, q297, h⟩ := bind_some h
    obtain ⟨n298, q299, q300⟩ := idx_some q297
    obtain ⟨b301, o302, c303, vs304, q305, q306, f307, q308⟩ := Rs.get f294 q300
    obtain rfl := q308
    refine Rl.op (OpY.ixRoD (r := (rInt .i64)) (v := v8) (n := n298) (m := (o302 + n298 * (rInt .i64).sz)) Try.underlying91 ti3 rfl q305 rfl q299 q300 rfl ?_)
    refine Rl.op (OpY.ldRo1 (v := (Value.int .i64 x296)) Try.underlying3 rfl rfl vw_view f307 ?_)
    refine Rl.op (OpY.convInt (x := x296) (z := (uw32 x296)) Try.underlying3 Try.underlying89 rfl rfl ?_)
    refine Rl.op (OpY.assign (v := (Value.int .u32 (uw32 x296))) rfl ?_)
    refine Rl.nil ?_
    refine Swp.seq ?_
    refine Swp.seq ?_
    refine Swp.region rfl ?_
    refine Rl.op (OpY.move (v := (Value.int .i64 i267)) rfl ?_)
    refine Rl.op (OpY.add (x := i267) (y := 1) (z := (iw (i267 + 1))) rfl rfl rfl ?_)
    refine Rl.op (OpY.move (v := v8) rfl ?_)
    refine Rl.op (OpY.lenRo (v := v8) Try.underlying91 rfl f294 ?_)
    refine Rl.op (OpY.lss (x := (iw (i267 + 1))) (y := (List.length r6 : Int)) (((iw (i267 + 1)) : Int) < (List.length r6 : Int)) rfl rfl Iff.rfl ?_)
    refine Rl.nil ?_
    obtain ⟨s327, h, g328⟩ := bind_some h
    refine Swp.join (fun e w' => ∃ (d326 : Int) (u : Env), d326 = s327 ∧ e = upds [(1, v8), (4, (Value.pointer (some ⟨b1, 0, none⟩))), (5, (Value.pointer (some ⟨b37, 0, none⟩))), (6, (Value.int .i64 i267)), (7, (Value.int .u32 d326))] u ∧ Go.X.Loc [] [] w w' [some b1, some b37, ob259] [Cont.cells [(Value.bool false), (Value.slice none 0 0)], Cont.cells [(Value.bool negative38), (osv ob259 0 (List.length digits263) cap260)], Cont.cells ([] ++ (cs262 ++ sp261))] ∧ Keep w.heap.size [some b1, some b37, ob259] w291 [some b1, some b37, ob259] w' ∧ True) ?_ ?_
    ·
     refine Swp.cond_d (((iw (i267 + 1)) : Int) < (List.length r6 : Int)) rfl (fun hc329 => ?_) (fun hc329 => ?_)
     ·
      replace h := ite_t hc329 h
      refine Swp.region rfl ?_
      refine Rl.op (OpY.move (v := (Value.int .u32 (uw32 x296))) rfl ?_)
      refine Rl.op (OpY.move (v := v8) rfl ?_)
      refine Rl.op (OpY.move (v := (Value.int .i64 i267)) rfl ?_)
      refine Rl.op (OpY.add (x := i267) (y := 1) (z := (iw (i267 + 1))) rfl rfl rfl ?_)
      obtain ⟨x330, q331, h⟩ := bind_some h
      obtain ⟨n332, q333, q334⟩ := idx_some q331
      obtain ⟨b335, o336, c337, vs338, q339, q340, f341, q342⟩ := Rs.get f294 q334
      obtain rfl := q342
      refine Rl.op (OpY.ixRoD (r := (rInt .i64)) (v := v8) (n := n332) (m := (o336 + n332 * (rInt .i64).sz)) Try.underlying91 ti3 rfl q339 rfl q333 q334 rfl ?_)
      refine Rl.op (OpY.ldRo1 (v := (Value.int .i64 x330)) Try.underlying3 rfl rfl vw_view f341 ?_)
      refine Rl.op (OpY.convInt (x := x330) (z := (uw32 x330)) Try.underlying3 Try.underlying89 rfl rfl ?_)
      refine Rl.op (OpY.mul (x := 65536) (y := (uw32 x330)) (z := (uw32 (65536 * (uw32 x330)))) rfl rfl rfl ?_)
      refine Rl.op (OpY.add (x := (uw32 x296)) (y := (uw32 (65536 * (uw32 x330)))) (z := (uw32 ((uw32 x296) + (uw32 (65536 * (uw32 x330)))))) rfl rfl rfl ?_)
      refine Rl.op (OpY.assign (v := (Value.int .u32 (uw32 ((uw32 x296) + (uw32 (65536 * (uw32 x330))))))) rfl ?_)
      refine Rl.nil ?_
      obtain rfl := Option.some.inj h
      refine Swp.pop_back ?_
      exact ⟨(uw32 ((uw32 x296) + (uw32 (65536 * (uw32 x330))))), _, rfl, (upds_sym ⟨rfl, ⟨rfl, ⟨rfl, ⟨rfl, ⟨rfl, trivial⟩⟩⟩⟩⟩), hL292, Keep.refl, trivial⟩
     ·
      replace h := ite_f hc329 h
      refine Swp.skip ?_
      obtain rfl := Option.some.inj h
      refine Swp.pop_back ?_
      exact ⟨(uw32 x296), _, rfl, (upds_sym ⟨rfl, ⟨rfl, ⟨rfl, ⟨rfl, ⟨rfl, trivial⟩⟩⟩⟩⟩), hL292, Keep.refl, trivial⟩
    ·
     rintro _ w343 ⟨d326, u, rfl, rfl, hL344, K345, -⟩
     replace h := g328
     try dsimp only at h
     refine Swp.region rfl ?_
     refine Rl.op (OpY.fieldAddr (q := 1) Try.underlying26 rfl ti24 rfl rfl rfl ?_)
     refine Rl.op (OpY.ldBox1 (v := (osv ob259 0 (List.length digits263) cap260)) Try.underlying24 rfl rfl (hL344.at 1 rfl rfl) rfl ?_)
     refine Rl.op (OpY.move (v := (Value.int .u32 d326)) rfl ?_)
     have hE347 : Els (rInt .u32) (Hv w.heap.size None [some b1, some b37, ob259] w343) [(Value.int .u32 d326)] [d326] := (Els.cons (a := [(Value.int .u32 d326)]) rfl Els.nil)
     refine Rl.op (OpY.litRow (r := (rInt .u32)) (vs := [(Value.int .u32 d326)]) (css := [[(Value.int .u32 d326)]]) (xs := [d326]) Try.underlying24 ti89 (Nat.le_of_ble_eq_true rfl) rfl rfl ⟨rfl, rfl, trivial⟩ (Nat.le_of_ble_eq_true rfl) hE347 rfl hL344 ?_)
     intro b346 w350 hc348 (hL351 : Go.X.Loc [] [] w w350 [some b346, some b1, some b37, ob259] [Cont.cells ([] ++ ([(Value.int .u32 d326)] ++ [])), Cont.cells [(Value.bool false), (Value.slice none 0 0)], Cont.cells [(Value.bool negative38), (osv ob259 0 (List.length digits263) cap260)], Cont.cells ([] ++ (cs262 ++ sp261))]) hS353
     have K352 := Keep.step (s := w.heap.size) hS353
     obtain ⟨x354, q355, h⟩ := bind_some h
     obtain ⟨q356, q357, q358⟩ := apnd_some q355
     have f359 := (hE347.mono (K352 None))
     have f367 := ((hE264.mono (K345 None)).mono (K352 None))
     refine Rl.op (OpY.apRowX (r := (rInt .u32)) (H := (Hv w.heap.size None [some b346, some b1, some b37, ob259] w350)) (cs := cs262) (sp := sp261) (xs := digits263) (ys := [d326]) (Y := x354) (n := (List.length digits263)) (cap := cap260) (i := 3) Try.underlying24 ti89 rfl rfl rfl rfl hL351 rfl rfl f367 rfl hc265 (Src.row (pre := []) (o := 0) (n := 1) (cap := 1) (hL351.at 0 rfl rfl) f359 rfl rfl rfl) (Els.anyH (fun _ _ _ _ h => h) f359) q356 q357 q358 ?_)
     intro ob360 cap361 sp363 cs362 w368 hE364 hc365 (hL369 : Go.X.Loc [] [] w w368 [some b346, some b1, some b37, ob360] [Cont.cells ([] ++ ([(Value.int .u32 d326)] ++ [])), Cont.cells [(Value.bool false), (Value.slice none 0 0)], Cont.cells [(Value.bool negative38), (osv ob259 0 (List.length digits263) cap260)], Cont.cells ([] ++ (cs362 ++ sp363))]) hS371
     have K370 := Keep.step (s := w.heap.size) hS371
     refine Rl.op (OpY.fieldAddr (q := 1) Try.underlying26 rfl ti24 rfl rfl rfl ?_)
     refine Rl.op0 (OpY.store (vs := [(osv ob360 0 (List.length x354) cap361)]) ti24 rfl rfl (one_cells (osv_one _ _ _ _)) rfl (ones_cons (osv_one _ _ _ _) ones_nil) hL369 2 rfl rfl (Nat.le_of_ble_eq_true rfl) ?_)
     intro w372 (hL373 : Go.X.Loc [] [] w w372 [some b346, some b1, some b37, ob360] [Cont.cells ([] ++ ([(Value.int .u32 d326)] ++ [])), Cont.cells [(Value.bool false), (Value.slice none 0 0)], Cont.cells [(Value.bool negative38), (osv ob360 0 (List.length x354) cap361)], Cont.cells ([] ++ (cs362 ++ sp363))]) hS375
     have K374 := Keep.step (s := w.heap.size) hS375
     refine Rl.nil ?_
     refine Swp.pop_blk ?_
     refine Swp.region rfl ?_
     refine Rl.op (OpY.move (v := (Value.int .i64 i267)) rfl ?_)
     refine Rl.op (OpY.add (x := i267) (y := 2) (z := (iw (i267 + 2))) rfl rfl rfl ?_)
     refine Rl.op (OpY.assign (v := (Value.int .i64 (iw (i267 + 2)))) rfl ?_)
     refine Rl.nil ?_
     have hp376 := hL373.pick [1, 2, 3] rfl rfl rfl
     have hL378 : Go.X.Loc [] [] w w372 [some b1, some b37, ob360] [Cont.cells [(Value.bool false), (Value.slice none 0 0)], Cont.cells [(Value.bool negative38), (osv ob360 0 (List.length x354) cap361)], Cont.cells ([] ++ (cs362 ++ sp363))] := hp376.1
     have K377 := Keep.step (s := w.heap.size) hp376.2
     have f379 := (((hE364.mono (K370 None)).mono (K374 None)).mono (K377 None))
     obtain rfl := Option.some.inj h
     refine Swp.pop_back ⟨(x354, (iw (i267 + 2))), rfl, ?_⟩
     exact ⟨ob360, cap361, sp363, cs362, (List.length x354), _, (upds_sym ⟨rfl, ⟨rfl, ⟨rfl, ⟨rfl, trivial⟩⟩⟩⟩), hL378, (Keep.trans (Keep.trans (Keep.trans (Keep.trans (Keep.trans K293 K345) K352) K370) K374) K377), f379, rfl, hc365, trivial⟩
   ·
    replace h := ite_f hc295 h
    refine Swp.exit rfl ?_
    obtain rfl := Option.some.inj h
    obtain rfl := hd282 _ rfl
    replace h := g280
    try dsimp only at h
    skip
    refine Swp.pop_back ?_
    exact ⟨digits263, ob259, cap260, sp261, cs262, (List.length digits263), _, rfl, (upds_sym ⟨rfl, ⟨rfl, trivial⟩⟩), hL292, K293, hE264, rfl, hc265, trivial⟩
  ·
   rintro _ w380 ⟨digits275, ob271, cap272, sp273, cs274, ln278, u, rfl, rfl, hL381, K382, hE276, rfl, hc277, -⟩
   replace h := g280
   try dsimp only at h
   refine Swp.seq ?_
   refine Swp.region rfl ?_
   refine Rl.op (OpY.ldBoxA (vs := [(Value.bool negative38), (osv ob271 0 (List.length digits275) cap272)]) Try.underlying26 rfl ti26 rfl (hL381.at 1 rfl rfl) rfl rfl ?_)
   refine Rl.op0 (OpY.store (vs := [(Value.bool negative38), (osv ob271 0 (List.length digits275) cap272)]) ti26 rfl rfl rfl rfl (ones_cons rfl (ones_cons (osv_one _ _ _ _) ones_nil)) hL381 0 rfl rfl (Nat.le_of_ble_eq_true rfl) ?_)
   intro w383 (hL384 : Go.X.Loc [] [] w w383 [some b1, some b37, ob271] [Cont.cells [(Value.bool negative38), (osv ob271 0 (List.length digits275) cap272)], Cont.cells [(Value.bool negative38), (osv ob271 0 (List.length digits275) cap272)], Cont.cells ([] ++ (cs274 ++ sp273))]) hS386
   have K385 := Keep.step (s := w.heap.size) hS386
   refine Rl.nil ?_
   have f388 := (hE276.mono (K385 None))
   have f387 := hL384.freezeRow 2 rfl rfl f388 rfl rfl rfl hc277
   have hp389 := hL384.pick [0, 1] rfl rfl rfl
   have hL391 : Go.X.Loc [] [] w w383 [some b1, some b37] [Cont.cells [(Value.bool negative38), (osv ob271 0 (List.length digits275) cap272)], Cont.cells [(Value.bool negative38), (osv ob271 0 (List.length digits275) cap272)]] := hp389.1
   refine Swp.ret ?_
   obtain rfl := Option.some.inj h
   refine ⟨[(Value.agg #[(Value.bool negative38), (osv ob271 0 (List.length digits275) cap272)])], ⟨⟨⟨b1, 0, none⟩, rfl, res_boxA Try.underlying26 rfl ti26 (hL391.at 0 rfl rfl) rfl⟩, trivial⟩, ⟨_, rfl, hL391.done, ?_⟩⟩
   exact ⟨(osv ob271 0 (List.length digits275) cap272), rfl, (f387.mono Hv.out), trivial⟩
theorem rorder_w (N : Nat) (a : (List Int)) (b : (List Int)) (a_v : Value) (b_v : Value) (w : World) (S : Nat → Prop) (a_h : Rs (rInt .i64) (Hv w.heap.size S [] w) a_v a) (b_h : Rs (rInt .i64) (Hv w.heap.size S [] w) b_v b) (r : Int) (h : rorder N a b = some r) :
  Calls Try.prog 64 #[a_v, b_v] w (Ret w (fun v w' => (Value.int .i64 r) = v ∧ True)) := by
 unfold rorder at h
 have hL : Go.X.Loc [] [] w w [] [] := Go.X.Loc.begin0 w
 refine calls_of (l := [a_v, b_v]) (rl := [.tmp 4]) (n := 41) Try.func64 rfl rfl rfl (Nat.le_of_ble_eq_true rfl) ?_
 refine Swp.seq ?_
 refine Swp.region rfl ?_
 refine Rl.op (OpY.assign (v := (Value.int .i64 0)) rfl ?_)
 refine Rl.nil ?_
 refine Swp.seq ?_
 refine Swp.seq ?_
 refine Swp.region rfl ?_
 refine Rl.op (OpY.move (v := a_v) rfl ?_)
 refine Rl.op (OpY.lenRo (v := a_v) Try.underlying91 rfl a_h ?_)
 refine Rl.op (OpY.move (v := b_v) rfl ?_)
 refine Rl.op (OpY.lenRo (v := b_v) Try.underlying91 rfl b_h ?_)
 refine Rl.op (OpY.neq (x := (List.length a : Int)) (y := (List.length b : Int)) (((List.length a : Int) : Int) ≠ (List.length b : Int)) rfl rfl Iff.rfl ?_)
 refine Rl.nil ?_
 refine Swp.cond_d (((List.length a : Int) : Int) ≠ (List.length b : Int)) rfl (fun hc1 => ?_) (fun hc1 => ?_)
 ·
  replace h := ite_t hc1 h
  refine Swp.seq ?_
  refine Swp.seq ?_
  refine Swp.region rfl ?_
  refine Rl.op (OpY.move (v := a_v) rfl ?_)
  refine Rl.op (OpY.lenRo (v := a_v) Try.underlying91 rfl a_h ?_)
  refine Rl.op (OpY.move (v := b_v) rfl ?_)
  refine Rl.op (OpY.lenRo (v := b_v) Try.underlying91 rfl b_h ?_)
  refine Rl.op (OpY.lss (x := (List.length a : Int)) (y := (List.length b : Int)) (((List.length a : Int) : Int) < (List.length b : Int)) rfl rfl Iff.rfl ?_)
  refine Rl.nil ?_
  refine Swp.cond_d (((List.length a : Int) : Int) < (List.length b : Int)) rfl (fun hc2 => ?_) (fun hc2 => ?_)
  ·
   replace h := ite_t hc2 h
   refine Swp.seq ?_
   refine Swp.region rfl ?_
   refine Rl.op (OpY.assign (v := (Value.int .i64 (-1))) rfl ?_)
   refine Rl.nil ?_
   refine Swp.ret ?_
   obtain rfl := Option.some.inj h
   refine ⟨[(Value.int .i64 (-1))], ⟨rfl, trivial⟩, ⟨_, rfl, hL.done, ?_⟩⟩
   exact ⟨rfl, trivial⟩
  ·
   replace h := ite_f hc2 h
   refine Swp.skip ?_
   refine Swp.seq ?_
   refine Swp.region rfl ?_
   refine Rl.op (OpY.assign (v := (Value.int .i64 1)) rfl ?_)
   refine Rl.nil ?_
   refine Swp.ret ?_
   obtain rfl := Option.some.inj h
   refine ⟨[(Value.int .i64 1)], ⟨rfl, trivial⟩, ⟨_, rfl, hL.done, ?_⟩⟩
   exact ⟨rfl, trivial⟩
 ·
  replace h := ite_f hc1 h
  refine Swp.skip ?_
  refine Swp.seq ?_
  refine Swp.seq ?_
  refine Swp.region rfl ?_
  refine Rl.op (OpY.move (v := a_v) rfl ?_)
  refine Rl.op (OpY.lenRo (v := a_v) Try.underlying91 rfl a_h ?_)
  refine Rl.op (OpY.sub (x := (List.length a : Int)) (y := 1) (z := (iw ((List.length a : Int) - 1))) rfl rfl rfl ?_)
  refine Rl.op (OpY.assign (v := (Value.int .i64 (iw ((List.length a : Int) - 1)))) rfl ?_)
  refine Rl.nil ?_
  obtain ⟨s369, hl371, g370⟩ := bind_some h
  refine Swp.join (fun e w' => ∃  (u : Env), (Sum.inl ()) = s369 ∧ e = upds [] u ∧ Go.X.Loc [] [] w w' [] [] ∧ Keep w.heap.size [] w [] w' ∧ True) ?_ ?_
  ·
   refine Swp.block ?_
   refine Swp.loopM hl371 (fun (ss : Int) (e : Env) (w' : World) => match ss with | i368 => ∃ (u : Env), e = upds [(0, a_v), (1, b_v), (5, (Value.int .i64 i368))] u ∧ Go.X.Loc [] [] w w' [] [] ∧ Keep w.heap.size [] w [] w' ∧ True) ⟨_, (upds_sym ⟨rfl, ⟨rfl, ⟨rfl, trivial⟩⟩⟩), hL, Keep.refl, trivial⟩ ?_
   rintro i368 oo _ w373 ⟨u, rfl, hL374, K375, -⟩ h hd372
   rw [rorder_b1] at h
   refine Swp.seq ?_
   refine Swp.seq ?_
   refine Swp.region rfl ?_
   refine Rl.op (OpY.move (v := (Value.int .i64 i368)) rfl ?_)
   refine Rl.op (OpY.geq (x := i368) (y := 0) ((i368 : Int) ≥ 0) rfl rfl Iff.rfl ?_)
   refine Rl.nil ?_
   refine Swp.cond_d ((i368 : Int) ≥ 0) rfl (fun hc376 => ?_) (fun hc376 => ?_)
   ·
    replace h := ite_t hc376 h
    refine Swp.skip ?_
    refine Swp.seq ?_
    refine Swp.block ?_
    refine Swp.seq ?_
    refine Swp.seq ?_
    obtain ⟨x377, q378, h⟩ := bind_some h
    obtain ⟨n379, q380, q381⟩ := idx_some q378
    have f390 := (a_h.mono (K375 S))
    obtain ⟨b382, o383, c384, vs385, q386, q387, f388, q389⟩ := Rs.get f390 q381
    obtain rfl := q389
    obtain ⟨x391, q392, h⟩ := bind_some h
    obtain ⟨n393, q394, q395⟩ := idx_some q392
    have f404 := (b_h.mono (K375 S))
    obtain ⟨b396, o397, c398, vs399, q400, q401, f402, q403⟩ := Rs.get f404 q395
    obtain rfl := q403
    refine Swp.drawL 8 [] [] (fun W1 => [.det a_v, .det (Value.int .i64 i368), .det (Value.pointer (some ⟨b382, (o383 + n379 * (rInt .i64).sz), none⟩)), .det (Value.int .i64 x377), .det b_v, .det (Value.int .i64 i368), .det (Value.pointer (some ⟨b396, (o397 + n393 * (rInt .i64).sz), none⟩)), .det (Value.int .i64 x391)]) mixed rfl rfl rfl (fun _ => rfl) (fun _ => rfl) ?_ ?_
    ·
     intro W1 _
     exact trivial
    ·
     intro w405 hE406
     have hL407 := hL374.ext hE406
     have K408 := Keep.ext (s := w.heap.size) (O := []) hE406
     refine DrH.det ?_ ?_
     ·
      rintro w409 Z410 hE411 hZ412 ⟨-⟩
      refine GOp.op (OpY.move (v := a_v) rfl ?_)
      exact ⟨Ext.refl _, rfl⟩
     refine DrH.det ?_ ?_
     ·
      rintro w415 Z416 hE417 hZ418 ⟨-⟩
      refine GOp.op (OpY.move (v := (Value.int .i64 i368)) rfl ?_)
      exact ⟨Ext.refl _, rfl⟩
     refine DrH.det ?_ ?_
     ·
      rintro w421 Z422 hE423 hZ424 ⟨-⟩
      refine GOp.op (OpY.ixRoD (r := (rInt .i64)) (v := a_v) (n := n379) (m := (o383 + n379 * (rInt .i64).sz)) Try.underlying91 ti3 rfl q386 rfl q380 q381 rfl ?_)
      exact ⟨Ext.refl _, rfl⟩
     refine DrH.det ?_ ?_
     ·
      rintro w427 Z428 hE429 hZ430 ⟨-⟩
      have K432 := Keep.ext (s := w.heap.size) (O := []) hE429
      refine GOp.op (OpY.ldRo1 (v := (Value.int .i64 x377)) Try.underlying3 rfl rfl vw_view (At.mono (K432 S) (At.mono (K408 S) f388)) ?_)
      exact ⟨Ext.refl _, rfl⟩
     refine DrH.det ?_ ?_
     ·
      rintro w433 Z434 hE435 hZ436 ⟨-⟩
      refine GOp.op (OpY.move (v := b_v) rfl ?_)
      exact ⟨Ext.refl _, rfl⟩
     refine DrH.det ?_ ?_
     ·
      rintro w439 Z440 hE441 hZ442 ⟨-⟩
      refine GOp.op (OpY.move (v := (Value.int .i64 i368)) rfl ?_)
      exact ⟨Ext.refl _, rfl⟩
     refine DrH.det ?_ ?_
     ·
      rintro w445 Z446 hE447 hZ448 ⟨-⟩
      refine GOp.op (OpY.ixRoD (r := (rInt .i64)) (v := b_v) (n := n393) (m := (o397 + n393 * (rInt .i64).sz)) Try.underlying91 ti3 rfl q400 rfl q394 q395 rfl ?_)
      exact ⟨Ext.refl _, rfl⟩
     refine DrH.det ?_ ?_
     ·
      rintro w451 Z452 hE453 hZ454 ⟨-⟩
      have K456 := Keep.ext (s := w.heap.size) (O := []) hE453
      refine GOp.op (OpY.ldRo1 (v := (Value.int .i64 x391)) Try.underlying3 rfl rfl vw_view (At.mono (K456 S) (At.mono (K408 S) f402)) ?_)
      exact ⟨Ext.refl _, rfl⟩
     refine DrH.fin0 ?_
     rintro w457 Z458 hE459 hZ460 ⟨-⟩ ap461
     have hB462 : ∀ b, some b ∈ ([] : List (Option Nat)) → w405.heap.size ≤ b ∧ ¬ Z458 b := by
      intro b hb; cases hb
     have hL463 := hL407.ext hE459
     have K464 := Keep.ext (s := w.heap.size) (O := []) hE459
     refine Rl.op (OpY.lss (x := x377) (y := x391) ((x377 : Int) < x391) rfl rfl Iff.rfl ?_)
     refine Rl.nil ?_
     refine Swp.cond_d ((x377 : Int) < x391) rfl (fun hc465 => ?_) (fun hc465 => ?_)
     ·
      replace h := ite_t hc465 h
      refine Swp.seq ?_
      refine Swp.region rfl ?_
      refine Rl.op (OpY.assign (v := (Value.int .i64 (-1))) rfl ?_)
      refine Rl.nil ?_
      refine Swp.ret ?_
      obtain rfl := Option.some.inj h
      obtain rfl := hd372 _ rfl
      replace h := g370
      try dsimp only at h
      obtain rfl := Option.some.inj h
      refine ⟨[(Value.int .i64 (-1))], ⟨rfl, trivial⟩, ⟨_, rfl, hL463.done, ?_⟩⟩
      exact ⟨rfl, trivial⟩
     ·
      replace h := ite_f hc465 h
      refine Swp.skip ?_
      refine Swp.seq ?_
      obtain ⟨x466, q467, h⟩ := bind_some h
      obtain ⟨n468, q469, q470⟩ := idx_some q467
      have f479 := ((f390.mono (K408 S)).mono (K464 S))
      obtain ⟨b471, o472, c473, vs474, q475, q476, f477, q478⟩ := Rs.get f479 q470
      obtain rfl := q478
      obtain ⟨x480, q481, h⟩ := bind_some h
      obtain ⟨n482, q483, q484⟩ := idx_some q481
      have f493 := ((f404.mono (K408 S)).mono (K464 S))
      obtain ⟨b485, o486, c487, vs488, q489, q490, f491, q492⟩ := Rs.get f493 q484
      obtain rfl := q492
      refine Swp.drawL 8 [] [] (fun W1 => [.det a_v, .det (Value.int .i64 i368), .det (Value.pointer (some ⟨b471, (o472 + n468 * (rInt .i64).sz), none⟩)), .det (Value.int .i64 x466), .det b_v, .det (Value.int .i64 i368), .det (Value.pointer (some ⟨b485, (o486 + n482 * (rInt .i64).sz), none⟩)), .det (Value.int .i64 x480)]) mixed rfl rfl rfl (fun _ => rfl) (fun _ => rfl) ?_ ?_
      ·
       intro W1 _
       exact trivial
      ·
       intro w494 hE495
       have hL496 := hL463.ext hE495
       have K497 := Keep.ext (s := w.heap.size) (O := []) hE495
       refine DrH.det ?_ ?_
       ·
        rintro w498 Z499 hE500 hZ501 ⟨-⟩
        refine GOp.op (OpY.move (v := a_v) rfl ?_)
        exact ⟨Ext.refl _, rfl⟩
       refine DrH.det ?_ ?_
       ·
        rintro w504 Z505 hE506 hZ507 ⟨-⟩
        refine GOp.op (OpY.move (v := (Value.int .i64 i368)) rfl ?_)
        exact ⟨Ext.refl _, rfl⟩
       refine DrH.det ?_ ?_
       ·
        rintro w510 Z511 hE512 hZ513 ⟨-⟩
        refine GOp.op (OpY.ixRoD (r := (rInt .i64)) (v := a_v) (n := n468) (m := (o472 + n468 * (rInt .i64).sz)) Try.underlying91 ti3 rfl q475 rfl q469 q470 rfl ?_)
        exact ⟨Ext.refl _, rfl⟩
       refine DrH.det ?_ ?_
       ·
        rintro w516 Z517 hE518 hZ519 ⟨-⟩
        have K521 := Keep.ext (s := w.heap.size) (O := []) hE518
        refine GOp.op (OpY.ldRo1 (v := (Value.int .i64 x466)) Try.underlying3 rfl rfl vw_view (At.mono (K521 S) (At.mono (K497 S) f477)) ?_)
        exact ⟨Ext.refl _, rfl⟩
       refine DrH.det ?_ ?_
       ·
        rintro w522 Z523 hE524 hZ525 ⟨-⟩
        refine GOp.op (OpY.move (v := b_v) rfl ?_)
        exact ⟨Ext.refl _, rfl⟩
       refine DrH.det ?_ ?_
       ·
        rintro w528 Z529 hE530 hZ531 ⟨-⟩
        refine GOp.op (OpY.move (v := (Value.int .i64 i368)) rfl ?_)
        exact ⟨Ext.refl _, rfl⟩
       refine DrH.det ?_ ?_
       ·
        rintro w534 Z535 hE536 hZ537 ⟨-⟩
        refine GOp.op (OpY.ixRoD (r := (rInt .i64)) (v := b_v) (n := n482) (m := (o486 + n482 * (rInt .i64).sz)) Try.underlying91 ti3 rfl q489 rfl q483 q484 rfl ?_)
        exact ⟨Ext.refl _, rfl⟩
       refine DrH.det ?_ ?_
       ·
        rintro w540 Z541 hE542 hZ543 ⟨-⟩
        have K545 := Keep.ext (s := w.heap.size) (O := []) hE542
        refine GOp.op (OpY.ldRo1 (v := (Value.int .i64 x480)) Try.underlying3 rfl rfl vw_view (At.mono (K545 S) (At.mono (K497 S) f491)) ?_)
        exact ⟨Ext.refl _, rfl⟩
       refine DrH.fin0 ?_
       rintro w546 Z547 hE548 hZ549 ⟨-⟩ ap550
       have hB551 : ∀ b, some b ∈ ([] : List (Option Nat)) → w494.heap.size ≤ b ∧ ¬ Z547 b := by
        intro b hb; cases hb
       have hL552 := hL496.ext hE548
       have K553 := Keep.ext (s := w.heap.size) (O := []) hE548
       refine Rl.op (OpY.gtr (x := x466) (y := x480) ((x466 : Int) > x480) rfl rfl Iff.rfl ?_)
       refine Rl.nil ?_
       refine Swp.cond_d ((x466 : Int) > x480) rfl (fun hc554 => ?_) (fun hc554 => ?_)
       ·
        replace h := ite_t hc554 h
        refine Swp.seq ?_
        refine Swp.region rfl ?_
        refine Rl.op (OpY.assign (v := (Value.int .i64 1)) rfl ?_)
        refine Rl.nil ?_
        refine Swp.ret ?_
        obtain rfl := Option.some.inj h
        obtain rfl := hd372 _ rfl
        replace h := g370
        try dsimp only at h
        obtain rfl := Option.some.inj h
        refine ⟨[(Value.int .i64 1)], ⟨rfl, trivial⟩, ⟨_, rfl, hL552.done, ?_⟩⟩
        exact ⟨rfl, trivial⟩
       ·
        replace h := ite_f hc554 h
        refine Swp.skip ?_
        refine Swp.pop_blk ?_
        refine Swp.region rfl ?_
        refine Rl.op (OpY.move (v := (Value.int .i64 i368)) rfl ?_)
        refine Rl.op (OpY.sub (x := i368) (y := 1) (z := (iw (i368 - 1))) rfl rfl rfl ?_)
        refine Rl.op (OpY.assign (v := (Value.int .i64 (iw (i368 - 1)))) rfl ?_)
        refine Rl.nil ?_
        obtain rfl := Option.some.inj h
        refine Swp.pop_back ⟨(iw (i368 - 1)), rfl, ?_⟩
        exact ⟨_, (upds_sym ⟨rfl, ⟨rfl, ⟨rfl, trivial⟩⟩⟩), hL552, (Keep.trans (Keep.trans (Keep.trans (Keep.trans K375 K408) K464) K497) K553), trivial⟩
   ·
    replace h := ite_f hc376 h
    refine Swp.exit rfl ?_
    obtain rfl := Option.some.inj h
    obtain rfl := hd372 _ rfl
    replace h := g370
    try dsimp only at h
    skip
    refine Swp.pop_back ?_
    exact ⟨_, rfl, (upds_sym trivial), hL374, K375, trivial⟩
  ·
   rintro _ w555 ⟨u, rfl, rfl, hL556, K557, -⟩
   replace h := g370
   try dsimp only at h
   refine Swp.seq ?_
   refine Swp.region rfl ?_
   refine Rl.op (OpY.assign (v := (Value.int .i64 0)) rfl ?_)
   refine Rl.nil ?_
   refine Swp.ret ?_
   obtain rfl := Option.some.inj h
   refine ⟨[(Value.int .i64 0)], ⟨rfl, trivial⟩, ⟨_, rfl, hL556.done, ?_⟩⟩
   exact ⟨rfl, trivial⟩
theorem rplus_w (N : Nat) (a : (List Int)) (b : (List Int)) (a_v : Value) (b_v : Value) (w : World) (S : Nat → Prop) (a_h : Rs (rInt .i64) (Hv w.heap.size S [] w) a_v a) (b_h : Rs (rInt .i64) (Hv w.heap.size S [] w) b_v b) (r : (List Int)) (h : rplus N a b = some r) :
  Calls Try.prog 69 #[a_v, b_v] w (Ret w (fun v w' => ∃ (v0_0 : Value), v0_0 = v ∧ Rs (rInt .i64) (Hv w.heap.size None [] w') v0_0 r ∧ True)) := by
 unfold rplus at h
 have hL : Go.X.Loc [] [] w w [] [] := Go.X.Loc.begin0 w
 refine calls_of (l := [a_v, b_v]) (rl := [.tmp 4]) (n := 54) Try.func69 rfl rfl rfl (Nat.le_of_ble_eq_true rfl) ?_
 refine Swp.seq ?_
 refine Swp.region rfl ?_
 refine Rl.op (OpY.assign (v := (Value.slice none 0 0)) rfl ?_)
 refine Rl.nil ?_
 refine Swp.seq ?_
 refine Swp.region rfl ?_
 refine Rl.op (OpY.litRow0 Try.underlying91 ti3 hL ?_)
 intro b1 w5 (hL6 : Go.X.Loc [] [] w w5 [some b1] [Cont.cells ([] ++ ([] ++ []))]) hS8
 have hE9 : Els (rInt .i64) (Hv w.heap.size None [] w) [] [] := Els.nil
 have K7 := Keep.step (s := w.heap.size) hS8
 refine Rl.op (OpY.assign (v := (osv (some b1) 0 (List.length ([] : (List Int))) 0)) rfl ?_)
 refine Rl.nil ?_
 refine Swp.seq ?_
 refine Swp.region rfl ?_
 refine Rl.op (OpY.assign (v := (Value.int .i64 0)) rfl ?_)
 refine Rl.nil ?_
 refine Swp.seq ?_
 refine Swp.seq ?_
 refine Swp.region rfl ?_
 refine Rl.op (OpY.assign (v := (Value.int .i64 0)) rfl ?_)
 refine Rl.nil ?_
 obtain ⟨s276, hl278, g277⟩ := bind_some h
 refine Swp.join (fun e w' => ∃ (out272 : (List Int)) (ob268 : Option Nat) (cap269 : Nat) (sp270 : List Value) (cs271 : List Value) (ln275 : Nat) (u : Env), out272 = s276 ∧ e = upds [(5, (osv ob268 0 ln275 cap269))] u ∧ Go.X.Loc [] [] w w' [ob268] [Cont.cells ([] ++ (cs271 ++ sp270))] ∧ Keep w.heap.size [some b1] w5 [ob268] w' ∧ Els (rInt .i64) (Hv w.heap.size None [ob268] w') cs271 out272 ∧ ln275 = List.length out272 ∧ (cs271 ++ sp270).length = cap269 * (rInt .i64).sz ∧ True) ?_ ?_
 ·
  refine Swp.block ?_
  have f280 := (hE9.mono (K7 None))
  refine Swp.loopM hl278 (fun (ss : ((List Int) × Int × Int)) (e : Env) (w' : World) => match ss with | (out261, carry265, i266) => ∃ (ob257 : Option Nat) (cap258 : Nat) (sp259 : List Value) (cs260 : List Value) (ln264 : Nat) (u : Env), e = upds [(0, a_v), (1, b_v), (5, (osv ob257 0 ln264 cap258)), (6, (Value.int .i64 carry265)), (7, (Value.int .i64 i266))] u ∧ Go.X.Loc [] [] w w' [ob257] [Cont.cells ([] ++ (cs260 ++ sp259))] ∧ Keep w.heap.size [some b1] w5 [ob257] w' ∧ Els (rInt .i64) (Hv w.heap.size None [ob257] w') cs260 out261 ∧ ln264 = List.length out261 ∧ (cs260 ++ sp259).length = cap258 * (rInt .i64).sz ∧ True) ⟨some b1, 0, [], [], (List.length ([] : (List Int))), _, (upds_sym ⟨rfl, ⟨rfl, ⟨rfl, ⟨rfl, ⟨rfl, trivial⟩⟩⟩⟩⟩), hL6, Keep.refl, f280, rfl, (show ([] ++ [] : List Value).length = 0 * (rInt .i64).sz by simp), trivial⟩ ?_
  rintro ⟨out261, carry265, i266⟩ oo _ w281 ⟨ob257, cap258, sp259, cs260, ln264, u, rfl, hL282, K283, hE262, rfl, hc263, -⟩ h hd279
  rw [rplus_b1] at h
  refine Swp.seq ?_
  refine Swp.seq ?_
  obtain ⟨s290, h, g291⟩ := bind_some h
  refine Swp.join (fun e w' => ∃ (x289 : Bool) (u : Env), x289 = s290 ∧ e = upds [(0, a_v), (1, b_v), (5, (osv ob257 0 (List.length out261) cap258)), (6, (Value.int .i64 carry265)), (7, (Value.int .i64 i266)), (22, (Value.bool x289))] u ∧ Go.X.Loc [] [] w w' [ob257] [Cont.cells ([] ++ (cs260 ++ sp259))] ∧ Keep w.heap.size [ob257] w281 [ob257] w' ∧ True) ?_ ?_
  ·
   refine Swp.region rfl ?_
   refine Rl.op (OpY.move (v := (Value.int .i64 i266)) rfl ?_)
   refine Rl.op (OpY.move (v := a_v) rfl ?_)
   have f292 := ((a_h.mono (K7 S)).mono (K283 S))
   refine Rl.op (OpY.lenRo (v := a_v) Try.underlying91 rfl f292 ?_)
   refine Rl.op (OpY.lss (x := i266) (y := (List.length a : Int)) ((i266 : Int) < (List.length a : Int)) rfl rfl Iff.rfl ?_)
   refine Rl.op (OpY.move (v := (Value.bool (decide ((i266 : Int) < (List.length a : Int))))) rfl ?_)
   by_cases hc293 : (i266 : Int) < (List.length a : Int)
   ·
    replace h := ite_t hc293 h
    refine Rl.no (dj := 13) (b' := (decide ((i266 : Int) < (List.length a : Int)))) rfl rfl (decide_eq_true hc293) ?_
    refine Rl.no (dj := 13) (b' := (decide ((i266 : Int) < (List.length a : Int)))) rfl rfl (decide_eq_true hc293) ?_
    refine Rl.no (dj := 13) (b' := (decide ((i266 : Int) < (List.length a : Int)))) rfl rfl (decide_eq_true hc293) ?_
    refine Rl.no (dj := 13) (b' := (decide ((i266 : Int) < (List.length a : Int)))) rfl rfl (decide_eq_true hc293) ?_
    refine Rl.op (OpY.pick_t (t := (decide ((i266 : Int) < (List.length a : Int)))) (v := (Value.bool true)) rfl (decide_eq_true hc293) rfl ?_)
    refine Rl.op (OpY.move (v := (Value.bool true)) rfl ?_)
    refine Rl.no (dj := 19) (b' := true) rfl rfl rfl ?_
    refine Rl.no (dj := 19) (b' := true) rfl rfl rfl ?_
    refine Rl.op (OpY.pick_t (t := true) (v := (Value.bool true)) rfl rfl rfl ?_)
    refine Rl.nil ?_
    obtain rfl := Option.some.inj h
    refine Swp.pop_back ?_
    exact ⟨true, _, rfl, (upds_sym ⟨rfl, ⟨rfl, ⟨rfl, ⟨rfl, ⟨rfl, ⟨rfl, trivial⟩⟩⟩⟩⟩⟩), hL282, Keep.refl, trivial⟩
   ·
    replace h := ite_f hc293 h
    refine Rl.yes (dj := 13) (b' := (decide ((i266 : Int) < (List.length a : Int)))) rfl rfl (decide_eq_false hc293) (OpY.move (v := (Value.int .i64 i266)) rfl ?_)
    refine Rl.yes (dj := 13) (b' := (decide ((i266 : Int) < (List.length a : Int)))) rfl rfl (decide_eq_false hc293) (OpY.move (v := b_v) rfl ?_)
    have f294 := ((b_h.mono (K7 S)).mono (K283 S))
    refine Rl.yes (dj := 13) (b' := (decide ((i266 : Int) < (List.length a : Int)))) rfl rfl (decide_eq_false hc293) (OpY.lenRo (v := b_v) Try.underlying91 rfl f294 ?_)
    refine Rl.yes (dj := 13) (b' := (decide ((i266 : Int) < (List.length a : Int)))) rfl rfl (decide_eq_false hc293) (OpY.lss (x := i266) (y := (List.length b : Int)) ((i266 : Int) < (List.length b : Int)) rfl rfl Iff.rfl ?_)
    refine Rl.op (OpY.pick_f (t := (decide ((i266 : Int) < (List.length a : Int)))) (v := (Value.bool (decide ((i266 : Int) < (List.length b : Int))))) rfl (decide_eq_false hc293) rfl ?_)
    refine Rl.op (OpY.move (v := (Value.bool (decide ((i266 : Int) < (List.length b : Int))))) rfl ?_)
    by_cases hc295 : (i266 : Int) < (List.length b : Int)
    ·
     replace h := ite_t hc295 h
     refine Rl.no (dj := 19) (b' := (decide ((i266 : Int) < (List.length b : Int)))) rfl rfl (decide_eq_true hc295) ?_
     refine Rl.no (dj := 19) (b' := (decide ((i266 : Int) < (List.length b : Int)))) rfl rfl (decide_eq_true hc295) ?_
     refine Rl.op (OpY.pick_t (t := (decide ((i266 : Int) < (List.length b : Int)))) (v := (Value.bool true)) rfl (decide_eq_true hc295) rfl ?_)
     refine Rl.nil ?_
     obtain rfl := Option.some.inj h
     refine Swp.pop_back ?_
     exact ⟨true, _, rfl, (upds_sym ⟨rfl, ⟨rfl, ⟨rfl, ⟨rfl, ⟨rfl, ⟨rfl, trivial⟩⟩⟩⟩⟩⟩), hL282, Keep.refl, trivial⟩
    ·
     replace h := ite_f hc295 h
     refine Rl.yes (dj := 19) (b' := (decide ((i266 : Int) < (List.length b : Int)))) rfl rfl (decide_eq_false hc295) (OpY.move (v := (Value.int .i64 carry265)) rfl ?_)
     refine Rl.yes (dj := 19) (b' := (decide ((i266 : Int) < (List.length b : Int)))) rfl rfl (decide_eq_false hc295) (OpY.gtr (x := carry265) (y := 0) ((carry265 : Int) > 0) rfl rfl Iff.rfl ?_)
     refine Rl.op (OpY.pick_f (t := (decide ((i266 : Int) < (List.length b : Int)))) (v := (Value.bool (decide ((carry265 : Int) > 0)))) rfl (decide_eq_false hc295) rfl ?_)
     refine Rl.nil ?_
     obtain rfl := Option.some.inj h
     refine Swp.pop_back ?_
     exact ⟨(decide ((carry265 : Int) > 0)), _, rfl, (upds_sym ⟨rfl, ⟨rfl, ⟨rfl, ⟨rfl, ⟨rfl, ⟨rfl, trivial⟩⟩⟩⟩⟩⟩), hL282, Keep.refl, trivial⟩
  ·
   rintro _ w296 ⟨x289, u, rfl, rfl, hL297, K298, -⟩
   replace h := g291
   try dsimp only at h
   refine Swp.cond_b x289 rfl (fun hc299 => ?_) (fun hc299 => ?_)
   ·
    replace h := ite_t hc299 h
    refine Swp.skip ?_
    refine Swp.seq ?_
    refine Swp.block ?_
    refine Swp.seq ?_
    refine Swp.seq ?_
    refine Swp.region rfl ?_
    refine Rl.op (OpY.move (v := (Value.int .i64 i266)) rfl ?_)
    refine Rl.op (OpY.move (v := a_v) rfl ?_)
    have f300 := (((a_h.mono (K7 S)).mono (K283 S)).mono (K298 S))
    refine Rl.op (OpY.lenRo (v := a_v) Try.underlying91 rfl f300 ?_)
    refine Rl.op (OpY.lss (x := i266) (y := (List.length a : Int)) ((i266 : Int) < (List.length a : Int)) rfl rfl Iff.rfl ?_)
    refine Rl.nil ?_
    obtain ⟨s317, h, g318⟩ := bind_some h
    refine Swp.join (fun e w' => ∃ (carry316 : Int) (u : Env), carry316 = s317 ∧ e = upds [(0, a_v), (1, b_v), (5, (osv ob257 0 (List.length out261) cap258)), (6, (Value.int .i64 carry316)), (7, (Value.int .i64 i266))] u ∧ Go.X.Loc [] [] w w' [ob257] [Cont.cells ([] ++ (cs260 ++ sp259))] ∧ Keep w.heap.size [ob257] w296 [ob257] w' ∧ True) ?_ ?_
    ·
     refine Swp.cond_d ((i266 : Int) < (List.length a : Int)) rfl (fun hc319 => ?_) (fun hc319 => ?_)
     ·
      replace h := ite_t hc319 h
      refine Swp.region rfl ?_
      refine Rl.op (OpY.move (v := (Value.int .i64 carry265)) rfl ?_)
      refine Rl.op (OpY.move (v := a_v) rfl ?_)
      refine Rl.op (OpY.move (v := (Value.int .i64 i266)) rfl ?_)
      obtain ⟨x320, q321, h⟩ := bind_some h
      obtain ⟨n322, q323, q324⟩ := idx_some q321
      obtain ⟨b325, o326, c327, vs328, q329, q330, f331, q332⟩ := Rs.get f300 q324
      obtain rfl := q332
      refine Rl.op (OpY.ixRoD (r := (rInt .i64)) (v := a_v) (n := n322) (m := (o326 + n322 * (rInt .i64).sz)) Try.underlying91 ti3 rfl q329 rfl q323 q324 rfl ?_)
      refine Rl.op (OpY.ldRo1 (v := (Value.int .i64 x320)) Try.underlying3 rfl rfl vw_view f331 ?_)
      refine Rl.op (OpY.add (x := carry265) (y := x320) (z := (iw (carry265 + x320))) rfl rfl rfl ?_)
      refine Rl.op (OpY.assign (v := (Value.int .i64 (iw (carry265 + x320)))) rfl ?_)
      refine Rl.nil ?_
      obtain rfl := Option.some.inj h
      refine Swp.pop_back ?_
      exact ⟨(iw (carry265 + x320)), _, rfl, (upds_sym ⟨rfl, ⟨rfl, ⟨rfl, ⟨rfl, ⟨rfl, trivial⟩⟩⟩⟩⟩), hL297, Keep.refl, trivial⟩
     ·
      replace h := ite_f hc319 h
      refine Swp.skip ?_
      obtain rfl := Option.some.inj h
      refine Swp.pop_back ?_
      exact ⟨carry265, _, rfl, (upds_sym ⟨rfl, ⟨rfl, ⟨rfl, ⟨rfl, ⟨rfl, trivial⟩⟩⟩⟩⟩), hL297, Keep.refl, trivial⟩
    ·
     rintro _ w333 ⟨carry316, u, rfl, rfl, hL334, K335, -⟩
     replace h := g318
     try dsimp only at h
     refine Swp.seq ?_
     refine Swp.seq ?_
     refine Swp.region rfl ?_
     refine Rl.op (OpY.move (v := (Value.int .i64 i266)) rfl ?_)
     refine Rl.op (OpY.move (v := b_v) rfl ?_)
     have f336 := ((((b_h.mono (K7 S)).mono (K283 S)).mono (K298 S)).mono (K335 S))
     refine Rl.op (OpY.lenRo (v := b_v) Try.underlying91 rfl f336 ?_)
     refine Rl.op (OpY.lss (x := i266) (y := (List.length b : Int)) ((i266 : Int) < (List.length b : Int)) rfl rfl Iff.rfl ?_)
     refine Rl.nil ?_
     obtain ⟨s353, h, g354⟩ := bind_some h
     refine Swp.join (fun e w' => ∃ (carry352 : Int) (u : Env), carry352 = s353 ∧ e = upds [(0, a_v), (1, b_v), (5, (osv ob257 0 (List.length out261) cap258)), (6, (Value.int .i64 carry352)), (7, (Value.int .i64 i266))] u ∧ Go.X.Loc [] [] w w' [ob257] [Cont.cells ([] ++ (cs260 ++ sp259))] ∧ Keep w.heap.size [ob257] w333 [ob257] w' ∧ True) ?_ ?_
     ·
      refine Swp.cond_d ((i266 : Int) < (List.length b : Int)) rfl (fun hc355 => ?_) (fun hc355 => ?_)
      ·
       replace h := ite_t hc355 h
       refine Swp.region rfl ?_
       refine Rl.op (OpY.move (v := (Value.int .i64 carry316)) rfl ?_)
       refine Rl.op (OpY.move (v := b_v) rfl ?_)
       refine Rl.op (OpY.move (v := (Value.int .i64 i266)) rfl ?_)
       obtain ⟨x356, q357, h⟩ := bind_some h
       obtain ⟨n358, q359, q360⟩ := idx_some q357
       obtain ⟨b361, o362, c363, vs364, q365, q366, f367, q368⟩ := Rs.get f336 q360
       obtain rfl := q368
       refine Rl.op (OpY.ixRoD (r := (rInt .i64)) (v := b_v) (n := n358) (m := (o362 + n358 * (rInt .i64).sz)) Try.underlying91 ti3 rfl q365 rfl q359 q360 rfl ?_)
       refine Rl.op (OpY.ldRo1 (v := (Value.int .i64 x356)) Try.underlying3 rfl rfl vw_view f367 ?_)
       refine Rl.op (OpY.add (x := carry316) (y := x356) (z := (iw (carry316 + x356))) rfl rfl rfl ?_)
       refine Rl.op (OpY.assign (v := (Value.int .i64 (iw (carry316 + x356)))) rfl ?_)
       refine Rl.nil ?_
       obtain rfl := Option.some.inj h
       refine Swp.pop_back ?_
       exact ⟨(iw (carry316 + x356)), _, rfl, (upds_sym ⟨rfl, ⟨rfl, ⟨rfl, ⟨rfl, ⟨rfl, trivial⟩⟩⟩⟩⟩), hL334, Keep.refl, trivial⟩
      ·
       replace h := ite_f hc355 h
       refine Swp.skip ?_
       obtain rfl := Option.some.inj h
       refine Swp.pop_back ?_
       exact ⟨carry316, _, rfl, (upds_sym ⟨rfl, ⟨rfl, ⟨rfl, ⟨rfl, ⟨rfl, trivial⟩⟩⟩⟩⟩), hL334, Keep.refl, trivial⟩
     ·
      rintro _ w369 ⟨carry352, u, rfl, rfl, hL370, K371, -⟩
      replace h := g354
      try dsimp only at h
      refine Swp.seq ?_
      refine Swp.region rfl ?_
      refine Rl.op (OpY.move (v := (osv ob257 0 (List.length out261) cap258)) rfl ?_)
      refine Rl.op (OpY.move (v := (Value.int .i64 carry352)) rfl ?_)
      refine Rl.op (OpY.remI (x := carry352) (y := 65536) rfl rfl (by decide) ?_)
      have hE373 : Els (rInt .i64) (Hv w.heap.size None [ob257] w369) [(Value.int .i64 (Int.tmod carry352 65536))] [(Int.tmod carry352 65536)] := (Els.cons (a := [(Value.int .i64 (Int.tmod carry352 65536))]) rfl Els.nil)
      refine Rl.op (OpY.litRow (r := (rInt .i64)) (vs := [(Value.int .i64 (Int.tmod carry352 65536))]) (css := [[(Value.int .i64 (Int.tmod carry352 65536))]]) (xs := [(Int.tmod carry352 65536)]) Try.underlying91 ti3 (Nat.le_of_ble_eq_true rfl) rfl rfl ⟨rfl, rfl, trivial⟩ (Nat.le_of_ble_eq_true rfl) hE373 rfl hL370 ?_)
      intro b372 w376 hc374 (hL377 : Go.X.Loc [] [] w w376 [some b372, ob257] [Cont.cells ([] ++ ([(Value.int .i64 (Int.tmod carry352 65536))] ++ [])), Cont.cells ([] ++ (cs260 ++ sp259))]) hS379
      have K378 := Keep.step (s := w.heap.size) hS379
      obtain ⟨x380, q381, h⟩ := bind_some h
      obtain ⟨q382, q383, q384⟩ := apnd_some q381
      have f385 := (hE373.mono (K378 None))
      have f393 := ((((hE262.mono (K298 None)).mono (K335 None)).mono (K371 None)).mono (K378 None))
      refine Rl.op (OpY.apRowX (r := (rInt .i64)) (H := (Hv w.heap.size None [some b372, ob257] w376)) (cs := cs260) (sp := sp259) (xs := out261) (ys := [(Int.tmod carry352 65536)]) (Y := x380) (n := (List.length out261)) (cap := cap258) (i := 1) Try.underlying91 ti3 rfl rfl rfl rfl hL377 rfl rfl f393 rfl hc263 (Src.row (pre := []) (o := 0) (n := 1) (cap := 1) (hL377.at 0 rfl rfl) f385 rfl rfl rfl) (Els.anyH (fun _ _ _ _ h => h) f385) q382 q383 q384 ?_)
      intro ob386 cap387 sp389 cs388 w394 hE390 hc391 (hL395 : Go.X.Loc [] [] w w394 [some b372, ob386] [Cont.cells ([] ++ ([(Value.int .i64 (Int.tmod carry352 65536))] ++ [])), Cont.cells ([] ++ (cs388 ++ sp389))]) hS397
      have K396 := Keep.step (s := w.heap.size) hS397
      refine Rl.op (OpY.assign (v := (osv ob386 0 (List.length x380) cap387)) rfl ?_)
      refine Rl.nil ?_
      refine Swp.region rfl ?_
      refine Rl.op (OpY.move (v := (Value.int .i64 carry352)) rfl ?_)
      refine Rl.op (OpY.quoI (x := carry352) (y := 65536) (z := (iw (Int.tdiv carry352 65536))) rfl rfl (by decide) rfl ?_)
      refine Rl.op (OpY.assign (v := (Value.int .i64 (iw (Int.tdiv carry352 65536)))) rfl ?_)
      refine Rl.nil ?_
      refine Swp.pop_blk ?_
      refine Swp.region rfl ?_
      refine Rl.op (OpY.move (v := (Value.int .i64 i266)) rfl ?_)
      refine Rl.op (OpY.add (x := i266) (y := 1) (z := (iw (i266 + 1))) rfl rfl rfl ?_)
      refine Rl.op (OpY.assign (v := (Value.int .i64 (iw (i266 + 1)))) rfl ?_)
      refine Rl.nil ?_
      have hp398 := hL395.pick [1] rfl rfl rfl
      have hL400 : Go.X.Loc [] [] w w394 [ob386] [Cont.cells ([] ++ (cs388 ++ sp389))] := hp398.1
      have K399 := Keep.step (s := w.heap.size) hp398.2
      have f401 := ((hE390.mono (K396 None)).mono (K399 None))
      obtain rfl := Option.some.inj h
      refine Swp.pop_back ⟨(x380, (iw (Int.tdiv carry352 65536)), (iw (i266 + 1))), rfl, ?_⟩
      exact ⟨ob386, cap387, sp389, cs388, (List.length x380), _, (upds_sym ⟨rfl, ⟨rfl, ⟨rfl, ⟨rfl, ⟨rfl, trivial⟩⟩⟩⟩⟩), hL400, (Keep.trans (Keep.trans (Keep.trans (Keep.trans (Keep.trans (Keep.trans K283 K298) K335) K371) K378) K396) K399), f401, rfl, hc391, trivial⟩
   ·
    replace h := ite_f hc299 h
    refine Swp.exit rfl ?_
    have f402 := (hE262.mono (K298 None))
    obtain rfl := Option.some.inj h
    obtain rfl := hd279 _ rfl
    replace h := g277
    try dsimp only at h
    skip
    refine Swp.pop_back ?_
    exact ⟨out261, ob257, cap258, sp259, cs260, (List.length out261), _, rfl, (upds_sym ⟨rfl, trivial⟩), hL297, (Keep.trans K283 K298), f402, rfl, hc263, trivial⟩
 ·
  rintro _ w403 ⟨out272, ob268, cap269, sp270, cs271, ln275, u, rfl, rfl, hL404, K405, hE273, rfl, hc274, -⟩
  replace h := g277
  try dsimp only at h
  refine Swp.seq ?_
  refine Swp.region rfl ?_
  refine Rl.op (OpY.move (v := (osv ob268 0 (List.length out272) cap269)) rfl ?_)
  have f406 := hL404.freezeRow 0 rfl rfl hE273 rfl rfl rfl hc274
  have hp407 := hL404.pick [] rfl rfl rfl
  have hL409 : Go.X.Loc [] [] w w403 [] [] := hp407.1
  obtain ⟨r410, q411, h⟩ := bind_some h
  refine Rl.op (OpY.call en82 rfl rfl (rtrim_w N out272 (osv ob268 0 (List.length out272) cap269) _ _ (f406.mono Hv.enter) r410 q411) ?_)
  rintro _ w415 hE418 ⟨v412, rfl, k413, -⟩
  replace k413 := k413.mono (Hv.aliasO (S := None) hL409 [])
  have hL416 := hL409.ext hE418
  refine Rl.op (OpY.assign (v := v412) rfl ?_)
  refine Rl.nil ?_
  refine Swp.ret ?_
  obtain rfl := Option.some.inj h
  refine ⟨[v412], ⟨rfl, trivial⟩, ⟨_, rfl, hL416.done, ?_⟩⟩
  exact ⟨v412, rfl, (k413.mono Hv.out), trivial⟩
theorem rminus_w (N : Nat) (a : (List Int)) (b : (List Int)) (a_v : Value) (b_v : Value) (w : World) (S : Nat → Prop) (a_h : Rs (rInt .i64) (Hv w.heap.size S [] w) a_v a) (b_h : Rs (rInt .i64) (Hv w.heap.size S [] w) b_v b) (r : (List Int)) (h : rminus N a b = some r) :
  Calls Try.prog 70 #[a_v, b_v] w (Ret w (fun v w' => ∃ (v0_0 : Value), v0_0 = v ∧ Rs (rInt .i64) (Hv w.heap.size None [] w') v0_0 r ∧ True)) := by
 unfold rminus at h
 have hL : Go.X.Loc [] [] w w [] [] := Go.X.Loc.begin0 w
 refine calls_of (l := [a_v, b_v]) (rl := [.tmp 4]) (n := 42) Try.func70 rfl rfl rfl (Nat.le_of_ble_eq_true rfl) ?_
 refine Swp.seq ?_
 refine Swp.region rfl ?_
 refine Rl.op (OpY.assign (v := (Value.slice none 0 0)) rfl ?_)
 refine Rl.nil ?_
 refine Swp.seq ?_
 refine Swp.region rfl ?_
 refine Rl.op (OpY.litRow0 Try.underlying91 ti3 hL ?_)
 intro b1 w5 (hL6 : Go.X.Loc [] [] w w5 [some b1] [Cont.cells ([] ++ ([] ++ []))]) hS8
 have hE9 : Els (rInt .i64) (Hv w.heap.size None [] w) [] [] := Els.nil
 have K7 := Keep.step (s := w.heap.size) hS8
 refine Rl.op (OpY.assign (v := (osv (some b1) 0 (List.length ([] : (List Int))) 0)) rfl ?_)
 refine Rl.nil ?_
 refine Swp.seq ?_
 refine Swp.region rfl ?_
 refine Rl.op (OpY.assign (v := (Value.int .i64 0)) rfl ?_)
 refine Rl.nil ?_
 refine Swp.seq ?_
 refine Swp.seq ?_
 refine Swp.region rfl ?_
 refine Rl.op (OpY.assign (v := (Value.int .i64 0)) rfl ?_)
 refine Rl.nil ?_
 obtain ⟨s222, hl224, g223⟩ := bind_some h
 refine Swp.join (fun e w' => ∃ (out218 : (List Int)) (ob214 : Option Nat) (cap215 : Nat) (sp216 : List Value) (cs217 : List Value) (ln221 : Nat) (u : Env), out218 = s222 ∧ e = upds [(5, (osv ob214 0 ln221 cap215))] u ∧ Go.X.Loc [] [] w w' [ob214] [Cont.cells ([] ++ (cs217 ++ sp216))] ∧ Keep w.heap.size [some b1] w5 [ob214] w' ∧ Els (rInt .i64) (Hv w.heap.size None [ob214] w') cs217 out218 ∧ ln221 = List.length out218 ∧ (cs217 ++ sp216).length = cap215 * (rInt .i64).sz ∧ True) ?_ ?_
 ·
  refine Swp.block ?_
  have f226 := (hE9.mono (K7 None))
  refine Swp.loopM hl224 (fun (ss : ((List Int) × Int × Int)) (e : Env) (w' : World) => match ss with | (out207, borrow211, i212) => ∃ (ob203 : Option Nat) (cap204 : Nat) (sp205 : List Value) (cs206 : List Value) (ln210 : Nat) (u : Env), e = upds [(0, a_v), (1, b_v), (5, (osv ob203 0 ln210 cap204)), (6, (Value.int .i64 borrow211)), (7, (Value.int .i64 i212))] u ∧ Go.X.Loc [] [] w w' [ob203] [Cont.cells ([] ++ (cs206 ++ sp205))] ∧ Keep w.heap.size [some b1] w5 [ob203] w' ∧ Els (rInt .i64) (Hv w.heap.size None [ob203] w') cs206 out207 ∧ ln210 = List.length out207 ∧ (cs206 ++ sp205).length = cap204 * (rInt .i64).sz ∧ True) ⟨some b1, 0, [], [], (List.length ([] : (List Int))), _, (upds_sym ⟨rfl, ⟨rfl, ⟨rfl, ⟨rfl, ⟨rfl, trivial⟩⟩⟩⟩⟩), hL6, Keep.refl, f226, rfl, (show ([] ++ [] : List Value).length = 0 * (rInt .i64).sz by simp), trivial⟩ ?_
  rintro ⟨out207, borrow211, i212⟩ oo _ w227 ⟨ob203, cap204, sp205, cs206, ln210, u, rfl, hL228, K229, hE208, rfl, hc209, -⟩ h hd225
  rw [rminus_b1] at h
  refine Swp.seq ?_
  refine Swp.seq ?_
  refine Swp.region rfl ?_
  refine Rl.op (OpY.move (v := (Value.int .i64 i212)) rfl ?_)
  refine Rl.op (OpY.move (v := a_v) rfl ?_)
  have f230 := ((a_h.mono (K7 S)).mono (K229 S))
  refine Rl.op (OpY.lenRo (v := a_v) Try.underlying91 rfl f230 ?_)
  refine Rl.op (OpY.lss (x := i212) (y := (List.length a : Int)) ((i212 : Int) < (List.length a : Int)) rfl rfl Iff.rfl ?_)
  refine Rl.nil ?_
  refine Swp.cond_d ((i212 : Int) < (List.length a : Int)) rfl (fun hc231 => ?_) (fun hc231 => ?_)
  ·
   replace h := ite_t hc231 h
   refine Swp.skip ?_
   refine Swp.seq ?_
   refine Swp.block ?_
   refine Swp.seq ?_
   refine Swp.region rfl ?_
   refine Rl.op (OpY.move (v := a_v) rfl ?_)
   refine Rl.op (OpY.move (v := (Value.int .i64 i212)) rfl ?_)
   obtain ⟨x232, q233, h⟩ := bind_some h
   obtain ⟨n234, q235, q236⟩ := idx_some q233
   obtain ⟨b237, o238, c239, vs240, q241, q242, f243, q244⟩ := Rs.get f230 q236
   obtain rfl := q244
   refine Rl.op (OpY.ixRoD (r := (rInt .i64)) (v := a_v) (n := n234) (m := (o238 + n234 * (rInt .i64).sz)) Try.underlying91 ti3 rfl q241 rfl q235 q236 rfl ?_)
   refine Rl.op (OpY.ldRo1 (v := (Value.int .i64 x232)) Try.underlying3 rfl rfl vw_view f243 ?_)
   refine Rl.op (OpY.move (v := (Value.int .i64 borrow211)) rfl ?_)
   refine Rl.op (OpY.sub (x := x232) (y := borrow211) (z := (iw (x232 - borrow211))) rfl rfl rfl ?_)
   refine Rl.op (OpY.assign (v := (Value.int .i64 (iw (x232 - borrow211)))) rfl ?_)
   refine Rl.nil ?_
   refine Swp.seq ?_
   refine Swp.seq ?_
   refine Swp.region rfl ?_
   refine Rl.op (OpY.move (v := (Value.int .i64 i212)) rfl ?_)
   refine Rl.op (OpY.move (v := b_v) rfl ?_)
   have f245 := ((b_h.mono (K7 S)).mono (K229 S))
   refine Rl.op (OpY.lenRo (v := b_v) Try.underlying91 rfl f245 ?_)
   refine Rl.op (OpY.lss (x := i212) (y := (List.length b : Int)) ((i212 : Int) < (List.length b : Int)) rfl rfl Iff.rfl ?_)
   refine Rl.nil ?_
   obtain ⟨s262, h, g263⟩ := bind_some h
   refine Swp.join (fun e w' => ∃ (n261 : Int) (u : Env), n261 = s262 ∧ e = upds [(0, a_v), (1, b_v), (5, (osv ob203 0 (List.length out207) cap204)), (7, (Value.int .i64 i212)), (8, (Value.int .i64 n261))] u ∧ Go.X.Loc [] [] w w' [ob203] [Cont.cells ([] ++ (cs206 ++ sp205))] ∧ Keep w.heap.size [ob203] w227 [ob203] w' ∧ True) ?_ ?_
   ·
    refine Swp.cond_d ((i212 : Int) < (List.length b : Int)) rfl (fun hc264 => ?_) (fun hc264 => ?_)
    ·
     replace h := ite_t hc264 h
     refine Swp.region rfl ?_
     refine Rl.op (OpY.move (v := (Value.int .i64 (iw (x232 - borrow211)))) rfl ?_)
     refine Rl.op (OpY.move (v := b_v) rfl ?_)
     refine Rl.op (OpY.move (v := (Value.int .i64 i212)) rfl ?_)
     obtain ⟨x265, q266, h⟩ := bind_some h
     obtain ⟨n267, q268, q269⟩ := idx_some q266
     obtain ⟨b270, o271, c272, vs273, q274, q275, f276, q277⟩ := Rs.get f245 q269
     obtain rfl := q277
     refine Rl.op (OpY.ixRoD (r := (rInt .i64)) (v := b_v) (n := n267) (m := (o271 + n267 * (rInt .i64).sz)) Try.underlying91 ti3 rfl q274 rfl q268 q269 rfl ?_)
     refine Rl.op (OpY.ldRo1 (v := (Value.int .i64 x265)) Try.underlying3 rfl rfl vw_view f276 ?_)
     refine Rl.op (OpY.sub (x := (iw (x232 - borrow211))) (y := x265) (z := (iw ((iw (x232 - borrow211)) - x265))) rfl rfl rfl ?_)
     refine Rl.op (OpY.assign (v := (Value.int .i64 (iw ((iw (x232 - borrow211)) - x265)))) rfl ?_)
     refine Rl.nil ?_
     obtain rfl := Option.some.inj h
     refine Swp.pop_back ?_
     exact ⟨(iw ((iw (x232 - borrow211)) - x265)), _, rfl, (upds_sym ⟨rfl, ⟨rfl, ⟨rfl, ⟨rfl, ⟨rfl, trivial⟩⟩⟩⟩⟩), hL228, Keep.refl, trivial⟩
    ·
     replace h := ite_f hc264 h
     refine Swp.skip ?_
     obtain rfl := Option.some.inj h
     refine Swp.pop_back ?_
     exact ⟨(iw (x232 - borrow211)), _, rfl, (upds_sym ⟨rfl, ⟨rfl, ⟨rfl, ⟨rfl, ⟨rfl, trivial⟩⟩⟩⟩⟩), hL228, Keep.refl, trivial⟩
   ·
    rintro _ w278 ⟨n261, u, rfl, rfl, hL279, K280, -⟩
    replace h := g263
    try dsimp only at h
    refine Swp.seq ?_
    refine Swp.region rfl ?_
    refine Rl.op (OpY.assign (v := (Value.int .i64 0)) rfl ?_)
    refine Rl.nil ?_
    refine Swp.seq ?_
    refine Swp.seq ?_
    refine Swp.region rfl ?_
    refine Rl.op (OpY.move (v := (Value.int .i64 n261)) rfl ?_)
    refine Rl.op (OpY.lss (x := n261) (y := 0) ((n261 : Int) < 0) rfl rfl Iff.rfl ?_)
    refine Rl.nil ?_
    obtain ⟨s285, h, g286⟩ := bind_some h
    refine Swp.join (fun e w' => ∃ (borrow283 : Int) (n284 : Int) (u : Env), (borrow283, n284) = s285 ∧ e = upds [(0, a_v), (1, b_v), (5, (osv ob203 0 (List.length out207) cap204)), (6, (Value.int .i64 borrow283)), (7, (Value.int .i64 i212)), (8, (Value.int .i64 n284))] u ∧ Go.X.Loc [] [] w w' [ob203] [Cont.cells ([] ++ (cs206 ++ sp205))] ∧ Keep w.heap.size [ob203] w278 [ob203] w' ∧ True) ?_ ?_
    ·
     refine Swp.cond_d ((n261 : Int) < 0) rfl (fun hc287 => ?_) (fun hc287 => ?_)
     ·
      replace h := ite_t hc287 h
      refine Swp.seq ?_
      refine Swp.region rfl ?_
      refine Rl.op (OpY.move (v := (Value.int .i64 n261)) rfl ?_)
      refine Rl.op (OpY.add (x := n261) (y := 65536) (z := (iw (n261 + 65536))) rfl rfl rfl ?_)
      refine Rl.op (OpY.assign (v := (Value.int .i64 (iw (n261 + 65536)))) rfl ?_)
      refine Rl.nil ?_
      refine Swp.region rfl ?_
      refine Rl.op (OpY.assign (v := (Value.int .i64 1)) rfl ?_)
      refine Rl.nil ?_
      obtain rfl := Option.some.inj h
      refine Swp.pop_back ?_
      exact ⟨1, (iw (n261 + 65536)), _, rfl, (upds_sym ⟨rfl, ⟨rfl, ⟨rfl, ⟨rfl, ⟨rfl, ⟨rfl, trivial⟩⟩⟩⟩⟩⟩), hL279, Keep.refl, trivial⟩
     ·
      replace h := ite_f hc287 h
      refine Swp.skip ?_
      obtain rfl := Option.some.inj h
      refine Swp.pop_back ?_
      exact ⟨0, n261, _, rfl, (upds_sym ⟨rfl, ⟨rfl, ⟨rfl, ⟨rfl, ⟨rfl, ⟨rfl, trivial⟩⟩⟩⟩⟩⟩), hL279, Keep.refl, trivial⟩
    ·
     rintro _ w288 ⟨borrow283, n284, u, rfl, rfl, hL289, K290, -⟩
     replace h := g286
     try dsimp only at h
     refine Swp.region rfl ?_
     refine Rl.op (OpY.move (v := (osv ob203 0 (List.length out207) cap204)) rfl ?_)
     refine Rl.op (OpY.move (v := (Value.int .i64 n284)) rfl ?_)
     have hE292 : Els (rInt .i64) (Hv w.heap.size None [ob203] w288) [(Value.int .i64 n284)] [n284] := (Els.cons (a := [(Value.int .i64 n284)]) rfl Els.nil)
     refine Rl.op (OpY.litRow (r := (rInt .i64)) (vs := [(Value.int .i64 n284)]) (css := [[(Value.int .i64 n284)]]) (xs := [n284]) Try.underlying91 ti3 (Nat.le_of_ble_eq_true rfl) rfl rfl ⟨rfl, rfl, trivial⟩ (Nat.le_of_ble_eq_true rfl) hE292 rfl hL289 ?_)
     intro b291 w295 hc293 (hL296 : Go.X.Loc [] [] w w295 [some b291, ob203] [Cont.cells ([] ++ ([(Value.int .i64 n284)] ++ [])), Cont.cells ([] ++ (cs206 ++ sp205))]) hS298
     have K297 := Keep.step (s := w.heap.size) hS298
     obtain ⟨x299, q300, h⟩ := bind_some h
     obtain ⟨q301, q302, q303⟩ := apnd_some q300
     have f304 := (hE292.mono (K297 None))
     have f312 := (((hE208.mono (K280 None)).mono (K290 None)).mono (K297 None))
     refine Rl.op (OpY.apRowX (r := (rInt .i64)) (H := (Hv w.heap.size None [some b291, ob203] w295)) (cs := cs206) (sp := sp205) (xs := out207) (ys := [n284]) (Y := x299) (n := (List.length out207)) (cap := cap204) (i := 1) Try.underlying91 ti3 rfl rfl rfl rfl hL296 rfl rfl f312 rfl hc209 (Src.row (pre := []) (o := 0) (n := 1) (cap := 1) (hL296.at 0 rfl rfl) f304 rfl rfl rfl) (Els.anyH (fun _ _ _ _ h => h) f304) q301 q302 q303 ?_)
     intro ob305 cap306 sp308 cs307 w313 hE309 hc310 (hL314 : Go.X.Loc [] [] w w313 [some b291, ob305] [Cont.cells ([] ++ ([(Value.int .i64 n284)] ++ [])), Cont.cells ([] ++ (cs307 ++ sp308))]) hS316
     have K315 := Keep.step (s := w.heap.size) hS316
     refine Rl.op (OpY.assign (v := (osv ob305 0 (List.length x299) cap306)) rfl ?_)
     refine Rl.nil ?_
     refine Swp.pop_blk ?_
     refine Swp.region rfl ?_
     refine Rl.op (OpY.move (v := (Value.int .i64 i212)) rfl ?_)
     refine Rl.op (OpY.add (x := i212) (y := 1) (z := (iw (i212 + 1))) rfl rfl rfl ?_)
     refine Rl.op (OpY.assign (v := (Value.int .i64 (iw (i212 + 1)))) rfl ?_)
     refine Rl.nil ?_
     have hp317 := hL314.pick [1] rfl rfl rfl
     have hL319 : Go.X.Loc [] [] w w313 [ob305] [Cont.cells ([] ++ (cs307 ++ sp308))] := hp317.1
     have K318 := Keep.step (s := w.heap.size) hp317.2
     have f320 := ((hE309.mono (K315 None)).mono (K318 None))
     obtain rfl := Option.some.inj h
     refine Swp.pop_back ⟨(x299, borrow283, (iw (i212 + 1))), rfl, ?_⟩
     exact ⟨ob305, cap306, sp308, cs307, (List.length x299), _, (upds_sym ⟨rfl, ⟨rfl, ⟨rfl, ⟨rfl, ⟨rfl, trivial⟩⟩⟩⟩⟩), hL319, (Keep.trans (Keep.trans (Keep.trans (Keep.trans (Keep.trans K229 K280) K290) K297) K315) K318), f320, rfl, hc310, trivial⟩
  ·
   replace h := ite_f hc231 h
   refine Swp.exit rfl ?_
   obtain rfl := Option.some.inj h
   obtain rfl := hd225 _ rfl
   replace h := g223
   try dsimp only at h
   skip
   refine Swp.pop_back ?_
   exact ⟨out207, ob203, cap204, sp205, cs206, (List.length out207), _, rfl, (upds_sym ⟨rfl, trivial⟩), hL228, K229, hE208, rfl, hc209, trivial⟩
 ·
  rintro _ w321 ⟨out218, ob214, cap215, sp216, cs217, ln221, u, rfl, rfl, hL322, K323, hE219, rfl, hc220, -⟩
  replace h := g223
  try dsimp only at h
  refine Swp.seq ?_
  refine Swp.region rfl ?_
  refine Rl.op (OpY.move (v := (osv ob214 0 (List.length out218) cap215)) rfl ?_)
  have f324 := hL322.freezeRow 0 rfl rfl hE219 rfl rfl rfl hc220
  have hp325 := hL322.pick [] rfl rfl rfl
  have hL327 : Go.X.Loc [] [] w w321 [] [] := hp325.1
  obtain ⟨r328, q329, h⟩ := bind_some h
  refine Rl.op (OpY.call en82 rfl rfl (rtrim_w N out218 (osv ob214 0 (List.length out218) cap215) _ _ (f324.mono Hv.enter) r328 q329) ?_)
  rintro _ w333 hE336 ⟨v330, rfl, k331, -⟩
  replace k331 := k331.mono (Hv.aliasO (S := None) hL327 [])
  have hL334 := hL327.ext hE336
  refine Rl.op (OpY.assign (v := v330) rfl ?_)
  refine Rl.nil ?_
  refine Swp.ret ?_
  obtain rfl := Option.some.inj h
  refine ⟨[v330], ⟨rfl, trivial⟩, ⟨_, rfl, hL334.done, ?_⟩⟩
  exact ⟨v330, rfl, (k331.mono Hv.out), trivial⟩
theorem rSign_w (N : Nat) (x : Big) (x_v : Value) (w : World) (S : Nat → Prop) (x_h : Rs (rInt .u32) (Hv w.heap.size S [] w) x_v x.Digits) (r : Int) (h : rSign N x = some r) :
  Calls Try.prog 40 #[(Value.agg #[(Value.bool x.Negative), x_v])] w (Ret w (fun v w' => (Value.int .i64 r) = v ∧ True)) := by
 unfold rSign at h
 have hL : Go.X.Loc [] [] w w [] [] := Go.X.Loc.begin0 w
 refine calls_of (l := [(Value.agg #[(Value.bool x.Negative), x_v])]) (rl := [.tmp 2]) (n := 9) Try.func40 rfl rfl rfl (Nat.le_of_ble_eq_true rfl) ?_
 refine Swp.seq ?_
 refine Swp.region rfl ?_
 refine Rl.op (OpY.box (cs := [(Value.bool x.Negative), x_v]) rfl rfl hL ?_)
 intro b1 w2 (hL3 : Go.X.Loc [] [] w w2 [some b1] [Cont.cells [(Value.bool x.Negative), x_v]]) hS5
 have K4 := Keep.step (s := w.heap.size) hS5
 refine Rl.op (OpY.assign (v := (Value.int .i64 0)) rfl ?_)
 refine Rl.nil ?_
 refine Swp.seq ?_
 refine Swp.seq ?_
 refine Swp.region rfl ?_
 refine Rl.op (OpY.ldBoxA (vs := [(Value.bool x.Negative), x_v]) Try.underlying26 rfl ti26 rfl (hL3.at 0 rfl rfl) rfl rfl ?_)
 obtain ⟨r6, q7, h⟩ := bind_some h
 have f11 := (x_h.mono (K4 S))
 refine Rl.op (OpY.call en65 rfl rfl (halves_w N x x_v _ Any (f11.mono vw_any) r6 q7) ?_)
 rintro _ w12 hE15 ⟨v8, rfl, k9, -⟩
 replace k9 := k9.mono (Hv.freshO (S := None) hL3 [])
 have hL13 := hL3.ext hE15
 refine Rl.op (OpY.lenRo (v := v8) Try.underlying91 rfl k9 ?_)
 refine Rl.op (OpY.eql (x := (List.length r6 : Int)) (y := 0) (((List.length r6 : Int) : Int) = 0) rfl rfl Iff.rfl ?_)
 refine Rl.nil ?_
 refine Swp.cond_d (((List.length r6 : Int) : Int) = 0) rfl (fun hc16 => ?_) (fun hc16 => ?_)
 ·
  replace h := ite_t hc16 h
  refine Swp.seq ?_
  refine Swp.region rfl ?_
  refine Rl.op (OpY.assign (v := (Value.int .i64 0)) rfl ?_)
  refine Rl.nil ?_
  refine Swp.ret ?_
  obtain rfl := Option.some.inj h
  refine ⟨[(Value.int .i64 0)], ⟨rfl, trivial⟩, ⟨_, rfl, hL13.done, ?_⟩⟩
  exact ⟨rfl, trivial⟩
 ·
  replace h := ite_f hc16 h
  refine Swp.skip ?_
  refine Swp.seq ?_
  refine Swp.seq ?_
  refine Swp.region rfl ?_
  refine Rl.op (OpY.fieldAddr (q := 0) Try.underlying26 rfl ti4 rfl rfl rfl ?_)
  refine Rl.op (OpY.ldBox1 (v := (Value.bool x.Negative)) Try.underlying4 rfl rfl (hL13.at 0 rfl rfl) rfl ?_)
  refine Rl.nil ?_
  refine Swp.cond_b x.Negative rfl (fun hc17 => ?_) (fun hc17 => ?_)
  ·
   replace h := ite_t hc17 h
   refine Swp.seq ?_
   refine Swp.region rfl ?_
   refine Rl.op (OpY.assign (v := (Value.int .i64 (-1))) rfl ?_)
   refine Rl.nil ?_
   refine Swp.ret ?_
   obtain rfl := Option.some.inj h
   refine ⟨[(Value.int .i64 (-1))], ⟨rfl, trivial⟩, ⟨_, rfl, hL13.done, ?_⟩⟩
   exact ⟨rfl, trivial⟩
  ·
   replace h := ite_f hc17 h
   refine Swp.skip ?_
   refine Swp.seq ?_
   refine Swp.region rfl ?_
   refine Rl.op (OpY.assign (v := (Value.int .i64 1)) rfl ?_)
   refine Rl.nil ?_
   refine Swp.ret ?_
   obtain rfl := Option.some.inj h
   refine ⟨[(Value.int .i64 1)], ⟨rfl, trivial⟩, ⟨_, rfl, hL13.done, ?_⟩⟩
   exact ⟨rfl, trivial⟩
theorem rAdd_w (N : Nat) (a : Big) (b : Big) (a_v : Value) (b_v : Value) (w : World) (S : Nat → Prop) (a_h : Rs (rInt .u32) (Hv w.heap.size S [] w) a_v a.Digits) (b_h : Rs (rInt .u32) (Hv w.heap.size S [] w) b_v b.Digits) (r : Big) (h : rAdd N a b = some r) :
  Calls Try.prog 38 #[(Value.agg #[(Value.bool a.Negative), a_v]), (Value.agg #[(Value.bool b.Negative), b_v])] w (Ret w (fun v w' => ∃ (v0_0 : Value), (Value.agg #[(Value.bool r.Negative), v0_0]) = v ∧ Rs (rInt .u32) (Hv w.heap.size None [] w') v0_0 r.Digits ∧ True)) := by
 unfold rAdd at h
 have hL : Go.X.Loc [] [] w w [] [] := Go.X.Loc.begin0 w
 refine calls_of (l := [(Value.agg #[(Value.bool a.Negative), a_v]), (Value.agg #[(Value.bool b.Negative), b_v])]) (rl := [.cell 4 26]) (n := 38) Try.func38 rfl rfl rfl (Nat.le_of_ble_eq_true rfl) ?_
 refine Swp.seq ?_
 refine Swp.region rfl ?_
 refine Rl.op (OpY.box (cs := [(Value.bool a.Negative), a_v]) rfl rfl hL ?_)
 intro b1 w2 (hL3 : Go.X.Loc [] [] w w2 [some b1] [Cont.cells [(Value.bool a.Negative), a_v]]) hS5
 have K4 := Keep.step (s := w.heap.size) hS5
 refine Rl.op (OpY.box (cs := [(Value.bool b.Negative), b_v]) rfl rfl hL3 ?_)
 intro b6 w7 (hL8 : Go.X.Loc [] [] w w7 [some b6, some b1] [Cont.cells [(Value.bool b.Negative), b_v], Cont.cells [(Value.bool a.Negative), a_v]]) hS10
 have K9 := Keep.step (s := w.heap.size) hS10
 refine Rl.op (OpY.alloc (cs := [(Value.bool false), (Value.slice none 0 0)]) ti26 rfl hL8 ?_)
 intro b11 w12 (hL13 : Go.X.Loc [] [] w w12 [some b11, some b6, some b1] [Cont.cells [(Value.bool false), (Value.slice none 0 0)], Cont.cells [(Value.bool b.Negative), b_v], Cont.cells [(Value.bool a.Negative), a_v]]) hS15
 have K14 := Keep.step (s := w.heap.size) hS15
 refine Rl.nil ?_
 refine Swp.seq ?_
 obtain ⟨r16, q17, h⟩ := bind_some h
 refine Swp.drawL 3 [] [] (fun W1 => [.det (Value.agg #[(Value.bool a.Negative), a_v]), .rel (fun v Z w' => ∃ v18, v18 = v ∧ Rs (rInt .i64) (Zv W1 w.heap.size None [some b11, some b6, some b1] Z w') v18 r16 ∧ True) (fun _ => []), .det (Value.agg #[(Value.bool b.Negative), b_v])]) mixed rfl rfl rfl (fun _ => rfl) (fun _ => rfl) ?_ ?_
 ·
  intro W1 _
  exact ⟨fun v Z Z' w w' hΦ hz _ _ hs => by obtain ⟨v18, rfl, k19, -⟩ := hΦ; exact ⟨v18, rfl, (k19.mono (Zv.stay hz hs)), trivial⟩, trivial⟩
 ·
  intro w21 hE22
  have hL23 := hL13.ext hE22
  have K24 := Keep.ext (s := w.heap.size) (O := [some b11, some b6, some b1]) hE22
  refine DrH.det ?_ ?_
  ·
   rintro w25 Z26 hE27 hZ28 ⟨-⟩
   have hL29 := hL23.ext hE27
   refine GOp.op (OpY.ldBoxA (vs := [(Value.bool a.Negative), a_v]) Try.underlying26 rfl ti26 rfl (hL29.at 2 rfl rfl) rfl rfl ?_)
   exact ⟨Ext.refl _, rfl⟩
  refine DrH.rel ?_ ?_
  ·
   rintro w31 Z32 hE33 hZ34 ⟨-⟩
   have K36 := Keep.ext (s := w.heap.size) (O := [some b11, some b6, some b1]) hE33
   refine GOp.op (OpY.call en65 rfl rfl (halves_w N a a_v _ Any ((((((a_h.mono (K4 S)).mono (K9 S)).mono (K14 S)).mono (K24 S)).mono (K36 S)).mono vw_any) r16 q17) ?_)
   rintro _ w37 hE38 ⟨v18, rfl, k19, -⟩
   exact Made.ext hE38 hZ34 NewOwn.nil (fun _ h => h) ⟨v18, rfl, (k19.mono Zv.made), trivial⟩
  intro z1
  refine DrH.det ?_ ?_
  ·
   rintro w39 Z40 hE41 hZ42 ⟨-, -⟩
   have hL43 := hL23.ext hE41
   refine GOp.op (OpY.ldBoxA (vs := [(Value.bool b.Negative), b_v]) Try.underlying26 rfl ti26 rfl (hL43.at 1 rfl rfl) rfl rfl ?_)
   exact ⟨Ext.refl _, rfl⟩
  refine DrH.fin0 ?_
  rintro w45 Z46 hE47 hZ48 ⟨⟨⟨v18, rfl, k19, -⟩, hB1⟩, -⟩ ap49
  have hB50 : ∀ b, some b ∈ ([] : List (Option Nat)) → w21.heap.size ≤ b ∧ ¬ Z46 b := by
   intro b hb; cases hb
  replace k19 := k19.mono (Zv.fin hL23 hZ48 hB50)
  have hL51 := hL23.ext hE47
  have K52 := Keep.ext (s := w.heap.size) (O := [some b11, some b6, some b1]) hE47
  obtain ⟨r53, q54, h⟩ := bind_some h
  have f58 := (((((b_h.mono (K4 S)).mono (K9 S)).mono (K14 S)).mono (K24 S)).mono (K52 S))
  refine Rl.op (OpY.call en65 rfl rfl (halves_w N b b_v _ Any (f58.mono vw_any) r53 q54) ?_)
  rintro _ w59 hE62 ⟨v55, rfl, k56, -⟩
  replace k56 := k56.mono (Hv.freshO (S := None) hL51 [])
  have hL60 := hL51.ext hE62
  have K61 := Keep.ext (s := w.heap.size) (O := [some b11, some b6, some b1]) hE62
  refine Rl.op (OpY.assign (v := v18) rfl ?_)
  refine Rl.op (OpY.assign (v := v55) rfl ?_)
  refine Rl.nil ?_
  refine Swp.seq ?_
  refine Swp.seq ?_
  refine Swp.region rfl ?_
  refine Rl.op (OpY.fieldAddr (q := 0) Try.underlying26 rfl ti4 rfl rfl rfl ?_)
  refine Rl.op (OpY.ldBox1 (v := (Value.bool a.Negative)) Try.underlying4 rfl rfl (hL60.at 2 rfl rfl) rfl ?_)
  refine Rl.op (OpY.fieldAddr (q := 0) Try.underlying26 rfl ti4 rfl rfl rfl ?_)
  refine Rl.op (OpY.ldBox1 (v := (Value.bool b.Negative)) Try.underlying4 rfl rfl (hL60.at 1 rfl rfl) rfl ?_)
  refine Rl.op (OpY.eqlBool (x := a.Negative) (y := b.Negative) Try.underlying4 rfl rfl ?_)
  refine Rl.nil ?_
  refine Swp.cond_b (a.Negative == b.Negative) rfl (fun hc63 => ?_) (fun hc63 => ?_)
  ·
   replace h := ite_t hc63 h
   refine Swp.seq ?_
   obtain ⟨r64, q65, h⟩ := bind_some h
   refine Swp.drawL 5 [] [] (fun W1 => [.det (Value.pointer (some ⟨b1, 0, none⟩)), .det (Value.bool a.Negative), .det v18, .det v55, .rel (fun v Z w' => ∃ v66, v66 = v ∧ Rs (rInt .i64) (Zv W1 w.heap.size None [some b11, some b6, some b1] Z w') v66 r64 ∧ True) (fun _ => [])]) mixed rfl rfl rfl (fun _ => rfl) (fun _ => rfl) ?_ ?_
   ·
    intro W1 _
    exact ⟨fun v Z Z' w w' hΦ hz _ _ hs => by obtain ⟨v66, rfl, k67, -⟩ := hΦ; exact ⟨v66, rfl, (k67.mono (Zv.stay hz hs)), trivial⟩, trivial⟩
   ·
    intro w69 hE70
    have hL71 := hL60.ext hE70
    have K72 := Keep.ext (s := w.heap.size) (O := [some b11, some b6, some b1]) hE70
    refine DrH.det ?_ ?_
    ·
     rintro w73 Z74 hE75 hZ76 ⟨-⟩
     refine GOp.op (OpY.fieldAddr (q := 0) Try.underlying26 rfl ti4 rfl rfl rfl ?_)
     exact ⟨Ext.refl _, rfl⟩
    refine DrH.det ?_ ?_
    ·
     rintro w79 Z80 hE81 hZ82 ⟨-⟩
     have hL83 := hL71.ext hE81
     refine GOp.op (OpY.ldBox1 (v := (Value.bool a.Negative)) Try.underlying4 rfl rfl (hL83.at 2 rfl rfl) rfl ?_)
     exact ⟨Ext.refl _, rfl⟩
    refine DrH.det ?_ ?_
    ·
     rintro w85 Z86 hE87 hZ88 ⟨-⟩
     refine GOp.op (OpY.move (v := v18) rfl ?_)
     exact ⟨Ext.refl _, rfl⟩
    refine DrH.det ?_ ?_
    ·
     rintro w91 Z92 hE93 hZ94 ⟨-⟩
     refine GOp.op (OpY.move (v := v55) rfl ?_)
     exact ⟨Ext.refl _, rfl⟩
    refine DrH.rel ?_ ?_
    ·
     rintro w97 Z98 hE99 hZ100 ⟨-⟩
     have K102 := Keep.ext (s := w.heap.size) (O := [some b11, some b6, some b1]) hE99
     refine GOp.op (OpY.call en69 rfl rfl (rplus_w N r16 r53 v18 v55 _ Any ((((k19.mono (K61 None)).mono (K72 None)).mono (K102 None)).mono vw_any) (((k56.mono (K72 None)).mono (K102 None)).mono vw_any) r64 q65) ?_)
     rintro _ w103 hE104 ⟨v66, rfl, k67, -⟩
     exact Made.ext hE104 hZ100 NewOwn.nil (fun _ h => h) ⟨v66, rfl, (k67.mono Zv.made), trivial⟩
    intro z4
    refine DrH.fin0 ?_
    rintro w105 Z106 hE107 hZ108 ⟨⟨⟨v66, rfl, k67, -⟩, hB4⟩, -⟩ ap109
    have hB110 : ∀ b, some b ∈ ([] : List (Option Nat)) → w69.heap.size ≤ b ∧ ¬ Z106 b := by
     intro b hb; cases hb
    replace k67 := k67.mono (Zv.fin hL71 hZ108 hB110)
    have hL111 := hL71.ext hE107
    obtain ⟨r113, q114, h⟩ := bind_some h
    refine Rl.op (OpY.call en68 rfl rfl (rbig_w N a.Negative r64 v66 _ Any (k67.mono vw_any) r113 q114) ?_)
    rintro _ w118 hE121 ⟨v115, rfl, k116, -⟩
    replace k116 := k116.mono (Hv.freshO (S := None) hL111 [])
    have hL119 := hL111.ext hE121
    refine Rl.op0 (OpY.store (vs := [(Value.bool r113.Negative), v115]) ti26 rfl rfl rfl rfl (ones_cons rfl (ones_cons k116.one ones_nil)) hL119 0 rfl rfl (Nat.le_of_ble_eq_true rfl) ?_)
    intro w122 (hL123 : Go.X.Loc [] [] w w122 [some b11, some b6, some b1] [Cont.cells [(Value.bool r113.Negative), v115], Cont.cells [(Value.bool b.Negative), b_v], Cont.cells [(Value.bool a.Negative), a_v]]) hS125
    have K124 := Keep.step (s := w.heap.size) hS125
    refine Rl.nil ?_
    refine Swp.ret ?_
    obtain rfl := Option.some.inj h
    refine ⟨[(Value.agg #[(Value.bool r113.Negative), v115])], ⟨⟨⟨b11, 0, none⟩, rfl, res_boxA Try.underlying26 rfl ti26 (hL123.at 0 rfl rfl) rfl⟩, trivial⟩, ⟨_, rfl, hL123.done, ?_⟩⟩
    have f126 := (k116.mono (K124 None))
    exact ⟨v115, rfl, (f126.mono Hv.out), trivial⟩
  ·
   replace h := ite_f hc63 h
   refine Swp.skip ?_
   refine Swp.seq ?_
   refine Swp.seq ?_
   refine Swp.region rfl ?_
   refine Rl.op (OpY.move (v := v18) rfl ?_)
   refine Rl.op (OpY.move (v := v55) rfl ?_)
   obtain ⟨r127, q128, h⟩ := bind_some h
   have f130 := (k19.mono (K61 None))
   refine Rl.op (OpY.call en64 rfl rfl (rorder_w N r16 r53 v18 v55 _ Any (f130.mono vw_any) (k56.mono vw_any) r127 q128) ?_)
   rintro _ w131 hE134 ⟨rfl, -⟩
   have hL132 := hL60.ext hE134
   have K133 := Keep.ext (s := w.heap.size) (O := [some b11, some b6, some b1]) hE134
   refine Rl.op (OpY.geq (x := r127) (y := 0) ((r127 : Int) ≥ 0) rfl rfl Iff.rfl ?_)
   refine Rl.nil ?_
   refine Swp.cond_d ((r127 : Int) ≥ 0) rfl (fun hc135 => ?_) (fun hc135 => ?_)
   ·
    replace h := ite_t hc135 h
    refine Swp.seq ?_
    obtain ⟨r136, q137, h⟩ := bind_some h
    refine Swp.drawL 5 [] [] (fun W1 => [.det (Value.pointer (some ⟨b1, 0, none⟩)), .det (Value.bool a.Negative), .det v18, .det v55, .rel (fun v Z w' => ∃ v138, v138 = v ∧ Rs (rInt .i64) (Zv W1 w.heap.size None [some b11, some b6, some b1] Z w') v138 r136 ∧ True) (fun _ => [])]) mixed rfl rfl rfl (fun _ => rfl) (fun _ => rfl) ?_ ?_
    ·
     intro W1 _
     exact ⟨fun v Z Z' w w' hΦ hz _ _ hs => by obtain ⟨v138, rfl, k139, -⟩ := hΦ; exact ⟨v138, rfl, (k139.mono (Zv.stay hz hs)), trivial⟩, trivial⟩
    ·
     intro w141 hE142
     have hL143 := hL132.ext hE142
     have K144 := Keep.ext (s := w.heap.size) (O := [some b11, some b6, some b1]) hE142
     refine DrH.det ?_ ?_
     ·
      rintro w145 Z146 hE147 hZ148 ⟨-⟩
      refine GOp.op (OpY.fieldAddr (q := 0) Try.underlying26 rfl ti4 rfl rfl rfl ?_)
      exact ⟨Ext.refl _, rfl⟩
     refine DrH.det ?_ ?_
     ·
      rintro w151 Z152 hE153 hZ154 ⟨-⟩
      have hL155 := hL143.ext hE153
      refine GOp.op (OpY.ldBox1 (v := (Value.bool a.Negative)) Try.underlying4 rfl rfl (hL155.at 2 rfl rfl) rfl ?_)
      exact ⟨Ext.refl _, rfl⟩
     refine DrH.det ?_ ?_
     ·
      rintro w157 Z158 hE159 hZ160 ⟨-⟩
      refine GOp.op (OpY.move (v := v18) rfl ?_)
      exact ⟨Ext.refl _, rfl⟩
     refine DrH.det ?_ ?_
     ·
      rintro w163 Z164 hE165 hZ166 ⟨-⟩
      refine GOp.op (OpY.move (v := v55) rfl ?_)
      exact ⟨Ext.refl _, rfl⟩
     refine DrH.rel ?_ ?_
     ·
      rintro w169 Z170 hE171 hZ172 ⟨-⟩
      have K174 := Keep.ext (s := w.heap.size) (O := [some b11, some b6, some b1]) hE171
      refine GOp.op (OpY.call en70 rfl rfl (rminus_w N r16 r53 v18 v55 _ Any ((((f130.mono (K133 None)).mono (K144 None)).mono (K174 None)).mono vw_any) ((((k56.mono (K133 None)).mono (K144 None)).mono (K174 None)).mono vw_any) r136 q137) ?_)
      rintro _ w175 hE176 ⟨v138, rfl, k139, -⟩
      exact Made.ext hE176 hZ172 NewOwn.nil (fun _ h => h) ⟨v138, rfl, (k139.mono Zv.made), trivial⟩
     intro z4
     refine DrH.fin0 ?_
     rintro w177 Z178 hE179 hZ180 ⟨⟨⟨v138, rfl, k139, -⟩, hB4⟩, -⟩ ap181
     have hB182 : ∀ b, some b ∈ ([] : List (Option Nat)) → w141.heap.size ≤ b ∧ ¬ Z178 b := by
      intro b hb; cases hb
     replace k139 := k139.mono (Zv.fin hL143 hZ180 hB182)
     have hL183 := hL143.ext hE179
     obtain ⟨r185, q186, h⟩ := bind_some h
     refine Rl.op (OpY.call en68 rfl rfl (rbig_w N a.Negative r136 v138 _ Any (k139.mono vw_any) r185 q186) ?_)
     rintro _ w190 hE193 ⟨v187, rfl, k188, -⟩
     replace k188 := k188.mono (Hv.freshO (S := None) hL183 [])
     have hL191 := hL183.ext hE193
     refine Rl.op0 (OpY.store (vs := [(Value.bool r185.Negative), v187]) ti26 rfl rfl rfl rfl (ones_cons rfl (ones_cons k188.one ones_nil)) hL191 0 rfl rfl (Nat.le_of_ble_eq_true rfl) ?_)
     intro w194 (hL195 : Go.X.Loc [] [] w w194 [some b11, some b6, some b1] [Cont.cells [(Value.bool r185.Negative), v187], Cont.cells [(Value.bool b.Negative), b_v], Cont.cells [(Value.bool a.Negative), a_v]]) hS197
     have K196 := Keep.step (s := w.heap.size) hS197
     refine Rl.nil ?_
     refine Swp.ret ?_
     obtain rfl := Option.some.inj h
     refine ⟨[(Value.agg #[(Value.bool r185.Negative), v187])], ⟨⟨⟨b11, 0, none⟩, rfl, res_boxA Try.underlying26 rfl ti26 (hL195.at 0 rfl rfl) rfl⟩, trivial⟩, ⟨_, rfl, hL195.done, ?_⟩⟩
     have f198 := (k188.mono (K196 None))
     exact ⟨v187, rfl, (f198.mono Hv.out), trivial⟩
   ·
    replace h := ite_f hc135 h
    refine Swp.skip ?_
    refine Swp.seq ?_
    obtain ⟨r199, q200, h⟩ := bind_some h
    refine Swp.drawL 5 [] [] (fun W1 => [.det (Value.pointer (some ⟨b6, 0, none⟩)), .det (Value.bool b.Negative), .det v55, .det v18, .rel (fun v Z w' => ∃ v201, v201 = v ∧ Rs (rInt .i64) (Zv W1 w.heap.size None [some b11, some b6, some b1] Z w') v201 r199 ∧ True) (fun _ => [])]) mixed rfl rfl rfl (fun _ => rfl) (fun _ => rfl) ?_ ?_
    ·
     intro W1 _
     exact ⟨fun v Z Z' w w' hΦ hz _ _ hs => by obtain ⟨v201, rfl, k202, -⟩ := hΦ; exact ⟨v201, rfl, (k202.mono (Zv.stay hz hs)), trivial⟩, trivial⟩
    ·
     intro w204 hE205
     have hL206 := hL132.ext hE205
     have K207 := Keep.ext (s := w.heap.size) (O := [some b11, some b6, some b1]) hE205
     refine DrH.det ?_ ?_
     ·
      rintro w208 Z209 hE210 hZ211 ⟨-⟩
      refine GOp.op (OpY.fieldAddr (q := 0) Try.underlying26 rfl ti4 rfl rfl rfl ?_)
      exact ⟨Ext.refl _, rfl⟩
     refine DrH.det ?_ ?_
     ·
      rintro w214 Z215 hE216 hZ217 ⟨-⟩
      have hL218 := hL206.ext hE216
      refine GOp.op (OpY.ldBox1 (v := (Value.bool b.Negative)) Try.underlying4 rfl rfl (hL218.at 1 rfl rfl) rfl ?_)
      exact ⟨Ext.refl _, rfl⟩
     refine DrH.det ?_ ?_
     ·
      rintro w220 Z221 hE222 hZ223 ⟨-⟩
      refine GOp.op (OpY.move (v := v55) rfl ?_)
      exact ⟨Ext.refl _, rfl⟩
     refine DrH.det ?_ ?_
     ·
      rintro w226 Z227 hE228 hZ229 ⟨-⟩
      refine GOp.op (OpY.move (v := v18) rfl ?_)
      exact ⟨Ext.refl _, rfl⟩
     refine DrH.rel ?_ ?_
     ·
      rintro w232 Z233 hE234 hZ235 ⟨-⟩
      have K237 := Keep.ext (s := w.heap.size) (O := [some b11, some b6, some b1]) hE234
      refine GOp.op (OpY.call en70 rfl rfl (rminus_w N r53 r16 v55 v18 _ Any ((((k56.mono (K133 None)).mono (K207 None)).mono (K237 None)).mono vw_any) ((((f130.mono (K133 None)).mono (K207 None)).mono (K237 None)).mono vw_any) r199 q200) ?_)
      rintro _ w238 hE239 ⟨v201, rfl, k202, -⟩
      exact Made.ext hE239 hZ235 NewOwn.nil (fun _ h => h) ⟨v201, rfl, (k202.mono Zv.made), trivial⟩
     intro z4
     refine DrH.fin0 ?_
     rintro w240 Z241 hE242 hZ243 ⟨⟨⟨v201, rfl, k202, -⟩, hB4⟩, -⟩ ap244
     have hB245 : ∀ b, some b ∈ ([] : List (Option Nat)) → w204.heap.size ≤ b ∧ ¬ Z241 b := by
      intro b hb; cases hb
     replace k202 := k202.mono (Zv.fin hL206 hZ243 hB245)
     have hL246 := hL206.ext hE242
     obtain ⟨r248, q249, h⟩ := bind_some h
     refine Rl.op (OpY.call en68 rfl rfl (rbig_w N b.Negative r199 v201 _ Any (k202.mono vw_any) r248 q249) ?_)
     rintro _ w253 hE256 ⟨v250, rfl, k251, -⟩
     replace k251 := k251.mono (Hv.freshO (S := None) hL246 [])
     have hL254 := hL246.ext hE256
     refine Rl.op0 (OpY.store (vs := [(Value.bool r248.Negative), v250]) ti26 rfl rfl rfl rfl (ones_cons rfl (ones_cons k251.one ones_nil)) hL254 0 rfl rfl (Nat.le_of_ble_eq_true rfl) ?_)
     intro w257 (hL258 : Go.X.Loc [] [] w w257 [some b11, some b6, some b1] [Cont.cells [(Value.bool r248.Negative), v250], Cont.cells [(Value.bool b.Negative), b_v], Cont.cells [(Value.bool a.Negative), a_v]]) hS260
     have K259 := Keep.step (s := w.heap.size) hS260
     refine Rl.nil ?_
     refine Swp.ret ?_
     obtain rfl := Option.some.inj h
     refine ⟨[(Value.agg #[(Value.bool r248.Negative), v250])], ⟨⟨⟨b11, 0, none⟩, rfl, res_boxA Try.underlying26 rfl ti26 (hL258.at 0 rfl rfl) rfl⟩, trivial⟩, ⟨_, rfl, hL258.done, ?_⟩⟩
     have f261 := (k251.mono (K259 None))
     exact ⟨v250, rfl, (f261.mono Hv.out), trivial⟩
theorem rtimes_w (N : Nat) (a : (List Int)) (d : Int) (a_v : Value) (w : World) (S : Nat → Prop) (a_h : Rs (rInt .i64) (Hv w.heap.size S [] w) a_v a) (r : (List Int)) (h : rtimes N a d = some r) :
  Calls Try.prog 71 #[a_v, (Value.int .i64 d)] w (Ret w (fun v w' => ∃ (v0_0 : Value), v0_0 = v ∧ Rs (rInt .i64) (Hv w.heap.size None [] w') v0_0 r ∧ True)) := by
 unfold rtimes at h
 have hL : Go.X.Loc [] [] w w [] [] := Go.X.Loc.begin0 w
 refine calls_of (l := [a_v, (Value.int .i64 d)]) (rl := [.tmp 4]) (n := 40) Try.func71 rfl rfl rfl (Nat.le_of_ble_eq_true rfl) ?_
 refine Swp.seq ?_
 refine Swp.region rfl ?_
 refine Rl.op (OpY.assign (v := (Value.slice none 0 0)) rfl ?_)
 refine Rl.nil ?_
 refine Swp.seq ?_
 refine Swp.region rfl ?_
 refine Rl.op (OpY.litRow0 Try.underlying91 ti3 hL ?_)
 intro b1 w5 (hL6 : Go.X.Loc [] [] w w5 [some b1] [Cont.cells ([] ++ ([] ++ []))]) hS8
 have hE9 : Els (rInt .i64) (Hv w.heap.size None [] w) [] [] := Els.nil
 have K7 := Keep.step (s := w.heap.size) hS8
 refine Rl.op (OpY.assign (v := (osv (some b1) 0 (List.length ([] : (List Int))) 0)) rfl ?_)
 refine Rl.nil ?_
 refine Swp.seq ?_
 refine Swp.region rfl ?_
 refine Rl.op (OpY.assign (v := (Value.int .i64 0)) rfl ?_)
 refine Rl.nil ?_
 refine Swp.seq ?_
 refine Swp.seq ?_
 refine Swp.region rfl ?_
 refine Rl.op (OpY.assign (v := (Value.int .i64 0)) rfl ?_)
 refine Rl.nil ?_
 obtain ⟨s196, hl198, g197⟩ := bind_some h
 refine Swp.join (fun e w' => ∃ (out192 : (List Int)) (ob188 : Option Nat) (cap189 : Nat) (sp190 : List Value) (cs191 : List Value) (ln195 : Nat) (u : Env), out192 = s196 ∧ e = upds [(5, (osv ob188 0 ln195 cap189))] u ∧ Go.X.Loc [] [] w w' [ob188] [Cont.cells ([] ++ (cs191 ++ sp190))] ∧ Keep w.heap.size [some b1] w5 [ob188] w' ∧ Els (rInt .i64) (Hv w.heap.size None [ob188] w') cs191 out192 ∧ ln195 = List.length out192 ∧ (cs191 ++ sp190).length = cap189 * (rInt .i64).sz ∧ True) ?_ ?_
 ·
  refine Swp.block ?_
  have f200 := (hE9.mono (K7 None))
  refine Swp.loopM hl198 (fun (ss : ((List Int) × Int × Int)) (e : Env) (w' : World) => match ss with | (out181, carry185, i186) => ∃ (ob177 : Option Nat) (cap178 : Nat) (sp179 : List Value) (cs180 : List Value) (ln184 : Nat) (u : Env), e = upds [(0, a_v), (1, (Value.int .i64 d)), (5, (osv ob177 0 ln184 cap178)), (6, (Value.int .i64 carry185)), (7, (Value.int .i64 i186))] u ∧ Go.X.Loc [] [] w w' [ob177] [Cont.cells ([] ++ (cs180 ++ sp179))] ∧ Keep w.heap.size [some b1] w5 [ob177] w' ∧ Els (rInt .i64) (Hv w.heap.size None [ob177] w') cs180 out181 ∧ ln184 = List.length out181 ∧ (cs180 ++ sp179).length = cap178 * (rInt .i64).sz ∧ True) ⟨some b1, 0, [], [], (List.length ([] : (List Int))), _, (upds_sym ⟨rfl, ⟨rfl, ⟨rfl, ⟨rfl, ⟨rfl, trivial⟩⟩⟩⟩⟩), hL6, Keep.refl, f200, rfl, (show ([] ++ [] : List Value).length = 0 * (rInt .i64).sz by simp), trivial⟩ ?_
  rintro ⟨out181, carry185, i186⟩ oo _ w201 ⟨ob177, cap178, sp179, cs180, ln184, u, rfl, hL202, K203, hE182, rfl, hc183, -⟩ h hd199
  rw [rtimes_b1] at h
  refine Swp.seq ?_
  refine Swp.seq ?_
  obtain ⟨s208, h, g209⟩ := bind_some h
  refine Swp.join (fun e w' => ∃ (x207 : Bool) (u : Env), x207 = s208 ∧ e = upds [(0, a_v), (1, (Value.int .i64 d)), (5, (osv ob177 0 (List.length out181) cap178)), (6, (Value.int .i64 carry185)), (7, (Value.int .i64 i186)), (16, (Value.bool x207))] u ∧ Go.X.Loc [] [] w w' [ob177] [Cont.cells ([] ++ (cs180 ++ sp179))] ∧ Keep w.heap.size [ob177] w201 [ob177] w' ∧ True) ?_ ?_
  ·
   refine Swp.region rfl ?_
   refine Rl.op (OpY.move (v := (Value.int .i64 i186)) rfl ?_)
   refine Rl.op (OpY.move (v := a_v) rfl ?_)
   have f210 := ((a_h.mono (K7 S)).mono (K203 S))
   refine Rl.op (OpY.lenRo (v := a_v) Try.underlying91 rfl f210 ?_)
   refine Rl.op (OpY.lss (x := i186) (y := (List.length a : Int)) ((i186 : Int) < (List.length a : Int)) rfl rfl Iff.rfl ?_)
   refine Rl.op (OpY.move (v := (Value.bool (decide ((i186 : Int) < (List.length a : Int))))) rfl ?_)
   by_cases hc211 : (i186 : Int) < (List.length a : Int)
   ·
    replace h := ite_t hc211 h
    refine Rl.no (dj := 13) (b' := (decide ((i186 : Int) < (List.length a : Int)))) rfl rfl (decide_eq_true hc211) ?_
    refine Rl.no (dj := 13) (b' := (decide ((i186 : Int) < (List.length a : Int)))) rfl rfl (decide_eq_true hc211) ?_
    refine Rl.op (OpY.pick_t (t := (decide ((i186 : Int) < (List.length a : Int)))) (v := (Value.bool true)) rfl (decide_eq_true hc211) rfl ?_)
    refine Rl.nil ?_
    obtain rfl := Option.some.inj h
    refine Swp.pop_back ?_
    exact ⟨true, _, rfl, (upds_sym ⟨rfl, ⟨rfl, ⟨rfl, ⟨rfl, ⟨rfl, ⟨rfl, trivial⟩⟩⟩⟩⟩⟩), hL202, Keep.refl, trivial⟩
   ·
    replace h := ite_f hc211 h
    refine Rl.yes (dj := 13) (b' := (decide ((i186 : Int) < (List.length a : Int)))) rfl rfl (decide_eq_false hc211) (OpY.move (v := (Value.int .i64 carry185)) rfl ?_)
    refine Rl.yes (dj := 13) (b' := (decide ((i186 : Int) < (List.length a : Int)))) rfl rfl (decide_eq_false hc211) (OpY.gtr (x := carry185) (y := 0) ((carry185 : Int) > 0) rfl rfl Iff.rfl ?_)
    refine Rl.op (OpY.pick_f (t := (decide ((i186 : Int) < (List.length a : Int)))) (v := (Value.bool (decide ((carry185 : Int) > 0)))) rfl (decide_eq_false hc211) rfl ?_)
    refine Rl.nil ?_
    obtain rfl := Option.some.inj h
    refine Swp.pop_back ?_
    exact ⟨(decide ((carry185 : Int) > 0)), _, rfl, (upds_sym ⟨rfl, ⟨rfl, ⟨rfl, ⟨rfl, ⟨rfl, ⟨rfl, trivial⟩⟩⟩⟩⟩⟩), hL202, Keep.refl, trivial⟩
  ·
   rintro _ w212 ⟨x207, u, rfl, rfl, hL213, K214, -⟩
   replace h := g209
   try dsimp only at h
   refine Swp.cond_b x207 rfl (fun hc215 => ?_) (fun hc215 => ?_)
   ·
    replace h := ite_t hc215 h
    refine Swp.skip ?_
    refine Swp.seq ?_
    refine Swp.block ?_
    refine Swp.seq ?_
    refine Swp.seq ?_
    refine Swp.region rfl ?_
    refine Rl.op (OpY.move (v := (Value.int .i64 i186)) rfl ?_)
    refine Rl.op (OpY.move (v := a_v) rfl ?_)
    have f216 := (((a_h.mono (K7 S)).mono (K203 S)).mono (K214 S))
    refine Rl.op (OpY.lenRo (v := a_v) Try.underlying91 rfl f216 ?_)
    refine Rl.op (OpY.lss (x := i186) (y := (List.length a : Int)) ((i186 : Int) < (List.length a : Int)) rfl rfl Iff.rfl ?_)
    refine Rl.nil ?_
    obtain ⟨s233, h, g234⟩ := bind_some h
    refine Swp.join (fun e w' => ∃ (carry232 : Int) (u : Env), carry232 = s233 ∧ e = upds [(0, a_v), (1, (Value.int .i64 d)), (5, (osv ob177 0 (List.length out181) cap178)), (6, (Value.int .i64 carry232)), (7, (Value.int .i64 i186))] u ∧ Go.X.Loc [] [] w w' [ob177] [Cont.cells ([] ++ (cs180 ++ sp179))] ∧ Keep w.heap.size [ob177] w212 [ob177] w' ∧ True) ?_ ?_
    ·
     refine Swp.cond_d ((i186 : Int) < (List.length a : Int)) rfl (fun hc235 => ?_) (fun hc235 => ?_)
     ·
      replace h := ite_t hc235 h
      refine Swp.region rfl ?_
      refine Rl.op (OpY.move (v := (Value.int .i64 carry185)) rfl ?_)
      refine Rl.op (OpY.move (v := a_v) rfl ?_)
      refine Rl.op (OpY.move (v := (Value.int .i64 i186)) rfl ?_)
      obtain ⟨x236, q237, h⟩ := bind_some h
      obtain ⟨n238, q239, q240⟩ := idx_some q237
      obtain ⟨b241, o242, c243, vs244, q245, q246, f247, q248⟩ := Rs.get f216 q240
      obtain rfl := q248
      refine Rl.op (OpY.ixRoD (r := (rInt .i64)) (v := a_v) (n := n238) (m := (o242 + n238 * (rInt .i64).sz)) Try.underlying91 ti3 rfl q245 rfl q239 q240 rfl ?_)
      refine Rl.op (OpY.ldRo1 (v := (Value.int .i64 x236)) Try.underlying3 rfl rfl vw_view f247 ?_)
      refine Rl.op (OpY.move (v := (Value.int .i64 d)) rfl ?_)
      refine Rl.op (OpY.mul (x := x236) (y := d) (z := (iw (x236 * d))) rfl rfl rfl ?_)
      refine Rl.op (OpY.add (x := carry185) (y := (iw (x236 * d))) (z := (iw (carry185 + (iw (x236 * d))))) rfl rfl rfl ?_)
      refine Rl.op (OpY.assign (v := (Value.int .i64 (iw (carry185 + (iw (x236 * d)))))) rfl ?_)
      refine Rl.nil ?_
      obtain rfl := Option.some.inj h
      refine Swp.pop_back ?_
      exact ⟨(iw (carry185 + (iw (x236 * d)))), _, rfl, (upds_sym ⟨rfl, ⟨rfl, ⟨rfl, ⟨rfl, ⟨rfl, trivial⟩⟩⟩⟩⟩), hL213, Keep.refl, trivial⟩
     ·
      replace h := ite_f hc235 h
      refine Swp.skip ?_
      obtain rfl := Option.some.inj h
      refine Swp.pop_back ?_
      exact ⟨carry185, _, rfl, (upds_sym ⟨rfl, ⟨rfl, ⟨rfl, ⟨rfl, ⟨rfl, trivial⟩⟩⟩⟩⟩), hL213, Keep.refl, trivial⟩
    ·
     rintro _ w249 ⟨carry232, u, rfl, rfl, hL250, K251, -⟩
     replace h := g234
     try dsimp only at h
     refine Swp.seq ?_
     refine Swp.region rfl ?_
     refine Rl.op (OpY.move (v := (osv ob177 0 (List.length out181) cap178)) rfl ?_)
     refine Rl.op (OpY.move (v := (Value.int .i64 carry232)) rfl ?_)
     refine Rl.op (OpY.remI (x := carry232) (y := 65536) rfl rfl (by decide) ?_)
     have hE253 : Els (rInt .i64) (Hv w.heap.size None [ob177] w249) [(Value.int .i64 (Int.tmod carry232 65536))] [(Int.tmod carry232 65536)] := (Els.cons (a := [(Value.int .i64 (Int.tmod carry232 65536))]) rfl Els.nil)
     refine Rl.op (OpY.litRow (r := (rInt .i64)) (vs := [(Value.int .i64 (Int.tmod carry232 65536))]) (css := [[(Value.int .i64 (Int.tmod carry232 65536))]]) (xs := [(Int.tmod carry232 65536)]) Try.underlying91 ti3 (Nat.le_of_ble_eq_true rfl) rfl rfl ⟨rfl, rfl, trivial⟩ (Nat.le_of_ble_eq_true rfl) hE253 rfl hL250 ?_)
     intro b252 w256 hc254 (hL257 : Go.X.Loc [] [] w w256 [some b252, ob177] [Cont.cells ([] ++ ([(Value.int .i64 (Int.tmod carry232 65536))] ++ [])), Cont.cells ([] ++ (cs180 ++ sp179))]) hS259
     have K258 := Keep.step (s := w.heap.size) hS259
     obtain ⟨x260, q261, h⟩ := bind_some h
     obtain ⟨q262, q263, q264⟩ := apnd_some q261
     have f265 := (hE253.mono (K258 None))
     have f273 := (((hE182.mono (K214 None)).mono (K251 None)).mono (K258 None))
     refine Rl.op (OpY.apRowX (r := (rInt .i64)) (H := (Hv w.heap.size None [some b252, ob177] w256)) (cs := cs180) (sp := sp179) (xs := out181) (ys := [(Int.tmod carry232 65536)]) (Y := x260) (n := (List.length out181)) (cap := cap178) (i := 1) Try.underlying91 ti3 rfl rfl rfl rfl hL257 rfl rfl f273 rfl hc183 (Src.row (pre := []) (o := 0) (n := 1) (cap := 1) (hL257.at 0 rfl rfl) f265 rfl rfl rfl) (Els.anyH (fun _ _ _ _ h => h) f265) q262 q263 q264 ?_)
     intro ob266 cap267 sp269 cs268 w274 hE270 hc271 (hL275 : Go.X.Loc [] [] w w274 [some b252, ob266] [Cont.cells ([] ++ ([(Value.int .i64 (Int.tmod carry232 65536))] ++ [])), Cont.cells ([] ++ (cs268 ++ sp269))]) hS277
     have K276 := Keep.step (s := w.heap.size) hS277
     refine Rl.op (OpY.assign (v := (osv ob266 0 (List.length x260) cap267)) rfl ?_)
     refine Rl.nil ?_
     refine Swp.region rfl ?_
     refine Rl.op (OpY.move (v := (Value.int .i64 carry232)) rfl ?_)
     refine Rl.op (OpY.quoI (x := carry232) (y := 65536) (z := (iw (Int.tdiv carry232 65536))) rfl rfl (by decide) rfl ?_)
     refine Rl.op (OpY.assign (v := (Value.int .i64 (iw (Int.tdiv carry232 65536)))) rfl ?_)
     refine Rl.nil ?_
     refine Swp.pop_blk ?_
     refine Swp.region rfl ?_
     refine Rl.op (OpY.move (v := (Value.int .i64 i186)) rfl ?_)
     refine Rl.op (OpY.add (x := i186) (y := 1) (z := (iw (i186 + 1))) rfl rfl rfl ?_)
     refine Rl.op (OpY.assign (v := (Value.int .i64 (iw (i186 + 1)))) rfl ?_)
     refine Rl.nil ?_
     have hp278 := hL275.pick [1] rfl rfl rfl
     have hL280 : Go.X.Loc [] [] w w274 [ob266] [Cont.cells ([] ++ (cs268 ++ sp269))] := hp278.1
     have K279 := Keep.step (s := w.heap.size) hp278.2
     have f281 := ((hE270.mono (K276 None)).mono (K279 None))
     obtain rfl := Option.some.inj h
     refine Swp.pop_back ⟨(x260, (iw (Int.tdiv carry232 65536)), (iw (i186 + 1))), rfl, ?_⟩
     exact ⟨ob266, cap267, sp269, cs268, (List.length x260), _, (upds_sym ⟨rfl, ⟨rfl, ⟨rfl, ⟨rfl, ⟨rfl, trivial⟩⟩⟩⟩⟩), hL280, (Keep.trans (Keep.trans (Keep.trans (Keep.trans (Keep.trans K203 K214) K251) K258) K276) K279), f281, rfl, hc271, trivial⟩
   ·
    replace h := ite_f hc215 h
    refine Swp.exit rfl ?_
    have f282 := (hE182.mono (K214 None))
    obtain rfl := Option.some.inj h
    obtain rfl := hd199 _ rfl
    replace h := g197
    try dsimp only at h
    skip
    refine Swp.pop_back ?_
    exact ⟨out181, ob177, cap178, sp179, cs180, (List.length out181), _, rfl, (upds_sym ⟨rfl, trivial⟩), hL213, (Keep.trans K203 K214), f282, rfl, hc183, trivial⟩
 ·
  rintro _ w283 ⟨out192, ob188, cap189, sp190, cs191, ln195, u, rfl, rfl, hL284, K285, hE193, rfl, hc194, -⟩
  replace h := g197
  try dsimp only at h
  refine Swp.seq ?_
  refine Swp.region rfl ?_
  refine Rl.op (OpY.move (v := (osv ob188 0 (List.length out192) cap189)) rfl ?_)
  have f286 := hL284.freezeRow 0 rfl rfl hE193 rfl rfl rfl hc194
  have hp287 := hL284.pick [] rfl rfl rfl
  have hL289 : Go.X.Loc [] [] w w283 [] [] := hp287.1
  obtain ⟨r290, q291, h⟩ := bind_some h
  refine Rl.op (OpY.call en82 rfl rfl (rtrim_w N out192 (osv ob188 0 (List.length out192) cap189) _ _ (f286.mono Hv.enter) r290 q291) ?_)
  rintro _ w295 hE298 ⟨v292, rfl, k293, -⟩
  replace k293 := k293.mono (Hv.aliasO (S := None) hL289 [])
  have hL296 := hL289.ext hE298
  refine Rl.op (OpY.assign (v := v292) rfl ?_)
  refine Rl.nil ?_
  refine Swp.ret ?_
  obtain rfl := Option.some.inj h
  refine ⟨[v292], ⟨rfl, trivial⟩, ⟨_, rfl, hL296.done, ?_⟩⟩
  exact ⟨v292, rfl, (k293.mono Hv.out), trivial⟩
theorem rMul_w (N : Nat) (a : Big) (b : Big) (a_v : Value) (b_v : Value) (w : World) (S : Nat → Prop) (a_h : Rs (rInt .u32) (Hv w.heap.size S [] w) a_v a.Digits) (b_h : Rs (rInt .u32) (Hv w.heap.size S [] w) b_v b.Digits) (r : Big) (h : rMul N a b = some r) :
  Calls Try.prog 39 #[(Value.agg #[(Value.bool a.Negative), a_v]), (Value.agg #[(Value.bool b.Negative), b_v])] w (Ret w (fun v w' => ∃ (v0_0 : Value), (Value.agg #[(Value.bool r.Negative), v0_0]) = v ∧ Rs (rInt .u32) (Hv w.heap.size None [] w') v0_0 r.Digits ∧ True)) := by
 unfold rMul at h
 have hL : Go.X.Loc [] [] w w [] [] := Go.X.Loc.begin0 w
 refine calls_of (l := [(Value.agg #[(Value.bool a.Negative), a_v]), (Value.agg #[(Value.bool b.Negative), b_v])]) (rl := [.cell 4 26]) (n := 38) Try.func39 rfl rfl rfl (Nat.le_of_ble_eq_true rfl) ?_
 refine Swp.seq ?_
 refine Swp.region rfl ?_
 refine Rl.op (OpY.box (cs := [(Value.bool a.Negative), a_v]) rfl rfl hL ?_)
 intro b1 w2 (hL3 : Go.X.Loc [] [] w w2 [some b1] [Cont.cells [(Value.bool a.Negative), a_v]]) hS5
 have K4 := Keep.step (s := w.heap.size) hS5
 refine Rl.op (OpY.box (cs := [(Value.bool b.Negative), b_v]) rfl rfl hL3 ?_)
 intro b6 w7 (hL8 : Go.X.Loc [] [] w w7 [some b6, some b1] [Cont.cells [(Value.bool b.Negative), b_v], Cont.cells [(Value.bool a.Negative), a_v]]) hS10
 have K9 := Keep.step (s := w.heap.size) hS10
 refine Rl.op (OpY.alloc (cs := [(Value.bool false), (Value.slice none 0 0)]) ti26 rfl hL8 ?_)
 intro b11 w12 (hL13 : Go.X.Loc [] [] w w12 [some b11, some b6, some b1] [Cont.cells [(Value.bool false), (Value.slice none 0 0)], Cont.cells [(Value.bool b.Negative), b_v], Cont.cells [(Value.bool a.Negative), a_v]]) hS15
 have K14 := Keep.step (s := w.heap.size) hS15
 refine Rl.nil ?_
 refine Swp.seq ?_
 obtain ⟨r16, q17, h⟩ := bind_some h
 refine Swp.drawL 3 [] [] (fun W1 => [.det (Value.agg #[(Value.bool a.Negative), a_v]), .rel (fun v Z w' => ∃ v18, v18 = v ∧ Rs (rInt .i64) (Zv W1 w.heap.size None [some b11, some b6, some b1] Z w') v18 r16 ∧ True) (fun _ => []), .det (Value.agg #[(Value.bool b.Negative), b_v])]) mixed rfl rfl rfl (fun _ => rfl) (fun _ => rfl) ?_ ?_
 ·
  intro W1 _
  exact ⟨fun v Z Z' w w' hΦ hz _ _ hs => by obtain ⟨v18, rfl, k19, -⟩ := hΦ; exact ⟨v18, rfl, (k19.mono (Zv.stay hz hs)), trivial⟩, trivial⟩
 ·
  intro w21 hE22
  have hL23 := hL13.ext hE22
  have K24 := Keep.ext (s := w.heap.size) (O := [some b11, some b6, some b1]) hE22
  refine DrH.det ?_ ?_
  ·
   rintro w25 Z26 hE27 hZ28 ⟨-⟩
   have hL29 := hL23.ext hE27
   refine GOp.op (OpY.ldBoxA (vs := [(Value.bool a.Negative), a_v]) Try.underlying26 rfl ti26 rfl (hL29.at 2 rfl rfl) rfl rfl ?_)
   exact ⟨Ext.refl _, rfl⟩
  refine DrH.rel ?_ ?_
  ·
   rintro w31 Z32 hE33 hZ34 ⟨-⟩
   have K36 := Keep.ext (s := w.heap.size) (O := [some b11, some b6, some b1]) hE33
   refine GOp.op (OpY.call en65 rfl rfl (halves_w N a a_v _ Any ((((((a_h.mono (K4 S)).mono (K9 S)).mono (K14 S)).mono (K24 S)).mono (K36 S)).mono vw_any) r16 q17) ?_)
   rintro _ w37 hE38 ⟨v18, rfl, k19, -⟩
   exact Made.ext hE38 hZ34 NewOwn.nil (fun _ h => h) ⟨v18, rfl, (k19.mono Zv.made), trivial⟩
  intro z1
  refine DrH.det ?_ ?_
  ·
   rintro w39 Z40 hE41 hZ42 ⟨-, -⟩
   have hL43 := hL23.ext hE41
   refine GOp.op (OpY.ldBoxA (vs := [(Value.bool b.Negative), b_v]) Try.underlying26 rfl ti26 rfl (hL43.at 1 rfl rfl) rfl rfl ?_)
   exact ⟨Ext.refl _, rfl⟩
  refine DrH.fin0 ?_
  rintro w45 Z46 hE47 hZ48 ⟨⟨⟨v18, rfl, k19, -⟩, hB1⟩, -⟩ ap49
  have hB50 : ∀ b, some b ∈ ([] : List (Option Nat)) → w21.heap.size ≤ b ∧ ¬ Z46 b := by
   intro b hb; cases hb
  replace k19 := k19.mono (Zv.fin hL23 hZ48 hB50)
  have hL51 := hL23.ext hE47
  have K52 := Keep.ext (s := w.heap.size) (O := [some b11, some b6, some b1]) hE47
  obtain ⟨r53, q54, h⟩ := bind_some h
  have f58 := (((((b_h.mono (K4 S)).mono (K9 S)).mono (K14 S)).mono (K24 S)).mono (K52 S))
  refine Rl.op (OpY.call en65 rfl rfl (halves_w N b b_v _ Any (f58.mono vw_any) r53 q54) ?_)
  rintro _ w59 hE62 ⟨v55, rfl, k56, -⟩
  replace k56 := k56.mono (Hv.freshO (S := None) hL51 [])
  have hL60 := hL51.ext hE62
  have K61 := Keep.ext (s := w.heap.size) (O := [some b11, some b6, some b1]) hE62
  refine Rl.op (OpY.assign (v := v18) rfl ?_)
  refine Rl.op (OpY.assign (v := v55) rfl ?_)
  refine Rl.nil ?_
  refine Swp.seq ?_
  refine Swp.region rfl ?_
  refine Rl.op (OpY.litRow0 Try.underlying91 ti3 hL60 ?_)
  intro b63 w67 (hL68 : Go.X.Loc [] [] w w67 [some b63, some b11, some b6, some b1] [Cont.cells ([] ++ ([] ++ [])), Cont.cells [(Value.bool false), (Value.slice none 0 0)], Cont.cells [(Value.bool b.Negative), b_v], Cont.cells [(Value.bool a.Negative), a_v]]) hS70
  have hE71 : Els (rInt .i64) (Hv w.heap.size None [some b11, some b6, some b1] w59) [] [] := Els.nil
  have K69 := Keep.step (s := w.heap.size) hS70
  refine Rl.op (OpY.assign (v := (osv (some b63) 0 (List.length ([] : (List Int))) 0)) rfl ?_)
  refine Rl.nil ?_
  refine Swp.seq ?_
  refine Swp.seq ?_
  refine Swp.region rfl ?_
  refine Rl.op (OpY.move (v := v55) rfl ?_)
  have f72 := (k56.mono (K69 None))
  refine Rl.op (OpY.lenRo (v := v55) Try.underlying91 rfl f72 ?_)
  refine Rl.op (OpY.sub (x := (List.length r53 : Int)) (y := 1) (z := (iw ((List.length r53 : Int) - 1))) rfl rfl rfl ?_)
  refine Rl.op (OpY.assign (v := (Value.int .i64 (iw ((List.length r53 : Int) - 1)))) rfl ?_)
  refine Rl.nil ?_
  obtain ⟨s356, hl358, g357⟩ := bind_some h
  refine Swp.join (fun e w' => ∃ (sum353 : (List Int)) (v354 : Value) (u : Env), sum353 = s356 ∧ e = upds [(2, (Value.pointer (some ⟨b1, 0, none⟩))), (3, (Value.pointer (some ⟨b6, 0, none⟩))), (4, (Value.pointer (some ⟨b11, 0, none⟩))), (7, v354)] u ∧ Go.X.Loc [] [] w w' [some b1, some b6, some b11] [Cont.cells [(Value.bool a.Negative), a_v], Cont.cells [(Value.bool b.Negative), b_v], Cont.cells [(Value.bool false), (Value.slice none 0 0)]] ∧ Keep w.heap.size [some b63, some b11, some b6, some b1] w67 [some b1, some b6, some b11] w' ∧ Rs (rInt .i64) (Hv w.heap.size None [some b1, some b6, some b11] w') v354 sum353 ∧ True) ?_ ?_
  ·
   refine Swp.block ?_
   have f361 := (hE71.mono (K69 None))
   have f360 := hL68.freezeRow 0 rfl rfl f361 rfl rfl rfl (show ([] ++ [] : List Value).length = 0 * (rInt .i64).sz by simp)
   have hp362 := hL68.pick [1, 2, 3] rfl rfl rfl
   have hL364 : Go.X.Loc [] [] w w67 [some b11, some b6, some b1] [Cont.cells [(Value.bool false), (Value.slice none 0 0)], Cont.cells [(Value.bool b.Negative), b_v], Cont.cells [(Value.bool a.Negative), a_v]] := hp362.1
   have K363 := Keep.step (s := w.heap.size) hp362.2
   have hp365 := hL364.pick [2, 1, 0] rfl rfl rfl
   have hL367 : Go.X.Loc [] [] w w67 [some b1, some b6, some b11] [Cont.cells [(Value.bool a.Negative), a_v], Cont.cells [(Value.bool b.Negative), b_v], Cont.cells [(Value.bool false), (Value.slice none 0 0)]] := hp365.1
   have K366 := Keep.step (s := w.heap.size) hp365.2
   have f368 := (f360.mono (K366 None))
   refine Swp.loopM hl358 (fun (ss : ((List Int) × Int)) (e : Env) (w' : World) => match ss with | (sum346, i349) => ∃ (v347 : Value) (u : Env), e = upds [(2, (Value.pointer (some ⟨b1, 0, none⟩))), (3, (Value.pointer (some ⟨b6, 0, none⟩))), (4, (Value.pointer (some ⟨b11, 0, none⟩))), (5, v18), (6, v55), (7, v347), (8, (Value.int .i64 i349))] u ∧ Go.X.Loc [] [] w w' [some b1, some b6, some b11] [Cont.cells [(Value.bool a.Negative), a_v], Cont.cells [(Value.bool b.Negative), b_v], Cont.cells [(Value.bool false), (Value.slice none 0 0)]] ∧ Keep w.heap.size [some b63, some b11, some b6, some b1] w67 [some b1, some b6, some b11] w' ∧ Rs (rInt .i64) (Hv w.heap.size None [some b1, some b6, some b11] w') v347 sum346 ∧ True) ⟨(osv (some b63) 0 (List.length ([] : (List Int))) 0), _, (upds_sym ⟨rfl, ⟨rfl, ⟨rfl, ⟨rfl, ⟨rfl, ⟨rfl, ⟨rfl, trivial⟩⟩⟩⟩⟩⟩⟩), hL367, (Keep.trans K363 K366), f368, trivial⟩ ?_
   rintro ⟨sum346, i349⟩ oo _ w369 ⟨v347, u, rfl, hL370, K371, k348, -⟩ h hd359
   rw [rMul_b1] at h
   refine Swp.seq ?_
   refine Swp.seq ?_
   refine Swp.region rfl ?_
   refine Rl.op (OpY.move (v := (Value.int .i64 i349)) rfl ?_)
   refine Rl.op (OpY.geq (x := i349) (y := 0) ((i349 : Int) ≥ 0) rfl rfl Iff.rfl ?_)
   refine Rl.nil ?_
   refine Swp.cond_d ((i349 : Int) ≥ 0) rfl (fun hc372 => ?_) (fun hc372 => ?_)
   ·
    replace h := ite_t hc372 h
    refine Swp.skip ?_
    refine Swp.seq ?_
    refine Swp.block ?_
    obtain ⟨x381, q382, h⟩ := bind_some h
    obtain ⟨q383, q384, q385⟩ := apnd_some q382
    obtain ⟨x394, q395, h⟩ := bind_some h
    obtain ⟨n396, q397, q398⟩ := idx_some q395
    have f407 := (f72.mono (K371 None))
    obtain ⟨b399, o400, c401, vs402, q403, q404, f405, q406⟩ := Rs.get f407 q398
    obtain rfl := q406
    refine Swp.drawL 8 [[], [], [0], [], [], [], [], []] [] (fun W1 => [.rel (fun v Z w' => ∃ b373 cs380, (osv (some b373) 0 1 1) = v ∧ OwnC w' (some b373) (Cont.cells ([] ++ (cs380 ++ []))) ∧ Els (rInt .i64) (Zv W1 w.heap.size None [some b1, some b6, some b11] Z w') cs380 [0] ∧ (cs380 ++ [] : List Value).length = 1 * (rInt .i64).sz ∧ True) footV, .det v347, .rel (fun v Z w' => ∃ ob386 cap387 cs388 sp389, (osv ob386 0 (List.length x381) cap387) = v ∧ OwnC w' ob386 (Cont.cells ([] ++ (cs388 ++ sp389))) ∧ Els (rInt .i64) (Zv W1 w.heap.size None [some b1, some b6, some b11] Z w') cs388 x381 ∧ (cs388 ++ sp389 : List Value).length = cap387 * (rInt .i64).sz ∧ True) footV, .det v18, .det v55, .det (Value.int .i64 i349), .det (Value.pointer (some ⟨b399, (o400 + n396 * (rInt .i64).sz), none⟩)), .det (Value.int .i64 x394)]) mixed rfl rfl rfl (fun _ => rfl) (fun _ => rfl) ?_ ?_
    ·
     intro W1 _
     exact ⟨fun v Z Z' w w' hΦ hz _ _ hs => by obtain ⟨b373, cs380, rfl, hO377, hE378, hc379, -⟩ := hΦ; exact ⟨b373, cs380, rfl, (hO377.stay (fun b hb => by cases hb; exact List.mem_cons_self) hs), (hE378.mono (Zv.stay hz hs)), hc379, trivial⟩, ⟨fun v Z Z' w w' hΦ hz _ _ hs => by obtain ⟨ob386, cap387, cs388, sp389, rfl, hO393, hE390, hc391, -⟩ := hΦ; exact ⟨ob386, cap387, cs388, sp389, rfl, (hO393.stay (fun b hb => (footV_osv (ob := ob386) (o := 0) (n := (List.length x381)) (cap := cap387)).2 (by rw [hb]; exact List.mem_cons_self)) hs), (hE390.mono (Zv.stay hz hs)), hc391, trivial⟩, trivial⟩⟩
    ·
     intro w408 hE409
     have hL410 := hL370.ext hE409
     have K411 := Keep.ext (s := w.heap.size) (O := [some b1, some b6, some b11]) hE409
     refine DrH.rel ?_ ?_
     ·
      rintro w412 Z413 hE414 hZ415 ⟨-⟩
      have hE374 : Els (rInt .i64) (Zv w408 w.heap.size None [some b1, some b6, some b11] Z413 w412) [(Value.int .i64 0)] [0] := (Els.cons (a := [(Value.int .i64 0)]) rfl Els.nil)
      refine GOp.op (OpY.litRow (r := (rInt .i64)) (vs := [(Value.int .i64 0)]) (css := [[(Value.int .i64 0)]]) (xs := [0]) Try.underlying91 ti3 (Nat.le_of_ble_eq_true rfl) rfl rfl ⟨rfl, rfl, trivial⟩ (Nat.le_of_ble_eq_true rfl) hE374 rfl (Go.X.Loc.begin0 w412) ?_)
      intro b373 w418 hc375 hL419 hS420
      have hN421 : NewOwn w412 w418 [some b373] [Cont.cells ([] ++ ([(Value.int .i64 0)] ++ []))] := hL419.newOwn [0] rfl rfl rfl
      exact Made.ext hL419.done hZ415 hN421 (fun _ h => h) ⟨b373, [(Value.int .i64 0)], rfl, hN421.2.2.1, (hE374.mono (Zv.grow hL419.done)), hc375, trivial⟩
     intro z0
     refine DrH.det ?_ ?_
     ·
      rintro w422 Z423 hE424 hZ425 ⟨-, -⟩
      refine GOp.op (OpY.move (v := v347) rfl ?_)
      exact ⟨Ext.refl _, rfl⟩
     refine DrH.rel ?_ ?_
     ·
      rintro w428 Z429 hE430 hZ431 ⟨⟨⟨b373, cs380, rfl, hO377, hE378, hc379, -⟩, hB0⟩, -⟩
      obtain ⟨ds434, q435, q436⟩ := Rs.src ((k348.mono (K411 None)).mono (Zv.old (Z := Z429) hE430))
      refine GOp.op (OpY.apRowX (r := (rInt .i64)) (H := (Zv w408 w.heap.size None [some b1, some b6, some b11] Z429 w428)) (cs := cs380) (sp := []) (xs := [0]) (ys := sum346) (Y := x381) (n := 1) (cap := 1) (i := 0) Try.underlying91 ti3 rfl rfl rfl rfl (Go.X.Loc.begin1 hO377) rfl rfl hE378 rfl hc379 q435 (Els.anyH (fun _ _ _ _ h => h) q436) q383 q384 q385 ?_)
      intro ob386 cap387 sp389 cs388 w437 hE390 hc391 (hL438 : Go.X.Loc [some b373] [] w428 w437 [ob386] [Cont.cells ([] ++ (cs388 ++ sp389))]) hS439
      exact Made.use hZ431 (fun b hb => hB0 b ((footV_osv (o := 0) (n := 1) (cap := 1)).2 hb)) hL438 (fun b hb => List.mem_append_left _ ((footV_osv (o := 0) (n := 1) (cap := 1)).2 (by rw [← hb]; exact List.mem_cons_self))) (fun b hb => footV_osv.1 hb) ⟨ob386, cap387, cs388, sp389, rfl, hL438.own.1, (hE390.mono (Zv.use (fun b hb => hB0 b ((footV_osv (o := 0) (n := 1) (cap := 1)).2 hb)) hL438)), hc391, trivial⟩
     intro z2
     refine DrH.det ?_ ?_
     ·
      rintro w440 Z441 hE442 hZ443 ⟨-, -, -⟩
      refine GOp.op (OpY.move (v := v18) rfl ?_)
      exact ⟨Ext.refl _, rfl⟩
     refine DrH.det ?_ ?_
     ·
      rintro w446 Z447 hE448 hZ449 ⟨-, -, -⟩
      refine GOp.op (OpY.move (v := v55) rfl ?_)
      exact ⟨Ext.refl _, rfl⟩
     refine DrH.det ?_ ?_
     ·
      rintro w452 Z453 hE454 hZ455 ⟨-, -, -⟩
      refine GOp.op (OpY.move (v := (Value.int .i64 i349)) rfl ?_)
      exact ⟨Ext.refl _, rfl⟩
     refine DrH.det ?_ ?_
     ·
      rintro w458 Z459 hE460 hZ461 ⟨-, -, -⟩
      refine GOp.op (OpY.ixRoD (r := (rInt .i64)) (v := v55) (n := n396) (m := (o400 + n396 * (rInt .i64).sz)) Try.underlying91 ti3 rfl q403 rfl q397 q398 rfl ?_)
      exact ⟨Ext.refl _, rfl⟩
     refine DrH.det ?_ ?_
     ·
      rintro w464 Z465 hE466 hZ467 ⟨-, -, -⟩
      have K469 := Keep.ext (s := w.heap.size) (O := [some b1, some b6, some b11]) hE466
      refine GOp.op (OpY.ldRo1 (v := (Value.int .i64 x394)) Try.underlying3 rfl rfl vw_view (At.mono (K469 None) (At.mono (K411 None) f405)) ?_)
      exact ⟨Ext.refl _, rfl⟩
     refine DrH.fin0 ?_
     rintro w470 Z471 hE472 hZ473 ⟨⟨⟨ob386, cap387, cs388, sp389, rfl, hO393, hE390, hc391, -⟩, hB2⟩, -, -⟩ ap474
     have hB475 : ∀ b, some b ∈ ([ob386] : List (Option Nat)) → w408.heap.size ≤ b ∧ ¬ Z471 b := by
      intro b hb
      rcases List.mem_cons.1 hb with hb' | hb
      ·
       have := hB2 b ((footV_osv (ob := ob386) (o := 0) (n := (List.length x381)) (cap := cap387)).2 (by rw [hb']; exact List.mem_cons_self)); exact ⟨this.1, this.2.2⟩
      cases hb
     replace hE390 := hE390.mono (Zv.fin hL410 hZ473 hB475)
     have hN478 : NewOwn w408 w470 [ob386] [Cont.cells ([] ++ (cs388 ++ sp389))] := (NewOwn.cons NewOwn.nil hO393 (fun b hb => (hB475 b (by rw [← hb]; simp)).1) (fun b _ hb => by cases hb))
     have hp479 := hL410.adoptL hE472 hN478
     have hL476 : Go.X.Loc [] [] w w470 [ob386, some b1, some b6, some b11] [Cont.cells ([] ++ (cs388 ++ sp389)), Cont.cells [(Value.bool a.Negative), a_v], Cont.cells [(Value.bool b.Negative), b_v], Cont.cells [(Value.bool false), (Value.slice none 0 0)]] := hp479.1
     have K477 := Keep.step (s := w.heap.size) hp479.2
     obtain ⟨r480, q481, h⟩ := bind_some h
     have f485 := (((((k19.mono (K61 None)).mono (K69 None)).mono (K371 None)).mono (K411 None)).mono (K477 None))
     refine Rl.op (OpY.call en71 rfl rfl (rtimes_w N r16 x394 v18 _ Any (f485.mono vw_any) r480 q481) ?_)
     rintro _ w486 hE489 ⟨v482, rfl, k483, -⟩
     replace k483 := k483.mono (Hv.freshO (S := None) hL476 [])
     have hL487 := hL476.ext hE489
     have K488 := Keep.ext (s := w.heap.size) (O := [ob386, some b1, some b6, some b11]) hE489
     obtain ⟨r490, q491, h⟩ := bind_some h
     have f495 := (hE390.mono (K488 None))
     refine Rl.op (OpY.call en69 rfl rfl (rplus_w N x381 r480 (osv ob386 0 (List.length x381) cap387) v482 _ Any (own_row_any (pre := []) (o := 0) (n := (List.length x381)) (cap := cap387) (hL487.at 0 rfl rfl) f495 vw_any rfl rfl rfl hc391) (k483.mono vw_any) r490 q491) ?_)
     rintro _ w496 hE499 ⟨v492, rfl, k493, -⟩
     replace k493 := k493.mono (Hv.freshO (S := None) hL487 [])
     have hL497 := hL487.ext hE499
     have K498 := Keep.ext (s := w.heap.size) (O := [ob386, some b1, some b6, some b11]) hE499
     refine Rl.op (OpY.assign (v := v492) rfl ?_)
     refine Rl.nil ?_
     refine Swp.pop_blk ?_
     refine Swp.region rfl ?_
     refine Rl.op (OpY.move (v := (Value.int .i64 i349)) rfl ?_)
     refine Rl.op (OpY.sub (x := i349) (y := 1) (z := (iw (i349 - 1))) rfl rfl rfl ?_)
     refine Rl.op (OpY.assign (v := (Value.int .i64 (iw (i349 - 1)))) rfl ?_)
     refine Rl.nil ?_
     have hp500 := hL497.pick [1, 2, 3] rfl rfl rfl
     have hL502 : Go.X.Loc [] [] w w496 [some b1, some b6, some b11] [Cont.cells [(Value.bool a.Negative), a_v], Cont.cells [(Value.bool b.Negative), b_v], Cont.cells [(Value.bool false), (Value.slice none 0 0)]] := hp500.1
     have K501 := Keep.step (s := w.heap.size) hp500.2
     have f503 := (k493.mono (K501 None))
     obtain rfl := Option.some.inj h
     refine Swp.pop_back ⟨(r490, (iw (i349 - 1))), rfl, ?_⟩
     exact ⟨v492, _, (upds_sym ⟨rfl, ⟨rfl, ⟨rfl, ⟨rfl, ⟨rfl, ⟨rfl, ⟨rfl, trivial⟩⟩⟩⟩⟩⟩⟩), hL502, (Keep.trans (Keep.trans (Keep.trans (Keep.trans (Keep.trans K371 K411) K477) K488) K498) K501), f503, trivial⟩
   ·
    replace h := ite_f hc372 h
    refine Swp.exit rfl ?_
    obtain rfl := Option.some.inj h
    obtain rfl := hd359 _ rfl
    replace h := g357
    try dsimp only at h
    skip
    refine Swp.pop_back ?_
    exact ⟨sum346, v347, _, rfl, (upds_sym ⟨rfl, ⟨rfl, ⟨rfl, ⟨rfl, trivial⟩⟩⟩⟩), hL370, K371, k348, trivial⟩
  ·
   rintro _ w504 ⟨sum353, v354, u, rfl, rfl, hL505, K506, k355, -⟩
   replace h := g357
   try dsimp only at h
   refine Swp.seq ?_
   refine Swp.region rfl ?_
   refine Rl.op (OpY.fieldAddr (q := 0) Try.underlying26 rfl ti4 rfl rfl rfl ?_)
   refine Rl.op (OpY.ldBox1 (v := (Value.bool a.Negative)) Try.underlying4 rfl rfl (hL505.at 0 rfl rfl) rfl ?_)
   refine Rl.op (OpY.fieldAddr (q := 0) Try.underlying26 rfl ti4 rfl rfl rfl ?_)
   refine Rl.op (OpY.ldBox1 (v := (Value.bool b.Negative)) Try.underlying4 rfl rfl (hL505.at 1 rfl rfl) rfl ?_)
   refine Rl.op (OpY.neqBool (x := a.Negative) (y := b.Negative) Try.underlying4 rfl rfl ?_)
   refine Rl.op (OpY.move (v := v354) rfl ?_)
   obtain ⟨r507, q508, h⟩ := bind_some h
   refine Rl.op (OpY.call en68 rfl rfl (rbig_w N (!(a.Negative == b.Negative)) sum353 v354 _ Any (k355.mono vw_any) r507 q508) ?_)
   rintro _ w512 hE515 ⟨v509, rfl, k510, -⟩
   replace k510 := k510.mono (Hv.freshO (S := None) hL505 [])
   have hL513 := hL505.ext hE515
   refine Rl.op0 (OpY.store (vs := [(Value.bool r507.Negative), v509]) ti26 rfl rfl rfl rfl (ones_cons rfl (ones_cons k510.one ones_nil)) hL513 2 rfl rfl (Nat.le_of_ble_eq_true rfl) ?_)
   intro w516 (hL517 : Go.X.Loc [] [] w w516 [some b1, some b6, some b11] [Cont.cells [(Value.bool a.Negative), a_v], Cont.cells [(Value.bool b.Negative), b_v], Cont.cells [(Value.bool r507.Negative), v509]]) hS519
   have K518 := Keep.step (s := w.heap.size) hS519
   refine Rl.nil ?_
   refine Swp.ret ?_
   obtain rfl := Option.some.inj h
   refine ⟨[(Value.agg #[(Value.bool r507.Negative), v509])], ⟨⟨⟨b11, 0, none⟩, rfl, res_boxA Try.underlying26 rfl ti26 (hL517.at 2 rfl rfl) rfl⟩, trivial⟩, ⟨_, rfl, hL517.done, ?_⟩⟩
   have f520 := (k510.mono (K518 None))
   exact ⟨v509, rfl, (f520.mono Hv.out), trivial⟩
theorem rOf_w (N : Nat) (n : Int)  (w : World) (S : Nat → Prop)  (r : Big) (h : rOf N n = some r) :
  Calls Try.prog 37 #[(Value.int .i64 n)] w (Ret w (fun v w' => ∃ (v0_0 : Value), (Value.agg #[(Value.bool r.Negative), v0_0]) = v ∧ Rs (rInt .u32) (Hv w.heap.size None [] w') v0_0 r.Digits ∧ True)) := by
 unfold rOf at h
 have hL : Go.X.Loc [] [] w w [] [] := Go.X.Loc.begin0 w
 refine calls_of (l := [(Value.int .i64 n)]) (rl := [.cell 2 26]) (n := 29) Try.func37 rfl rfl rfl (Nat.le_of_ble_eq_true rfl) ?_
 refine Swp.seq ?_
 refine Swp.region rfl ?_
 refine Rl.op (OpY.alloc (cs := [(Value.bool false), (Value.slice none 0 0)]) ti26 rfl hL ?_)
 intro b1 w2 (hL3 : Go.X.Loc [] [] w w2 [some b1] [Cont.cells [(Value.bool false), (Value.slice none 0 0)]]) hS5
 refine Rl.nil ?_
 refine Swp.seq ?_
 refine Swp.region rfl ?_
 refine Rl.op (OpY.move (v := (Value.int .i64 n)) rfl ?_)
 refine Rl.op (OpY.convInt (x := n) (z := (uw n)) Try.underlying2 Try.underlying93 rfl rfl ?_)
 refine Rl.op (OpY.assign (v := (Value.int .u64 (uw n))) rfl ?_)
 refine Rl.nil ?_
 refine Swp.seq ?_
 refine Swp.seq ?_
 refine Swp.region rfl ?_
 refine Rl.op (OpY.move (v := (Value.int .i64 n)) rfl ?_)
 refine Rl.op (OpY.lss (x := n) (y := 0) ((n : Int) < 0) rfl rfl Iff.rfl ?_)
 refine Rl.nil ?_
 obtain ⟨s9, h, g10⟩ := bind_some h
 refine Swp.join (fun e w' => ∃ (u8 : Int) (u : Env), u8 = s9 ∧ e = upds [(0, (Value.int .i64 n)), (2, (Value.pointer (some ⟨b1, 0, none⟩))), (3, (Value.int .u64 u8))] u ∧ Go.X.Loc [] [] w w' [some b1] [Cont.cells [(Value.bool false), (Value.slice none 0 0)]] ∧ Keep w.heap.size [some b1] w2 [some b1] w' ∧ True) ?_ ?_
 ·
  refine Swp.cond_d ((n : Int) < 0) rfl (fun hc11 => ?_) (fun hc11 => ?_)
  ·
   replace h := ite_t hc11 h
   refine Swp.region rfl ?_
   refine Rl.op (OpY.move (v := (Value.int .i64 n)) rfl ?_)
   refine Rl.op (OpY.add (x := n) (y := 1) (z := (iw (n + 1))) rfl rfl rfl ?_)
   refine Rl.op (OpY.neg (x := (iw (n + 1))) (z := (iw (0 - (iw (n + 1))))) rfl rfl ?_)
   refine Rl.op (OpY.convInt (x := (iw (0 - (iw (n + 1))))) (z := (uw (iw (0 - (iw (n + 1)))))) Try.underlying2 Try.underlying93 rfl rfl ?_)
   refine Rl.op (OpY.add (x := (uw (iw (0 - (iw (n + 1)))))) (y := 1) (z := (uw ((uw (iw (0 - (iw (n + 1))))) + 1))) rfl rfl rfl ?_)
   refine Rl.op (OpY.assign (v := (Value.int .u64 (uw ((uw (iw (0 - (iw (n + 1))))) + 1)))) rfl ?_)
   refine Rl.nil ?_
   obtain rfl := Option.some.inj h
   refine Swp.pop_back ?_
   exact ⟨(uw ((uw (iw (0 - (iw (n + 1))))) + 1)), _, rfl, (upds_sym ⟨rfl, ⟨rfl, ⟨rfl, trivial⟩⟩⟩), hL3, Keep.refl, trivial⟩
  ·
   replace h := ite_f hc11 h
   refine Swp.skip ?_
   obtain rfl := Option.some.inj h
   refine Swp.pop_back ?_
   exact ⟨(uw n), _, rfl, (upds_sym ⟨rfl, ⟨rfl, ⟨rfl, trivial⟩⟩⟩), hL3, Keep.refl, trivial⟩
 ·
  rintro _ w12 ⟨u8, u, rfl, rfl, hL13, K14, -⟩
  replace h := g10
  try dsimp only at h
  refine Swp.seq ?_
  refine Swp.region rfl ?_
  refine Rl.op (OpY.litRow0 Try.underlying91 ti3 hL13 ?_)
  intro b15 w19 (hL20 : Go.X.Loc [] [] w w19 [some b15, some b1] [Cont.cells ([] ++ ([] ++ [])), Cont.cells [(Value.bool false), (Value.slice none 0 0)]]) hS22
  have hE23 : Els (rInt .i64) (Hv w.heap.size None [some b1] w12) [] [] := Els.nil
  have K21 := Keep.step (s := w.heap.size) hS22
  refine Rl.op (OpY.assign (v := (osv (some b15) 0 (List.length ([] : (List Int))) 0)) rfl ?_)
  refine Rl.nil ?_
  refine Swp.seq ?_
  obtain ⟨s118, hl120, g119⟩ := bind_some h
  refine Swp.join (fun e w' => ∃ (l114 : (List Int)) (ob110 : Option Nat) (cap111 : Nat) (sp112 : List Value) (cs113 : List Value) (ln117 : Nat) (u : Env), l114 = s118 ∧ e = upds [(0, (Value.int .i64 n)), (2, (Value.pointer (some ⟨b1, 0, none⟩))), (4, (osv ob110 0 ln117 cap111))] u ∧ Go.X.Loc [] [] w w' [some b1, ob110] [Cont.cells [(Value.bool false), (Value.slice none 0 0)], Cont.cells ([] ++ (cs113 ++ sp112))] ∧ Keep w.heap.size [some b15, some b1] w19 [some b1, ob110] w' ∧ Els (rInt .i64) (Hv w.heap.size None [some b1, ob110] w') cs113 l114 ∧ ln117 = List.length l114 ∧ (cs113 ++ sp112).length = cap111 * (rInt .i64).sz ∧ True) ?_ ?_
  ·
   refine Swp.block ?_
   have hp122 := hL20.pick [1, 0] rfl rfl rfl
   have hL124 : Go.X.Loc [] [] w w19 [some b1, some b15] [Cont.cells [(Value.bool false), (Value.slice none 0 0)], Cont.cells ([] ++ ([] ++ []))] := hp122.1
   have K123 := Keep.step (s := w.heap.size) hp122.2
   have f125 := ((hE23.mono (K21 None)).mono (K123 None))
   refine Swp.loopM hl120 (fun (ss : (Int × (List Int))) (e : Env) (w' : World) => match ss with | (u98, l104) => ∃ (ob100 : Option Nat) (cap101 : Nat) (sp102 : List Value) (cs103 : List Value) (ln107 : Nat) (u : Env), e = upds [(0, (Value.int .i64 n)), (2, (Value.pointer (some ⟨b1, 0, none⟩))), (3, (Value.int .u64 u98)), (4, (osv ob100 0 ln107 cap101))] u ∧ Go.X.Loc [] [] w w' [some b1, ob100] [Cont.cells [(Value.bool false), (Value.slice none 0 0)], Cont.cells ([] ++ (cs103 ++ sp102))] ∧ Keep w.heap.size [some b15, some b1] w19 [some b1, ob100] w' ∧ Els (rInt .i64) (Hv w.heap.size None [some b1, ob100] w') cs103 l104 ∧ ln107 = List.length l104 ∧ (cs103 ++ sp102).length = cap101 * (rInt .i64).sz ∧ True) ⟨some b15, 0, [], [], (List.length ([] : (List Int))), _, (upds_sym ⟨rfl, ⟨rfl, ⟨rfl, ⟨rfl, trivial⟩⟩⟩⟩), hL124, K123, f125, rfl, (show ([] ++ [] : List Value).length = 0 * (rInt .i64).sz by simp), trivial⟩ ?_
   rintro ⟨u98, l104⟩ oo _ w126 ⟨ob100, cap101, sp102, cs103, ln107, u, rfl, hL127, K128, hE105, rfl, hc106, -⟩ h hd121
   rw [rOf_b1] at h
   refine Swp.seq ?_
   refine Swp.seq ?_
   refine Swp.region rfl ?_
   refine Rl.op (OpY.move (v := (Value.int .u64 u98)) rfl ?_)
   refine Rl.op (OpY.gtr (x := u98) (y := 0) ((u98 : Int) > 0) rfl rfl Iff.rfl ?_)
   refine Rl.nil ?_
   refine Swp.cond_d ((u98 : Int) > 0) rfl (fun hc129 => ?_) (fun hc129 => ?_)
   ·
    replace h := ite_t hc129 h
    refine Swp.skip ?_
    refine Swp.block ?_
    refine Swp.seq ?_
    refine Swp.region rfl ?_
    refine Rl.op (OpY.move (v := (osv ob100 0 (List.length l104) cap101)) rfl ?_)
    refine Rl.op (OpY.move (v := (Value.int .u64 u98)) rfl ?_)
    refine Rl.op (OpY.remI (x := u98) (y := 65536) rfl rfl (by decide) ?_)
    refine Rl.op (OpY.convInt (x := (Int.tmod u98 65536)) (z := (iw (Int.tmod u98 65536))) Try.underlying93 Try.underlying3 rfl rfl ?_)
    have hE131 : Els (rInt .i64) (Hv w.heap.size None [some b1, ob100] w126) [(Value.int .i64 (iw (Int.tmod u98 65536)))] [(iw (Int.tmod u98 65536))] := (Els.cons (a := [(Value.int .i64 (iw (Int.tmod u98 65536)))]) rfl Els.nil)
    refine Rl.op (OpY.litRow (r := (rInt .i64)) (vs := [(Value.int .i64 (iw (Int.tmod u98 65536)))]) (css := [[(Value.int .i64 (iw (Int.tmod u98 65536)))]]) (xs := [(iw (Int.tmod u98 65536))]) Try.underlying91 ti3 (Nat.le_of_ble_eq_true rfl) rfl rfl ⟨rfl, rfl, trivial⟩ (Nat.le_of_ble_eq_true rfl) hE131 rfl hL127 ?_)
    intro b130 w134 hc132 (hL135 : Go.X.Loc [] [] w w134 [some b130, some b1, ob100] [Cont.cells ([] ++ ([(Value.int .i64 (iw (Int.tmod u98 65536)))] ++ [])), Cont.cells [(Value.bool false), (Value.slice none 0 0)], Cont.cells ([] ++ (cs103 ++ sp102))]) hS137
    have K136 := Keep.step (s := w.heap.size) hS137
    obtain ⟨x138, q139, h⟩ := bind_some h
    obtain ⟨q140, q141, q142⟩ := apnd_some q139
    have f143 := (hE131.mono (K136 None))
    have f151 := (hE105.mono (K136 None))
    refine Rl.op (OpY.apRowX (r := (rInt .i64)) (H := (Hv w.heap.size None [some b130, some b1, ob100] w134)) (cs := cs103) (sp := sp102) (xs := l104) (ys := [(iw (Int.tmod u98 65536))]) (Y := x138) (n := (List.length l104)) (cap := cap101) (i := 2) Try.underlying91 ti3 rfl rfl rfl rfl hL135 rfl rfl f151 rfl hc106 (Src.row (pre := []) (o := 0) (n := 1) (cap := 1) (hL135.at 0 rfl rfl) f143 rfl rfl rfl) (Els.anyH (fun _ _ _ _ h => h) f143) q140 q141 q142 ?_)
    intro ob144 cap145 sp147 cs146 w152 hE148 hc149 (hL153 : Go.X.Loc [] [] w w152 [some b130, some b1, ob144] [Cont.cells ([] ++ ([(Value.int .i64 (iw (Int.tmod u98 65536)))] ++ [])), Cont.cells [(Value.bool false), (Value.slice none 0 0)], Cont.cells ([] ++ (cs146 ++ sp147))]) hS155
    have K154 := Keep.step (s := w.heap.size) hS155
    refine Rl.op (OpY.assign (v := (osv ob144 0 (List.length x138) cap145)) rfl ?_)
    refine Rl.nil ?_
    refine Swp.region rfl ?_
    refine Rl.op (OpY.move (v := (Value.int .u64 u98)) rfl ?_)
    refine Rl.op (OpY.quoI (x := u98) (y := 65536) (z := (uw (Int.tdiv u98 65536))) rfl rfl (by decide) rfl ?_)
    refine Rl.op (OpY.assign (v := (Value.int .u64 (uw (Int.tdiv u98 65536)))) rfl ?_)
    refine Rl.nil ?_
    refine Swp.pop_blk ?_
    have hp156 := hL153.pick [1, 2] rfl rfl rfl
    have hL158 : Go.X.Loc [] [] w w152 [some b1, ob144] [Cont.cells [(Value.bool false), (Value.slice none 0 0)], Cont.cells ([] ++ (cs146 ++ sp147))] := hp156.1
    have K157 := Keep.step (s := w.heap.size) hp156.2
    have f159 := ((hE148.mono (K154 None)).mono (K157 None))
    obtain rfl := Option.some.inj h
    refine Swp.pop_back ⟨((uw (Int.tdiv u98 65536)), x138), rfl, ?_⟩
    exact ⟨ob144, cap145, sp147, cs146, (List.length x138), _, (upds_sym ⟨rfl, ⟨rfl, ⟨rfl, ⟨rfl, trivial⟩⟩⟩⟩), hL158, (Keep.trans (Keep.trans (Keep.trans K128 K136) K154) K157), f159, rfl, hc149, trivial⟩
   ·
    replace h := ite_f hc129 h
    refine Swp.exit rfl ?_
    obtain rfl := Option.some.inj h
    obtain rfl := hd121 _ rfl
    replace h := g119
    try dsimp only at h
    skip
    refine Swp.pop_back ?_
    exact ⟨l104, ob100, cap101, sp102, cs103, (List.length l104), _, rfl, (upds_sym ⟨rfl, ⟨rfl, ⟨rfl, trivial⟩⟩⟩), hL127, K128, hE105, rfl, hc106, trivial⟩
  ·
   rintro _ w160 ⟨l114, ob110, cap111, sp112, cs113, ln117, u, rfl, rfl, hL161, K162, hE115, rfl, hc116, -⟩
   replace h := g119
   try dsimp only at h
   refine Swp.seq ?_
   refine Swp.region rfl ?_
   refine Rl.op (OpY.move (v := (Value.int .i64 n)) rfl ?_)
   refine Rl.op (OpY.lss (x := n) (y := 0) ((n : Int) < 0) rfl rfl Iff.rfl ?_)
   refine Rl.op (OpY.move (v := (osv ob110 0 (List.length l114) cap111)) rfl ?_)
   obtain ⟨r163, q164, h⟩ := bind_some h
   refine Rl.op (OpY.call en68 rfl rfl (rbig_w N (decide ((n : Int) < 0)) l114 (osv ob110 0 (List.length l114) cap111) _ Any (own_row_any (pre := []) (o := 0) (n := (List.length l114)) (cap := cap111) (hL161.at 1 rfl rfl) hE115 vw_any rfl rfl rfl hc116) r163 q164) ?_)
   rintro _ w168 hE171 ⟨v165, rfl, k166, -⟩
   replace k166 := k166.mono (Hv.freshO (S := None) hL161 [])
   have hL169 := hL161.ext hE171
   refine Rl.op0 (OpY.store (vs := [(Value.bool r163.Negative), v165]) ti26 rfl rfl rfl rfl (ones_cons rfl (ones_cons k166.one ones_nil)) hL169 0 rfl rfl (Nat.le_of_ble_eq_true rfl) ?_)
   intro w172 (hL173 : Go.X.Loc [] [] w w172 [some b1, ob110] [Cont.cells [(Value.bool r163.Negative), v165], Cont.cells ([] ++ (cs113 ++ sp112))]) hS175
   have K174 := Keep.step (s := w.heap.size) hS175
   refine Rl.nil ?_
   refine Swp.ret ?_
   obtain rfl := Option.some.inj h
   refine ⟨[(Value.agg #[(Value.bool r163.Negative), v165])], ⟨⟨⟨b1, 0, none⟩, rfl, res_boxA Try.underlying26 rfl ti26 (hL173.at 0 rfl rfl) rfl⟩, trivial⟩, ⟨_, rfl, hL173.done, ?_⟩⟩
   have f176 := (k166.mono (K174 None))
   exact ⟨v165, rfl, (f176.mono Hv.out), trivial⟩
end Go.Proofs.Ytakkacdhlocckaa.WR

/- Short names for the walks. Written by a program of mine (wip/tool). -/
import Derived.Test.YtcakdidcpoolcaaGreatDoorProg
import Derived.Test.YtcakdidcpoolcaaGreatDoorZ
namespace Go.X
open Go Go.RowKit
noncomputable abbrev vH (w : World) (S : Nat → Prop) (O : List (Option Nat)) (w1 : World) : Hp := Hv w.heap.size S O w1
noncomputable abbrev vZ (w1 w : World) (S : Nat → Prop) (O : List (Option Nat)) (Z : Nat → Prop) (w2 : World) : Hp := Zv w1 w.heap.size S O Z w2
abbrev vL (w w1 : World) (O : List (Option Nat)) (C : List Cont) : Prop := Loc [] [] w w1 O C
abbrev zaa := @Value.int
abbrev zab := @Value.bool
abbrev zac := @Cont.cells
abbrev zad := @Value.slice
theorem zae : type_of% @Nat.le_of_ble_eq_true := @Nat.le_of_ble_eq_true
theorem zaf : type_of% @Swp.region := @Swp.region
theorem zag : type_of% @Rl.op := @Rl.op
theorem zah : type_of% @Option.some.inj := @Option.some.inj
theorem zai : type_of% @OpY.move := @OpY.move
theorem zaj : type_of% @Swp.seq := @Swp.seq
theorem zak : type_of% @OpY.assign := @OpY.assign
abbrev zal := @Value.pointer
theorem zam : type_of% @OpY.fieldAddr := @OpY.fieldAddr
theorem zan : type_of% @Rl.nil := @Rl.nil
theorem zao : type_of% @Keep.trans := @Keep.trans
abbrev zap := @Value.agg
theorem zaq : type_of% @Swp.pop_back := @Swp.pop_back
theorem zat : type_of% @DrH.de := @DrH.de
theorem zau : type_of% @OpY.ldBox1 := @OpY.ldBox1
theorem zaw : type_of% @GOp.op := @GOp.op
theorem zay : type_of% @OpY.call := @OpY.call
theorem zba : type_of% @Swp.cond_d := @Swp.cond_d
theorem zbb : type_of% @Swp.block := @Swp.block
theorem zbc : type_of% @OpY.lenRo := @OpY.lenRo
theorem zbd : type_of% @Iff.rfl := @Iff.rfl
abbrev zbe := @Value.string
theorem zbf : type_of% @Swp.skip := @Swp.skip
theorem zbi : type_of% @Swp.ret := @Swp.ret
theorem zbj : type_of% @OpY.ldBoxA := @OpY.ldBoxA
theorem zbm : type_of% @List.mem_cons_self := @List.mem_cons_self
theorem zbn : type_of% @Swp.pop_blk := @Swp.pop_blk
theorem zbo : type_of% @OpY.store := @OpY.store
theorem zbp : type_of% @OpY.ixRoD := @OpY.ixRoD
theorem zbq : type_of% @Keep.refl := @Keep.refl
theorem zbs : type_of% @Swp.join := @Swp.join
theorem zbt : type_of% @Rl.yes := @Rl.yes
theorem zbu : type_of% @Hv.freshO := @Hv.freshO
theorem zbw : type_of% @OpY.alloc := @OpY.alloc
theorem zbz : type_of% @OpY.add := @OpY.add
theorem zca : type_of% @OpY.ldRo1 := @OpY.ldRo1
theorem zcb : type_of% @Swp.loopM := @Swp.loopM
theorem zcc : type_of% @OpY.build := @OpY.build
theorem zce : type_of% @OpY.pick_t := @OpY.pick_t
theorem zcf : type_of% @Rl.op0 := @Rl.op0
theorem zch : type_of% @OpY.litRow := @OpY.litRow
theorem zci : type_of% @OpY.lss := @OpY.lss
theorem zcj : type_of% @Swp.drawL := @Swp.drawL
theorem zck : type_of% @Swp.exit := @Swp.exit
theorem zcl : type_of% @Rl.no := @Rl.no
theorem zcm : type_of% @Els.nil := @Els.nil
theorem zco : type_of% @NewOwn.nil := @NewOwn.nil
theorem zcp : type_of% @Els.cons := @Els.cons
theorem zcq : type_of% @Swp.cond_b := @Swp.cond_b
theorem zcr : type_of% @OpY.convInt := @OpY.convInt
theorem zcv : type_of% @OpY.pick_f := @OpY.pick_f
theorem zcw : type_of% @Rs.get := @Rs.get
theorem zcx : type_of% @DrH.fin0 := @DrH.fin0
theorem zda : type_of% @At.mono := @At.mono
theorem zdb : type_of% @OpY.extract := @OpY.extract
theorem zdc : type_of% @GOp.yes := @GOp.yes
theorem zdf : type_of% @Made.ext := @Made.ext
theorem zdj : type_of% @OpY.box := @OpY.box
theorem zdk : type_of% @Rs.nil := @Rs.nil
theorem zdl : type_of% @OpY.ldRoA := @OpY.ldRoA
theorem zdm : type_of% @GOp.no := @GOp.no
theorem zdn : type_of% @OpY.apRowX := @OpY.apRowX
theorem zdo : type_of% @Zv.stay := @Zv.stay
theorem zdp : type_of% @OpY.eql := @OpY.eql
theorem zdq : type_of% @DrH.rel := @DrH.rel
theorem zdr : type_of% @Zv.made := @Zv.made
theorem zdt : type_of% @NewOwn.cons := @NewOwn.cons
theorem zdv : type_of% @OpY.ixRowD := @OpY.ixRowD
theorem zdw : type_of% @Zv.fin := @Zv.fin
theorem zdx : type_of% @Hv.pick := @Hv.pick
theorem zdy : type_of% @OpY.sAdd := @OpY.sAdd
theorem zdz : type_of% @OpY.sub := @OpY.sub
theorem zea : type_of% @Hv.out := @Hv.out
theorem zeb : type_of% @OpY.not := @OpY.not
theorem zec : type_of% @bind_some := @bind_some
theorem zed : type_of% @decide_eq_false := @decide_eq_false
theorem zee : type_of% @ones_cons := @ones_cons
theorem zef : type_of% @decide_eq_true := @decide_eq_true
theorem zeg : type_of% @upds_sym := @upds_sym
theorem zeh : type_of% @eq_false_of_ne_true := @eq_false_of_ne_true
theorem zei : type_of% @idx_some := @idx_some
theorem zej : type_of% @ones_nil := @ones_nil
theorem zek : type_of% @vw_view := @vw_view
theorem zel : type_of% @own_row_any := @own_row_any
theorem zem : type_of% @osv_one := @osv_one
theorem zen : type_of% @one_cells := @one_cells
theorem zeo : type_of% @res_boxA := @res_boxA
theorem zep : type_of% @footV_osv := @footV_osv
theorem zeq : type_of% @apnd_some := @apnd_some
theorem zer : type_of% @chk_some := @chk_some
theorem zix {α β : Type} {xs : List α} {i : Int} {f : α → Option β} {r : β} (h : (idx xs i).bind f = some r) : ∃ x n, i = ((n : Nat) : Int) ∧ xs[n]? = some x ∧ n < xs.length ∧ f x = some r := by
 obtain ⟨x, q, h⟩ := bind_some h
 obtain ⟨n, q1, q2⟩ := idx_some q
 exact ⟨x, n, q1, q2, (List.getElem?_eq_some_iff.1 q2).1, h⟩
theorem zux {α β : Type} {xs : List α} {i : Int} {y : α} {f : List α → Option β} {r : β} (h : (upd1 xs i y).bind f = some r) : ∃ x n, i = ((n : Nat) : Int) ∧ n < xs.length ∧ x = xs.set n y ∧ f x = some r := by
 obtain ⟨x, q, h⟩ := bind_some h
 obtain ⟨n, q1, q2, q3⟩ := upd1_some q
 exact ⟨x, n, q1, q2, q3, h⟩
theorem zin {i : Int} {a b : Nat} (h : i = (a : Int)) (k : i = (b : Int)) : a = b := Int.ofNat_inj.1 (h.symm.trans k)
theorem zhb {w : World} {Z : Nat → Prop} : ∀ b, some b ∈ ([] : List (Option Nat)) → w.heap.size ≤ b ∧ ¬ Z b := by intro b hb; cases hb
theorem zhc {α : Type} {a b c : List α} {n : Nat} (h : (a ++ c).length = n) (q : b.length = a.length) : (b ++ c).length = n := by
 rw [List.length_append] at h ⊢; rw [q]; exact h
abbrev zO {α : Type} (b : Option Nat) (l : List α) (c : Nat) : Value := osv b 0 l.length c
abbrev zI (x : Int) : Value := Value.int .i64 x
noncomputable abbrev rI : Rep Int := rInt .i64
abbrev zN : Value := Value.slice none 0 0
abbrev zF : Value := Value.bool false
abbrev zT : Value := Value.bool true
abbrev zS (s : List UInt8) : Value := Value.string (s8 s)
theorem zl {X F : List (Option Nat)} {w0 w1 w2 : World} {O : List (Option Nat)} {C : List Cont} (hL : Loc X F w0 w1 O C) (h : Ext w1 w2) : Loc X F w0 w2 O C ∧ Keep w0.heap.size O w1 O w2 := ⟨hL.ext h, Keep.ext h⟩
theorem zrt {α : Sort _} {a : α} : a = a ∧ True := ⟨rfl, trivial⟩
theorem zrr {α β : Sort _} {a : α} {b : β} : a = a ∧ b = b := ⟨rfl, rfl⟩
end Go.X
namespace Go.Proofs.YtcakdidcpoolcaaGreatDoor.WA
open Go
theorem zar : type_of% @Tryz.underlying57 := @Tryz.underlying57
theorem zas : type_of% @Tryz.underlying55 := @Tryz.underlying55
theorem zav : type_of% @Tryz.underlying23 := @Tryz.underlying23
theorem zax : type_of% @Tryz.underlying3 := @Tryz.underlying3
theorem zaz : type_of% @Tryz.underlying73 := @Tryz.underlying73
theorem zbg : type_of% @Tryz.underlying177 := @Tryz.underlying177
theorem zbh : type_of% @Tryz.underlying51 := @Tryz.underlying51
theorem zbk : type_of% @Tryz.underlying70 := @Tryz.underlying70
theorem zbl : type_of% @Tryz.underlying123 := @Tryz.underlying123
theorem zbr : type_of% @Tryz.underlying88 := @Tryz.underlying88
theorem zbv : type_of% @Tryz.underlying149 := @Tryz.underlying149
theorem zbx : type_of% @Tryz.underlying90 := @Tryz.underlying90
theorem zby : type_of% @Tryz.underlying71 := @Tryz.underlying71
theorem zcd : type_of% @Tryz.underlying4 := @Tryz.underlying4
theorem zcg : type_of% @Tryz.underlying68 := @Tryz.underlying68
theorem zcn : type_of% @Tryz.underlying63 := @Tryz.underlying63
theorem zcs : type_of% @Tryz.underlying67 := @Tryz.underlying67
theorem zct : type_of% @Tryz.underlying29 := @Tryz.underlying29
theorem zcu : type_of% @Tryz.underlying22 := @Tryz.underlying22
theorem zcy : type_of% @Tryz.underlying92 := @Tryz.underlying92
theorem zcz : type_of% @Tryz.underlying25 := @Tryz.underlying25
theorem zdd : type_of% @Tryz.underlying2 := @Tryz.underlying2
theorem zde : type_of% @Tryz.underlying95 := @Tryz.underlying95
theorem zdg : type_of% @Tryz.underlying97 := @Tryz.underlying97
theorem zdh : type_of% @Tryz.underlying87 := @Tryz.underlying87
theorem zdi : type_of% @Tryz.underlying83 := @Tryz.underlying83
theorem zds : type_of% @Tryz.underlying94 := @Tryz.underlying94
theorem zdu : type_of% @Tryz.underlying27 := @Tryz.underlying27
end Go.Proofs.YtcakdidcpoolcaaGreatDoor.WA

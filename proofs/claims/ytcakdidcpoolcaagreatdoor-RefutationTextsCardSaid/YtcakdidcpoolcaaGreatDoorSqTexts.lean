/- Short names for the walks. Written by a program of mine (wip/tool). -/
import Derived.Test.YtcakdidcpoolcaaGreatDoorProg
import Derived.Test.YtcakdidcpoolcaaGreatDoorZ
namespace Go.X
open Go Go.RowKit
noncomputable abbrev vH (w : World) (S : Nat → Prop) (O : List (Option Nat)) (w1 : World) : Hp := Hv w.heap.size S O w1
noncomputable abbrev vZ (w1 w : World) (S : Nat → Prop) (O : List (Option Nat)) (Z : Nat → Prop) (w2 : World) : Hp := Zv w1 w.heap.size S O Z w2
abbrev vL (w w1 : World) (O : List (Option Nat)) (C : List Cont) : Prop := Loc [] [] w w1 O C
abbrev zaa := @Value.int
abbrev zab := @Value.bool
abbrev zac := @Cont.cells
abbrev zad := @Value.slice
theorem zae : type_of% @Option.some.inj := @Option.some.inj
theorem zaf : type_of% @Nat.le_of_ble_eq_true := @Nat.le_of_ble_eq_true
theorem zag : type_of% @Rl.op := @Rl.op
theorem zah : type_of% @Swp.region := @Swp.region
theorem zai : type_of% @OpY.move := @OpY.move
abbrev zaj := @Value.pointer
theorem zak : type_of% @OpY.fieldAddr := @OpY.fieldAddr
theorem zal : type_of% @Swp.seq := @Swp.seq
theorem zam : type_of% @OpY.assign := @OpY.assign
theorem zan : type_of% @Keep.trans := @Keep.trans
theorem zao : type_of% @DrH.de := @DrH.de
theorem zap : type_of% @Rl.nil := @Rl.nil
theorem zaq : type_of% @Swp.pop_back := @Swp.pop_back
abbrev zar := @Value.agg
theorem zas : type_of% @OpY.ldBox1 := @OpY.ldBox1
theorem zau : type_of% @GOp.op := @GOp.op
theorem zba : type_of% @Rl.yes := @Rl.yes
theorem zbb : type_of% @Rl.no := @Rl.no
theorem zbc : type_of% @OpY.call := @OpY.call
theorem zbd : type_of% @Iff.rfl := @Iff.rfl
theorem zbe : type_of% @OpY.pick_t := @OpY.pick_t
theorem zbf : type_of% @Swp.cond_d := @Swp.cond_d
theorem zbg : type_of% @OpY.lenRo := @OpY.lenRo
theorem zbh : type_of% @Swp.block := @Swp.block
theorem zbi : type_of% @List.mem_cons_self := @List.mem_cons_self
theorem zbj : type_of% @OpY.ixRoD := @OpY.ixRoD
theorem zbk : type_of% @Swp.skip := @Swp.skip
theorem zbl : type_of% @Swp.ret := @Swp.ret
theorem zbm : type_of% @GOp.yes := @GOp.yes
theorem zbn : type_of% @OpY.pick_f := @OpY.pick_f
abbrev zbo := @Value.string
theorem zbq : type_of% @OpY.store := @OpY.store
theorem zbr : type_of% @OpY.ldBoxA := @OpY.ldBoxA
theorem zbu : type_of% @Swp.pop_blk := @Swp.pop_blk
theorem zby : type_of% @OpY.ldRo1 := @OpY.ldRo1
theorem zcd : type_of% @At.mono := @At.mono
theorem zce : type_of% @Swp.join := @Swp.join
theorem zcg : type_of% @OpY.indexAddr_arr := @OpY.indexAddr_arr
theorem zch : type_of% @Hv.freshO := @Hv.freshO
theorem zci : type_of% @GOp.no := @GOp.no
theorem zcj : type_of% @OpY.alloc := @OpY.alloc
theorem zck : type_of% @Keep.refl := @Keep.refl
theorem zcl : type_of% @OpY.add := @OpY.add
theorem zcm : type_of% @Swp.drawL := @Swp.drawL
theorem zcn : type_of% @GOp.no_undef := @GOp.no_undef
theorem zcp : type_of% @OpY.lss := @OpY.lss
theorem zcq : type_of% @Rl.op0 := @Rl.op0
theorem zcr : type_of% @Swp.loopM := @Swp.loopM
theorem zcv : type_of% @OpY.litRow := @OpY.litRow
theorem zcw : type_of% @Rs.get := @Rs.get
theorem zcx : type_of% @Els.nil := @Els.nil
theorem zcy : type_of% @DrH.fin0 := @DrH.fin0
theorem zcz : type_of% @OpY.build := @OpY.build
theorem zda : type_of% @Swp.exit := @Swp.exit
theorem zdd : type_of% @Swp.cond_b := @Swp.cond_b
theorem zde : type_of% @NewOwn.nil := @NewOwn.nil
theorem zdg : type_of% @Els.cons := @Els.cons
theorem zdi : type_of% @Rl.no_undef := @Rl.no_undef
theorem zdn : type_of% @OpY.extract := @OpY.extract
theorem zdo : type_of% @OpY.apRowX := @OpY.apRowX
theorem zdp : type_of% @Made.ext := @Made.ext
theorem zdr : type_of% @OpY.convInt := @OpY.convInt
theorem zds : type_of% @OpY.ldRoA := @OpY.ldRoA
theorem zdt : type_of% @Zv.stay := @Zv.stay
theorem zdu : type_of% @OpY.box := @OpY.box
theorem zdv : type_of% @NewOwn.cons := @NewOwn.cons
theorem zdw : type_of% @DrH.rel := @DrH.rel
theorem zdx : type_of% @Hv.pick := @Hv.pick
theorem zdy : type_of% @OpY.not := @OpY.not
theorem zdz : type_of% @Rs.nil := @Rs.nil
theorem zeb : type_of% @OpY.eql := @OpY.eql
theorem zec : type_of% @Zv.made := @Zv.made
theorem zed : type_of% @Zv.fin := @Zv.fin
theorem zef : type_of% @Els.anyH := @Els.anyH
theorem zeg : type_of% @Src.row := @Src.row
theorem zej : type_of% @OpY.gtr := @OpY.gtr
theorem zek : type_of% @OpY.neq := @OpY.neq
theorem zel : type_of% @OpY.ixRowD := @OpY.ixRowD
theorem zem : type_of% @OpY.geq := @OpY.geq
theorem zen : type_of% @DrH.det := @DrH.det
theorem zeo : type_of% @TI.mk := @TI.mk
theorem zep : type_of% @decide_eq_false := @decide_eq_false
theorem zeq : type_of% @decide_eq_true := @decide_eq_true
theorem zer : type_of% @eq_false_of_ne_true := @eq_false_of_ne_true
theorem zes : type_of% @bind_some := @bind_some
theorem zet : type_of% @ones_cons := @ones_cons
theorem zeu : type_of% @upds_sym := @upds_sym
theorem zev : type_of% @idx_some := @idx_some
theorem zew : type_of% @ones_nil := @ones_nil
theorem zex : type_of% @vw_view := @vw_view
theorem zey : type_of% @own_row_any := @own_row_any
theorem zez : type_of% @osv_one := @osv_one
theorem zfa : type_of% @one_cells := @one_cells
theorem zfb : type_of% @apnd_some := @apnd_some
theorem zfc : type_of% @footV_osv := @footV_osv
theorem zfd : type_of% @res_boxA := @res_boxA
theorem zix {α β : Type} {xs : List α} {i : Int} {f : α → Option β} {r : β} (h : (idx xs i).bind f = some r) : ∃ x n, i = ((n : Nat) : Int) ∧ xs[n]? = some x ∧ n < xs.length ∧ f x = some r := by
 obtain ⟨x, q, h⟩ := bind_some h
 obtain ⟨n, q1, q2⟩ := idx_some q
 exact ⟨x, n, q1, q2, (List.getElem?_eq_some_iff.1 q2).1, h⟩
theorem zux {α β : Type} {xs : List α} {i : Int} {y : α} {f : List α → Option β} {r : β} (h : (upd1 xs i y).bind f = some r) : ∃ x n, i = ((n : Nat) : Int) ∧ n < xs.length ∧ x = xs.set n y ∧ f x = some r := by
 obtain ⟨x, q, h⟩ := bind_some h
 obtain ⟨n, q1, q2, q3⟩ := upd1_some q
 exact ⟨x, n, q1, q2, q3, h⟩
theorem zin {i : Int} {a b : Nat} (h : i = (a : Int)) (k : i = (b : Int)) : a = b := Int.ofNat_inj.1 (h.symm.trans k)
theorem zhb {w : World} {Z : Nat → Prop} : ∀ b, some b ∈ ([] : List (Option Nat)) → w.heap.size ≤ b ∧ ¬ Z b := by intro b hb; cases hb
theorem zhc {α : Type} {a b c : List α} {n : Nat} (h : (a ++ c).length = n) (q : b.length = a.length) : (b ++ c).length = n := by
 rw [List.length_append] at h ⊢; rw [q]; exact h
abbrev zO {α : Type} (b : Option Nat) (l : List α) (c : Nat) : Value := osv b 0 l.length c
abbrev zI (x : Int) : Value := Value.int .i64 x
noncomputable abbrev rI : Rep Int := rInt .i64
abbrev zN : Value := Value.slice none 0 0
abbrev zF : Value := Value.bool false
abbrev zT : Value := Value.bool true
abbrev zS (s : List UInt8) : Value := Value.string (s8 s)
theorem zl {X F : List (Option Nat)} {w0 w1 w2 : World} {O : List (Option Nat)} {C : List Cont} (hL : Loc X F w0 w1 O C) (h : Ext w1 w2) : Loc X F w0 w2 O C ∧ Keep w0.heap.size O w1 O w2 := ⟨hL.ext h, Keep.ext h⟩
theorem zrt {α : Sort _} {a : α} : a = a ∧ True := ⟨rfl, trivial⟩
theorem zrr {α β : Sort _} {a : α} {b : β} : a = a ∧ b = b := ⟨rfl, rfl⟩
end Go.X
namespace Go.Proofs.YtcakdidcpoolcaaGreatDoor.WA
open Go
theorem zat : type_of% @Tryz.underlying3 := @Tryz.underlying3
theorem zav : type_of% @Tryz.underlying57 := @Tryz.underlying57
theorem zaw : type_of% @Tryz.underlying23 := @Tryz.underlying23
theorem zax : type_of% @Tryz.underlying55 := @Tryz.underlying55
theorem zay : type_of% @Tryz.underlying29 := @Tryz.underlying29
theorem zaz : type_of% @Tryz.underlying27 := @Tryz.underlying27
theorem zbp : type_of% @Tryz.underlying88 := @Tryz.underlying88
theorem zbs : type_of% @Tryz.underlying26 := @Tryz.underlying26
theorem zbt : type_of% @Tryz.underlying22 := @Tryz.underlying22
theorem zbv : type_of% @Tryz.underlying54 := @Tryz.underlying54
theorem zbw : type_of% @Tryz.underlying177 := @Tryz.underlying177
theorem zbx : type_of% @Tryz.underlying51 := @Tryz.underlying51
theorem zbz : type_of% @Tryz.underlying123 := @Tryz.underlying123
theorem zca : type_of% @Tryz.underlying90 := @Tryz.underlying90
theorem zcb : type_of% @Tryz.underlying87 := @Tryz.underlying87
theorem zcc : type_of% @Tryz.underlying83 := @Tryz.underlying83
theorem zcf : type_of% @Tryz.underlying2 := @Tryz.underlying2
theorem zco : type_of% @Tryz.underlying25 := @Tryz.underlying25
theorem zcs : type_of% @Tryz.underlying149 := @Tryz.underlying149
theorem zct : type_of% @Tryz.underlying112 := @Tryz.underlying112
theorem zcu : type_of% @Tryz.underlying41 := @Tryz.underlying41
theorem zdb : type_of% @Tryz.underlying73 := @Tryz.underlying73
theorem zdc : type_of% @Tryz.underlying4 := @Tryz.underlying4
theorem zdf : type_of% @Tryz.underlying104 := @Tryz.underlying104
theorem zdh : type_of% @Tryz.underlying44 := @Tryz.underlying44
theorem zdj : type_of% @Tryz.underlying92 := @Tryz.underlying92
theorem zdk : type_of% @Tryz.underlying70 := @Tryz.underlying70
theorem zdl : type_of% @Tryz.underlying63 := @Tryz.underlying63
theorem zdm : type_of% @Tryz.underlying24 := @Tryz.underlying24
theorem zdq : type_of% @Tryz.underlying33 := @Tryz.underlying33
theorem zea : type_of% @Tryz.underlying9 := @Tryz.underlying9
theorem zee : type_of% @Tryz.underlying59 := @Tryz.underlying59
theorem zeh : type_of% @Tryz.underlying94 := @Tryz.underlying94
theorem zei : type_of% @Tryz.underlying68 := @Tryz.underlying68
end Go.Proofs.YtcakdidcpoolcaaGreatDoor.WA

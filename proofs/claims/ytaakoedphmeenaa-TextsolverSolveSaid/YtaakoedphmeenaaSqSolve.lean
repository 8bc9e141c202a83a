/- Short names for the walks. Written by a program of mine (wip/tool). -/
import Derived.Test.YtaakoedphmeenaaProg
import Derived.Test.YtaakoedphmeenaaZ
namespace Go.X
open Go Go.RowKit
noncomputable abbrev vH (w : World) (S : Nat → Prop) (O : List (Option Nat)) (w1 : World) : Hp := Hv w.heap.size S O w1
noncomputable abbrev vZ (w1 w : World) (S : Nat → Prop) (O : List (Option Nat)) (Z : Nat → Prop) (w2 : World) : Hp := Zv w1 w.heap.size S O Z w2
abbrev vL (w w1 : World) (O : List (Option Nat)) (C : List Cont) : Prop := Loc [] [] w w1 O C
abbrev zaa := @Value.int
abbrev zab := @Cont.cells
abbrev zac := @Value.bool
theorem zad : type_of% @Option.some.inj := @Option.some.inj
theorem zae : type_of% @OpY.move := @OpY.move
abbrev zaf := @Value.string
theorem zag : type_of% @Rl.op := @Rl.op
theorem zah : type_of% @Swp.region := @Swp.region
theorem zai : type_of% @OpY.assign := @OpY.assign
theorem zaj : type_of% @Nat.le_of_ble_eq_true := @Nat.le_of_ble_eq_true
theorem zak : type_of% @Keep.trans := @Keep.trans
abbrev zal := @Value.pointer
theorem zam : type_of% @Swp.seq := @Swp.seq
theorem zao : type_of% @LateP.cons := @LateP.cons
theorem zap : type_of% @Swp.pop_back := @Swp.pop_back
theorem zaq : type_of% @GOp.op := @GOp.op
theorem zar : type_of% @Rl.nil := @Rl.nil
theorem zat : type_of% @OpY.fieldAddr := @OpY.fieldAddr
abbrev zau := @Value.slice
theorem zav : type_of% @OpY.ldBox1 := @OpY.ldBox1
theorem zaw : type_of% @DrH.de := @DrH.de
theorem zbb : type_of% @Rl.yes := @Rl.yes
theorem zbc : type_of% @Swp.block := @Swp.block
theorem zbe : type_of% @Swp.pop_blk := @Swp.pop_blk
theorem zbf : type_of% @List.mem_cons_self := @List.mem_cons_self
theorem zbg : type_of% @Iff.rfl := @Iff.rfl
theorem zbi : type_of% @Swp.cond_d := @Swp.cond_d
theorem zbj : type_of% @Rl.no := @Rl.no
theorem zbk : type_of% @OpY.pick_f := @OpY.pick_f
theorem zbl : type_of% @OpY.ixRowD := @OpY.ixRowD
theorem zbm : type_of% @Swp.skip := @Swp.skip
theorem zbo : type_of% @OpY.pick_t := @OpY.pick_t
theorem zbp : type_of% @Keep.refl := @Keep.refl
abbrev zbr := @Value.agg
theorem zbs : type_of% @OpY.ixRoD := @OpY.ixRoD
theorem zbt : type_of% @Swp.join := @Swp.join
theorem zbu : type_of% @OpY.ldRo1 := @OpY.ldRo1
theorem zbv : type_of% @Swp.ret := @Swp.ret
theorem zbw : type_of% @Hv.freshO := @Hv.freshO
theorem zbx : type_of% @Swp.loopM := @Swp.loopM
theorem zby : type_of% @OpY.ldElem1 := @OpY.ldElem1
theorem zbz : type_of% @At.mono := @At.mono
theorem zca : type_of% @OpY.add := @OpY.add
theorem zcc : type_of% @OpY.lenRo := @OpY.lenRo
theorem zcd : type_of% @Swp.exit := @Swp.exit
theorem zce : type_of% @OpY.call := @OpY.call
theorem zcf : type_of% @OpY.lss := @OpY.lss
theorem zch : type_of% @LateP.nil := @LateP.nil
theorem zci : type_of% @Swp.cond_b := @Swp.cond_b
theorem zcj : type_of% @Els.anyH := @Els.anyH
theorem zck : type_of% @OpY.indexAddr_arr := @OpY.indexAddr_arr
theorem zcl : type_of% @OpY.lenRow := @OpY.lenRow
theorem zcm : type_of% @OpY.extract := @OpY.extract
theorem zcn : type_of% @Els.nil := @Els.nil
theorem zco : type_of% @OpY.litRow := @OpY.litRow
theorem zcp : type_of% @GOp.yes := @GOp.yes
theorem zcq : type_of% @Els.cons := @Els.cons
theorem zcr : type_of% @OpY.ldBoxA := @OpY.ldBoxA
theorem zcu : type_of% @Rl.no_undef := @Rl.no_undef
theorem zcv : type_of% @Hv.lendW := @Hv.lendW
theorem zcx : type_of% @Swp.drawL := @Swp.drawL
theorem zcy : type_of% @Rs.get := @Rs.get
theorem zcz : type_of% @OpY.apRowX := @OpY.apRowX
theorem zdb : type_of% @OpY.eql := @OpY.eql
theorem zdc : type_of% @OpY.lenStr := @OpY.lenStr
theorem zdd : type_of% @DrH.fin0 := @DrH.fin0
theorem zdf : type_of% @OpY.sIndex := @OpY.sIndex
theorem zdg : type_of% @OpY.stRowX := @OpY.stRowX
theorem zdh : type_of% @GOp.no := @GOp.no
theorem zdi : type_of% @OpY.store := @OpY.store
theorem zdj : type_of% @Rl.op0 := @Rl.op0
theorem zdk : type_of% @OpY.nilCheck := @OpY.nilCheck
theorem zdl : type_of% @OpY.mkRowX := @OpY.mkRowX
theorem zdn : type_of% @RlF.next := @RlF.next
theorem zdo : type_of% @OpY.box := @OpY.box
theorem zdr : type_of% @OpY.litRow0 := @OpY.litRow0
theorem zds : type_of% @OpY.convInt := @OpY.convInt
theorem zdt : type_of% @OpY.callg := @OpY.callg
theorem zdu : type_of% @Src.row := @Src.row
theorem zdv : type_of% @RlF1.op := @RlF1.op
theorem zdw : type_of% @OpY.alloc := @OpY.alloc
theorem zdx : type_of% @NewOwn.cons := @NewOwn.cons
theorem zdy : type_of% @Hv.pick := @Hv.pick
theorem zdz : type_of% @Zv.stay := @Zv.stay
theorem zea : type_of% @DrH.rel := @DrH.rel
theorem zeb : type_of% @OpY.leq := @OpY.leq
theorem zec : type_of% @decide_eq_false := @decide_eq_false
theorem zed : type_of% @decide_eq_true := @decide_eq_true
theorem zee : type_of% @bind_some := @bind_some
theorem zef : type_of% @upds_sym := @upds_sym
theorem zeg : type_of% @eq_false_of_ne_true := @eq_false_of_ne_true
theorem zeh : type_of% @idx_some := @idx_some
theorem zei : type_of% @own_row_any := @own_row_any
theorem zej : type_of% @ones_cons := @ones_cons
theorem zek : type_of% @vw_view := @vw_view
theorem zel : type_of% @footV_osv := @footV_osv
theorem zem : type_of% @osv_one := @osv_one
theorem zen : type_of% @osv_some := @osv_some
theorem zeo : type_of% @row_elem := @row_elem
theorem zep : type_of% @apnd_some := @apnd_some
theorem zeq : type_of% @upd1_some := @upd1_some
theorem zer : type_of% @own_some := @own_some
theorem zes : type_of% @one_cells := @one_cells
theorem zet : type_of% @own_row_lend := @own_row_lend
theorem zeu : type_of% @ones_nil := @ones_nil
theorem zev : type_of% @row_pos := @row_pos
theorem zix {α β : Type} {xs : List α} {i : Int} {f : α → Option β} {r : β} (h : (idx xs i).bind f = some r) : ∃ x n, i = ((n : Nat) : Int) ∧ xs[n]? = some x ∧ n < xs.length ∧ f x = some r := by
 obtain ⟨x, q, h⟩ := bind_some h
 obtain ⟨n, q1, q2⟩ := idx_some q
 exact ⟨x, n, q1, q2, (List.getElem?_eq_some_iff.1 q2).1, h⟩
theorem zux {α β : Type} {xs : List α} {i : Int} {y : α} {f : List α → Option β} {r : β} (h : (upd1 xs i y).bind f = some r) : ∃ x n, i = ((n : Nat) : Int) ∧ n < xs.length ∧ x = xs.set n y ∧ f x = some r := by
 obtain ⟨x, q, h⟩ := bind_some h
 obtain ⟨n, q1, q2, q3⟩ := upd1_some q
 exact ⟨x, n, q1, q2, q3, h⟩
theorem zin {i : Int} {a b : Nat} (h : i = (a : Int)) (k : i = (b : Int)) : a = b := Int.ofNat_inj.1 (h.symm.trans k)
theorem zhb {w : World} {Z : Nat → Prop} : ∀ b, some b ∈ ([] : List (Option Nat)) → w.heap.size ≤ b ∧ ¬ Z b := by intro b hb; cases hb
theorem zhc {α : Type} {a b c : List α} {n : Nat} (h : (a ++ c).length = n) (q : b.length = a.length) : (b ++ c).length = n := by
 rw [List.length_append] at h ⊢; rw [q]; exact h
abbrev zO {α : Type} (b : Option Nat) (l : List α) (c : Nat) : Value := osv b 0 l.length c
abbrev zI (x : Int) : Value := Value.int .i64 x
noncomputable abbrev rI : Rep Int := rInt .i64
abbrev zN : Value := Value.slice none 0 0
abbrev zF : Value := Value.bool false
abbrev zT : Value := Value.bool true
abbrev zS (s : List UInt8) : Value := Value.string (s8 s)
theorem zl {X F : List (Option Nat)} {w0 w1 w2 : World} {O : List (Option Nat)} {C : List Cont} (hL : Loc X F w0 w1 O C) (h : Ext w1 w2) : Loc X F w0 w2 O C ∧ Keep w0.heap.size O w1 O w2 := ⟨hL.ext h, Keep.ext h⟩
theorem zrt {α : Sort _} {a : α} : a = a ∧ True := ⟨rfl, trivial⟩
theorem zrr {α β : Sort _} {a : α} {b : β} : a = a ∧ b = b := ⟨rfl, rfl⟩
end Go.X
namespace Go.Proofs.Ytaakoedphmeenaa.WA
open Go
theorem zan : type_of% @Try.underlying22 := @Try.underlying22
theorem zas : type_of% @Try.underlying52 := @Try.underlying52
theorem zax : type_of% @Try.underlying9 := @Try.underlying9
theorem zay : type_of% @Try.underlying3 := @Try.underlying3
theorem zaz : type_of% @Try.underlying27 := @Try.underlying27
theorem zba : type_of% @Try.underlying26 := @Try.underlying26
theorem zbd : type_of% @Try.underlying44 := @Try.underlying44
theorem zbh : type_of% @Try.underlying23 := @Try.underlying23
theorem zbn : type_of% @Try.underlying24 := @Try.underlying24
theorem zbq : type_of% @Try.underlying56 := @Try.underlying56
theorem zcb : type_of% @Try.underlying45 := @Try.underlying45
theorem zcg : type_of% @Try.underlying81 := @Try.underlying81
theorem zcs : type_of% @Try.underlying58 := @Try.underlying58
theorem zct : type_of% @Try.underlying31 := @Try.underlying31
theorem zcw : type_of% @Try.underlying5 := @Try.underlying5
theorem zda : type_of% @Try.underlying37 := @Try.underlying37
theorem zde : type_of% @Try.underlying93 := @Try.underlying93
theorem zdm : type_of% @Try.underlying79 := @Try.underlying79
theorem zdp : type_of% @Try.underlying4 := @Try.underlying4
theorem zdq : type_of% @Try.underlying95 := @Try.underlying95
end Go.Proofs.Ytaakoedphmeenaa.WA

/- The kinds of data, and how they are read. Written by a program of mine (wip/tool). -/
import Derived.Test.YtckhldmpcddjmaaDoorZ14
namespace Go.D
open Go Go.X
structure AEdge where
  Low : Int
  High : Int
  To : Int
  deriving DecidableEq
def rAEdge : Rep AEdge := ⟨3, fun H vs x => vs = [Value.int .u8 x.Low, Value.int .u8 x.High, Value.int .i64 x.To] ∧ True,
  fun H H' vs x hle h => by obtain ⟨h0, -⟩ := h; exact ⟨h0, trivial⟩,
  fun H vs x h => by obtain ⟨h0, -⟩ := h; rw [h0]; rfl,
  fun H vs x h => by obtain ⟨h0, -⟩ := h; rw [h0]; exact (ones_cons rfl (ones_cons rfl (ones_cons rfl ones_nil)))⟩
theorem rAEdge_open {H : Hp} {vs : List Value} {x : AEdge} (h : rAEdge.R H vs x) : vs = [Value.int .u8 x.Low, Value.int .u8 x.High, Value.int .i64 x.To] ∧ True := h
theorem rAEdge_close {H : Hp} {vs : List Value} {x : AEdge} (h : vs = [Value.int .u8 x.Low, Value.int .u8 x.High, Value.int .i64 x.To] ∧ True) : rAEdge.R H vs x := h
structure ADfa where
  Accept : (List Bool)
  Edges : (List (List AEdge))
  deriving DecidableEq
def rADfa : Rep ADfa := ⟨2, fun H vs x => ∃ v0 v1, vs = [v0, v1] ∧ Rs rBool H v0 x.Accept ∧ Rs (rSl rAEdge) H v1 x.Edges ∧ True,
  fun H H' vs x hle h => by obtain ⟨v0, v1, h0, k0, k1, -⟩ := h; exact ⟨v0, v1, h0, k0.mono hle, k1.mono hle, trivial⟩,
  fun H vs x h => by obtain ⟨v0, v1, h0, k0, k1, -⟩ := h; rw [h0]; rfl,
  fun H vs x h => by obtain ⟨v0, v1, h0, k0, k1, -⟩ := h; rw [h0]; exact (ones_cons k0.one (ones_cons k1.one ones_nil))⟩
structure AItem where
  state : Int
  text : (List UInt8)
  deriving DecidableEq
def rAItem : Rep AItem := ⟨2, fun H vs x => vs = [Value.int .i64 x.state, Value.string (s8 x.text)] ∧ True,
  fun H H' vs x hle h => by obtain ⟨h0, -⟩ := h; exact ⟨h0, trivial⟩,
  fun H vs x h => by obtain ⟨h0, -⟩ := h; rw [h0]; rfl,
  fun H vs x h => by obtain ⟨h0, -⟩ := h; rw [h0]; exact (ones_cons rfl (ones_cons rfl ones_nil))⟩
theorem rAItem_open {H : Hp} {vs : List Value} {x : AItem} (h : rAItem.R H vs x) : vs = [Value.int .i64 x.state, Value.string (s8 x.text)] ∧ True := h
theorem rAItem_close {H : Hp} {vs : List Value} {x : AItem} (h : vs = [Value.int .i64 x.state, Value.string (s8 x.text)] ∧ True) : rAItem.R H vs x := h
structure APair where
  a : Int
  b : Int
  deriving DecidableEq
def rAPair : Rep APair := ⟨2, fun H vs x => vs = [Value.int .i64 x.a, Value.int .i64 x.b] ∧ True,
  fun H H' vs x hle h => by obtain ⟨h0, -⟩ := h; exact ⟨h0, trivial⟩,
  fun H vs x h => by obtain ⟨h0, -⟩ := h; rw [h0]; rfl,
  fun H vs x h => by obtain ⟨h0, -⟩ := h; rw [h0]; exact (ones_cons rfl (ones_cons rfl ones_nil))⟩
theorem rAPair_open {H : Hp} {vs : List Value} {x : APair} (h : rAPair.R H vs x) : vs = [Value.int .i64 x.a, Value.int .i64 x.b] ∧ True := h
theorem rAPair_close {H : Hp} {vs : List Value} {x : APair} (h : vs = [Value.int .i64 x.a, Value.int .i64 x.b] ∧ True) : rAPair.R H vs x := h
structure AFinder where
  d : ADfa
  can : (List (List Bool))
  most : Int
  words : (List (List UInt8))
  deriving DecidableEq
structure APair2 where
  A : Int
  B : Int
  deriving DecidableEq
def rAPair2 : Rep APair2 := ⟨2, fun H vs x => vs = [Value.int .i64 x.A, Value.int .i64 x.B] ∧ True,
  fun H H' vs x hle h => by obtain ⟨h0, -⟩ := h; exact ⟨h0, trivial⟩,
  fun H vs x h => by obtain ⟨h0, -⟩ := h; rw [h0]; rfl,
  fun H vs x h => by obtain ⟨h0, -⟩ := h; rw [h0]; exact (ones_cons rfl (ones_cons rfl ones_nil))⟩
theorem rAPair2_open {H : Hp} {vs : List Value} {x : APair2} (h : rAPair2.R H vs x) : vs = [Value.int .i64 x.A, Value.int .i64 x.B] ∧ True := h
theorem rAPair2_close {H : Hp} {vs : List Value} {x : APair2} (h : vs = [Value.int .i64 x.A, Value.int .i64 x.B] ∧ True) : rAPair2.R H vs x := h
end Go.D

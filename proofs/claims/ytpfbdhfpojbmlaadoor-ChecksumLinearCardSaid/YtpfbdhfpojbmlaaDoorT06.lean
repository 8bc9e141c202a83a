/- The kinds of data, and how they are read. Written by a program of mine (wip/tool). -/
import Derived.Test.YtpfbdhfpojbmlaaDoorZ6
namespace Go.D
open Go Go.X
structure Arr3Int where
  e0 : Int
  e1 : Int
  e2 : Int
  deriving DecidableEq
def rArr3Int : Rep Arr3Int := ⟨3, fun H vs x => vs = [Value.int .u8 x.e0, Value.int .u8 x.e1, Value.int .u8 x.e2] ∧ True,
  fun H H' vs x hle h => by obtain ⟨h0, -⟩ := h; exact ⟨h0, trivial⟩,
  fun H vs x h => by obtain ⟨h0, -⟩ := h; rw [h0]; rfl,
  fun H vs x h => by obtain ⟨h0, -⟩ := h; rw [h0]; exact (ones_cons rfl (ones_cons rfl (ones_cons rfl ones_nil)))⟩
theorem rArr3Int_open {H : Hp} {vs : List Value} {x : Arr3Int} (h : rArr3Int.R H vs x) : vs = [Value.int .u8 x.e0, Value.int .u8 x.e1, Value.int .u8 x.e2] ∧ True := h
theorem rArr3Int_close {H : Hp} {vs : List Value} {x : Arr3Int} (h : vs = [Value.int .u8 x.e0, Value.int .u8 x.e1, Value.int .u8 x.e2] ∧ True) : rArr3Int.R H vs x := h
end Go.D

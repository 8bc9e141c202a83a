/- The kinds of data, and how they are read. Written by a program of mine (wip/tool). -/
import Derived.Test.YthmoefciofnmdaaDoorZ10
namespace Go.D
open Go Go.X
structure Big where
  Negative : Bool
  Digits : (List Int)
  deriving DecidableEq
def rBig : Rep Big := ⟨2, fun H vs x => ∃ v0, vs = [Value.bool x.Negative, v0] ∧ Rs (rInt .u32) H v0 x.Digits ∧ True,
  fun H H' vs x hle h => by obtain ⟨v0, h0, k0, -⟩ := h; exact ⟨v0, h0, k0.mono hle, trivial⟩,
  fun H vs x h => by obtain ⟨v0, h0, k0, -⟩ := h; rw [h0]; rfl,
  fun H vs x h => by obtain ⟨v0, h0, k0, -⟩ := h; rw [h0]; exact (ones_cons rfl (ones_cons k0.one ones_nil))⟩
theorem rBig_open {H : Hp} {vs : List Value} {x : Big} (h : rBig.R H vs x) : ∃ v0, vs = [Value.bool x.Negative, v0] ∧ Rs (rInt .u32) H v0 x.Digits ∧ True := h
theorem rBig_close {H : Hp} {vs : List Value} {x : Big} (h : ∃ v0, vs = [Value.bool x.Negative, v0] ∧ Rs (rInt .u32) H v0 x.Digits ∧ True) : rBig.R H vs x := h
end Go.D

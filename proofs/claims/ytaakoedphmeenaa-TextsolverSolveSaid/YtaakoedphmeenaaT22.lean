/- The kinds of data, and how they are read. Written by a program of mine (wip/tool). -/
import Derived.Test.YtaakoedphmeenaaZ
namespace Go.D
open Go Go.X
structure TTest where
 Var : Int
 Kind : Int
 Negated : Bool
 Text : (List UInt8)
 deriving DecidableEq
def rTTest : Rep TTest := ⟨4, fun H vs x => vs = [Value.int .i64 x.Var, Value.int .i64 x.Kind, Value.bool x.Negated, Value.string (s8 x.Text)] ∧ True,
 fun H H' vs x hle h => by obtain ⟨h0, -⟩ := h; exact ⟨h0, trivial⟩,
 fun H vs x h => by obtain ⟨h0, -⟩ := h; rw [h0]; rfl,
 fun H vs x h => by obtain ⟨h0, -⟩ := h; rw [h0]; exact (ones_cons rfl (ones_cons rfl (ones_cons rfl (ones_cons rfl ones_nil))))⟩
theorem rTTest_open {H : Hp} {vs : List Value} {x : TTest} (h : rTTest.R H vs x) : vs = [Value.int .i64 x.Var, Value.int .i64 x.Kind, Value.bool x.Negated, Value.string (s8 x.Text)] ∧ True := h
theorem rTTest_close {H : Hp} {vs : List Value} {x : TTest} (h : vs = [Value.int .i64 x.Var, Value.int .i64 x.Kind, Value.bool x.Negated, Value.string (s8 x.Text)] ∧ True) : rTTest.R H vs x := h
structure TFinder where
 tests : (List TTest)
 most : Int
 out : (List (List UInt8))
 dead : (List ((List UInt8) × Bool))
structure Arr2Int where
 e0 : Int
 e1 : Int
 deriving DecidableEq
def rArr2Int : Rep Arr2Int := ⟨2, fun H vs x => vs = [Value.int .i64 x.e0, Value.int .i64 x.e1] ∧ True,
 fun H H' vs x hle h => by obtain ⟨h0, -⟩ := h; exact ⟨h0, trivial⟩,
 fun H vs x h => by obtain ⟨h0, -⟩ := h; rw [h0]; rfl,
 fun H vs x h => by obtain ⟨h0, -⟩ := h; rw [h0]; exact (ones_cons rfl (ones_cons rfl ones_nil))⟩
theorem rArr2Int_open {H : Hp} {vs : List Value} {x : Arr2Int} (h : rArr2Int.R H vs x) : vs = [Value.int .i64 x.e0, Value.int .i64 x.e1] ∧ True := h
theorem rArr2Int_close {H : Hp} {vs : List Value} {x : Arr2Int} (h : vs = [Value.int .i64 x.e0, Value.int .i64 x.e1] ∧ True) : rArr2Int.R H vs x := h
structure TProb where
 Min : (List Int)
 Max : (List Int)
 Tests : (List TTest)
 Same : (List Arr2Int)
 Different : (List Arr2Int)
 deriving DecidableEq
def rTProb : Rep TProb := ⟨5, fun H vs x => ∃ v0 v1 v2 v3 v4, vs = [v0, v1, v2, v3, v4] ∧ Rs (rInt .i64) H v0 x.Min ∧ Rs (rInt .i64) H v1 x.Max ∧ Rs rTTest H v2 x.Tests ∧ Rs rArr2Int H v3 x.Same ∧ Rs rArr2Int H v4 x.Different ∧ True,
 fun H H' vs x hle h => by obtain ⟨v0, v1, v2, v3, v4, h0, k0, k1, k2, k3, k4, -⟩ := h; exact ⟨v0, v1, v2, v3, v4, h0, k0.mono hle, k1.mono hle, k2.mono hle, k3.mono hle, k4.mono hle, trivial⟩,
 fun H vs x h => by obtain ⟨v0, v1, v2, v3, v4, h0, k0, k1, k2, k3, k4, -⟩ := h; rw [h0]; rfl,
 fun H vs x h => by obtain ⟨v0, v1, v2, v3, v4, h0, k0, k1, k2, k3, k4, -⟩ := h; rw [h0]; exact (ones_cons k0.one (ones_cons k1.one (ones_cons k2.one (ones_cons k3.one (ones_cons k4.one ones_nil)))))⟩
structure TClass where
 low : Int
 high : Int
 tests : (List TTest)
 words : (List (List UInt8))
 apart : (List Int)
 deriving DecidableEq
def rTClass : Rep TClass := ⟨5, fun H vs x => ∃ v0 v1 v2, vs = [Value.int .i64 x.low, Value.int .i64 x.high, v0, v1, v2] ∧ Rs rTTest H v0 x.tests ∧ Rs rStr H v1 x.words ∧ Rs (rInt .i64) H v2 x.apart ∧ True,
 fun H H' vs x hle h => by obtain ⟨v0, v1, v2, h0, k0, k1, k2, -⟩ := h; exact ⟨v0, v1, v2, h0, k0.mono hle, k1.mono hle, k2.mono hle, trivial⟩,
 fun H vs x h => by obtain ⟨v0, v1, v2, h0, k0, k1, k2, -⟩ := h; rw [h0]; rfl,
 fun H vs x h => by obtain ⟨v0, v1, v2, h0, k0, k1, k2, -⟩ := h; rw [h0]; exact (ones_cons rfl (ones_cons rfl (ones_cons k0.one (ones_cons k1.one (ones_cons k2.one ones_nil)))))⟩
theorem rTClass_open {H : Hp} {vs : List Value} {x : TClass} (h : rTClass.R H vs x) : ∃ v0 v1 v2, vs = [Value.int .i64 x.low, Value.int .i64 x.high, v0, v1, v2] ∧ Rs rTTest H v0 x.tests ∧ Rs rStr H v1 x.words ∧ Rs (rInt .i64) H v2 x.apart ∧ True := h
theorem rTClass_close {H : Hp} {vs : List Value} {x : TClass} (h : ∃ v0 v1 v2, vs = [Value.int .i64 x.low, Value.int .i64 x.high, v0, v1, v2] ∧ Rs rTTest H v0 x.tests ∧ Rs rStr H v1 x.words ∧ Rs (rInt .i64) H v2 x.apart ∧ True) : rTClass.R H vs x := h
def dkRow22x : DRep (List Int) := dRow (rInt .i64) rfl (fun _ _ _ _ h => h)
def dkTClass : DRep TClass where
 r := rTClass
 nf := 2
 R vs bs c x := ∃ v0 b0 k0 v1 b1 k1, vs = [Value.int .i64 x.low, Value.int .i64 x.high, v0, Value.slice none 0 0, v1] ∧ bs = [b0, b1] ∧ c = [k0, k1] ∧ DS rTTest v0 b0 k0 x.tests ∧ DS (rInt .i64) v1 b1 k1 x.apart ∧ x.words = []
 len := by
  rintro _ _ _ x ⟨v0, b0, k0, v1, b1, k1, rfl, rfl, rfl, d0, d1, w0⟩; exact ⟨rfl, rfl, rfl⟩
 toR := by
  rintro _ _ _ x H ⟨v0, b0, k0, v1, b1, k1, rfl, rfl, rfl, d0, d1, w0⟩ ho
  exact rTClass_close ⟨v0, Value.slice none 0 0, v1, rfl, d0.rs rfl (fun _ _ _ _ h => h) (ho 0 _ _ rfl rfl), w0 ▸ Rs.nil, d1.rs rfl (fun _ _ _ _ h => h) (ho 1 _ _ rfl rfl), trivial⟩
end Go.D

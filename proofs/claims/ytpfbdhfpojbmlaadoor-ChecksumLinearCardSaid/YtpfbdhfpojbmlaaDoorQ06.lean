/- Openers of the argument, and the laid table. Written by a program of mine (wip/tool). -/
import Derived.Test.YtpfbdhfpojbmlaaDoorProg
import Derived.Test.YtpfbdhfpojbmlaaDoorZ17
import Derived.Test.YtpfbdhfpojbmlaaDoorX12
import Derived.Test.YtpfbdhfpojbmlaaDoorT06
import Derived.Test.YtpfbdhfpojbmlaaDoorJ06
import Derived.Test.YtpfbdhfpojbmlaaDoorRows
import Derived.Stop.LaidErr
set_option maxRecDepth 100000
set_option linter.unusedVariables false
namespace Go.Proofs.YtpfbdhfpojbmlaaDoor.Q06
open Go Go.RowKit Go.X Go.D
section
variable {H : Type} {enc : TypeId × Value → H} {W : World}
def G5 (x : Int) : Prop := (Lit.int .u8 x).wf = true
theorem o5 : ∀ N, Opn enc Tryd.prog W N (rInt .u8) 5 G5 := fun N => Opn.int Tryd.underlying5
def G39 (x : Arr3Int) : Prop := G5 x.e0 ∧ G5 x.e1 ∧ G5 x.e2 ∧ True
theorem o39 : ∀ N, Opn enc Tryd.prog W N rArr3Int 39 G39 := by
  intro N fuel hf cs x h
  obtain ⟨hl, n, hn, hfs⟩ := trod_elems Tryd.underlying39 h
  have hl : cs.length = 3 := hl
  match cs, hl with
  | [c0, c1, c2], _ =>
    obtain ⟨y0, h0⟩ := hfs 0 (by decide)
    obtain ⟨a0, r0, g0⟩ := o5 n n (Nat.le_refl _) _ _ h0
    have r0 : (rInt .u8).R (HW W) [c0] a0 := r0
    have r0 : [c0] = [.int .u8 a0] := r0
    cases r0
    obtain ⟨y1, h1⟩ := hfs 1 (by decide)
    obtain ⟨a1, r1, g1⟩ := o5 n n (Nat.le_refl _) _ _ h1
    have r1 : (rInt .u8).R (HW W) [c1] a1 := r1
    have r1 : [c1] = [.int .u8 a1] := r1
    cases r1
    obtain ⟨y2, h2⟩ := hfs 2 (by decide)
    obtain ⟨a2, r2, g2⟩ := o5 n n (Nat.le_refl _) _ _ h2
    have r2 : (rInt .u8).R (HW W) [c2] a2 := r2
    have r2 : [c2] = [.int .u8 a2] := r2
    cases r2
    exact ⟨⟨a0, a1, a2⟩, ⟨rfl, trivial⟩, ⟨g0, g1, g2, trivial⟩⟩
def G38 (xs : (List Arr3Int)) : Prop := xs.length ≤ 9223372036854775807 ∧ ∀ x ∈ xs, G39 x
theorem o38 : ∀ N, Opn enc Tryd.prog W N (rSl rArr3Int) 38 G38 := fun N => Opn.less (Opn.slice Tryd.underlying38 (by kernel_rfl) rfl (o39 N))
theorem byt_of {l : List Arr3Int} (h : G38 l) : ∀ x ∈ l, Byt x := fun x hx => by
  obtain ⟨g0, g1, g2, _⟩ := h.2 x hx
  exact ⟨⟨(bounds_u8 g0).1, by have := (bounds_u8 g0).2; omega⟩, ⟨(bounds_u8 g1).1, by have := (bounds_u8 g1).2; omega⟩, ⟨(bounds_u8 g2).1, by have := (bounds_u8 g2).2; omega⟩⟩
theorem gTab : Tryd.prog.globalNamed "math/bits.deBruijn64tab" = some 3 := by kernel_rfl
theorem gTabType : (Tryd.prog.globals[3]?).map (·.type) = some 83 := by kernel_rfl
def tab64 : List Int := [0, 1, 56, 2, 57, 49, 28, 3, 61, 58, 42, 50, 38, 29, 17, 4, 62, 47, 59, 36, 45, 43, 51, 22, 53, 39, 33, 30, 24, 18, 12, 5, 63, 55, 48, 27, 60, 41, 37, 16, 46, 35, 44, 21, 52, 32, 23, 11, 54, 26, 40, 15, 34, 20, 31, 10, 25, 14, 19, 9, 13, 8, 7, 6]
theorem gfact {W : World} {r : List (String × DataW Unit)} {x : String × DataW Unit} (h : laidMet Tryd.prog (x :: ("math/bits.deBruijn64tab", Rows.laid_math_bits_deBruijn64tab) :: r) W) : G W :=
  tab_at (zs := tab64) h (.tail _ (.head _)) gTab gTabType Tryd.underlying83 Tryd.underlying5 (by kernel_rfl) (by kernel_rfl) 15 (by decide)
end
end Go.Proofs.YtpfbdhfpojbmlaaDoor.Q06

/-
  Rows of integers that a function owns: reading, writing; what is handed on at the end. Plain theorems over any program.
-/
import Derived.Test.YtakkacdhlocckaaX7
namespace Go.X
open Go Go.RowKit
section
variable {P : Program} {ty : TypeId} {ρ : Operand → Value} {w : World} {R : Value → World → Prop} {X B : List (Option Nat)} {w0 : World} {O : List (Option Nat)} {C : List Cont}
theorem Bok.sub {O O' A : List (Option Nat)} (hB : Bok (O ++ A) w) (h : ∀ b, b ∈ O' → b ∈ O) : Bok (O' ++ A) w := by
  intro b hb
  rcases List.mem_append.1 hb with h1 | h1
  · exact hB b (List.mem_append_left _ (h _ h1))
  · exact hB b (List.mem_append_right _ h1)
end
theorem own_cells {w : World} {b : Nat} {vs : List Value} (h : OwnC w (some b) (.cells vs)) {o : Nat} (ho : o = 0) : ∀ j v, vs[j]? = some v → w.cell? ((⟨b, o, none⟩ : Addr).add j) = some v := by
  intro j v hj
  subst ho
  rw [add_plain, Nat.zero_add]
  exact cell_own h hj
end Go.X

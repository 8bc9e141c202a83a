/-
  The law on what holds. Plain theorems.
-/
import Derived.Test.YtakkacdhlocckaaM4
import Derived.Test.YtakkacdhlocckaaOL
namespace Go.D
open Go Go.X
theorem awake_at : awake 50 = some true := by decide +kernel
theorem awake_tm : Tm (fun N => awake N) (fun r => r = true) := Lo.tm (f := fun N => awake N) (fun h => awake_lo h) awake_at
def In32 (x : Big) : Prop := InB W32 x.Digits
end Go.D

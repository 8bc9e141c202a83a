/- A plain counterpart, written by a program of mine (wip/tool). -/
import Derived.Test.YtpfbdhfpojbmlaaDoorT06
import Derived.Test.YtpfbdhfpojbmlaaDoorF06
set_option linter.unusedVariables false
set_option linter.unusedSimpArgs false
namespace Go.D
open Go Go.X
def lawLinear_b1 (N : Nat) (l : (List Arr3Int)) : ((List Int) × (List Int) × (List Int) × (List Int) × Int) → Option (Stp ((List Int) × (List Int) × (List Int) × (List Int) × Int) ((List Int) × (List Int) × (List Int) × (List Int)))
  | (a540, b549, c558, d567, x571) =>
    (if (x571 : Int) < (List.length l : Int) then
      (idx l x571).bind fun x639 =>
      (apnd 1 a540 [x639.e0]).bind fun x685 =>
      (apnd 1 b549 [x639.e1]).bind fun x716 =>
      (apnd 1 c558 [x639.e2]).bind fun x747 =>
      (apnd 1 d567 [(bxor .u8 (bxor .u8 x639.e0 x639.e1) x639.e2)]).bind fun x778 =>
      some (Stp.next (x685, x716, x747, x778, (iw (x571 + 1))))
    else
      some (Stp.done (a540, b549, c558, d567)))
def lawLinear (N : Nat) (l : (List Arr3Int)) : Option Bool :=
  (((awake6 N ).bind fun r13 =>
  (if (!r13) = true then
    some true
  else
    some (decide (((List.length l : Int) : Int) > 300))) : Option Bool)).bind fun ss =>
    match ss with
    | x10 =>
      (if x10 = true then
        (awake6 N ).bind fun r26 =>
        some r26
      else
        (loopM (lawLinear_b1 N l) N (([] : (List Int)), ([] : (List Int)), ([] : (List Int)), ([] : (List Int)), 0)).bind fun ss =>
          match ss with
          | (a577, b586, c595, d604) =>
            (ckSum N d604).bind fun r867 =>
            (ckSum N a577).bind fun r874 =>
            (ckSum N b586).bind fun r882 =>
            (ckSum N c595).bind fun r890 =>
            some (decide ((r867 : Int) = (bxor .u64 (bxor .u64 r874 r882) r890))))
end Go.D

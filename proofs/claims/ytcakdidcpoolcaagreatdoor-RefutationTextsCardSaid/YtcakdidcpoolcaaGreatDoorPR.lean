/- Plain counterparts, written by a program of mine (wip/tool). -/
import Derived.Test.YtcakdidcpoolcaaGreatDoorT25
import Derived.Test.YtcakdidcpoolcaaGreatDoorFD25
import Derived.Test.YtcakdidcpoolcaaGreatDoorPA
set_option linter.unusedVariables false
set_option linter.unusedSimpArgs false
namespace Go.D
open Go Go.X
def rtrim_b1 (N : Nat)  : (List Int) → Option (Stp (List Int) (List Int))
 | v0 =>
  (((if ((List.length v0 : Int) : Int) > 0 then
   (idx v0 (iw ((List.length v0 : Int) - 1))).bind fun v1 =>
   some (decide ((v1 : Int) = 0))
  else
   some false) : Option Bool)).bind fun ss =>
   match ss with
   | v2 =>
    (if v2 = true then
     (cut v0 0 (iw ((List.length v0 : Int) - 1))).bind fun v3 =>
     some (Stp.next v3)
    else
     some (Stp.done v0))
def rtrim (N : Nat) (l : (List Int)) : Option (List Int) :=
 (loopM (rtrim_b1 N ) N l).bind fun ss =>
  match ss with
  | v0 =>
   some v0
def rbig_b1 (N : Nat) (r6 : (List Int)) : ((List Int) × Int) → Option (Stp ((List Int) × Int) (List Int))
 | (v0, v1) =>
  (if (v1 : Int) < (List.length r6 : Int) then
   (idx r6 v1).bind fun v2 =>
   (((if ((iw (v1 + 1)) : Int) < (List.length r6 : Int) then
    (idx r6 (iw (v1 + 1))).bind fun v3 =>
    some (uw32 ((uw32 v2) + (uw32 (65536 * (uw32 v3)))))
   else
    some (uw32 v2)) : Option Int)).bind fun ss =>
    match ss with
    | v4 =>
     (apnd 4 v0 [v4]).bind fun v5 =>
     some (Stp.next (v5, (iw (v1 + 2))))
  else
   some (Stp.done v0))
def rbig (N : Nat) (negative : Bool) (l : (List Int)) : Option Big :=
 (rtrim N l).bind fun r6 =>
 (((if negative = true then
  some (decide (((List.length r6 : Int) : Int) > 0))
 else
  some false) : Option Bool)).bind fun ss =>
  match ss with
  | v0 =>
   (loopM (rbig_b1 N r6) N (([] : (List Int)), 0)).bind fun ss =>
    match ss with
    | v1 =>
     some (Big.mk v0 v1)
def rOf_b1 (N : Nat)  : (Int × (List Int)) → Option (Stp (Int × (List Int)) (List Int))
 | (v0, v1) =>
  (if (v0 : Int) > 0 then
   (apnd 8 v1 [(iw (Int.tmod v0 65536))]).bind fun v2 =>
   some (Stp.next ((uw (Int.tdiv v0 65536)), v2))
  else
   some (Stp.done v1))
def rOf (N : Nat) (n : Int) : Option Big :=
 (((if (n : Int) < 0 then
  some (uw ((uw (iw (0 - (iw (n + 1))))) + 1))
 else
  some (uw n)) : Option Int)).bind fun ss =>
  match ss with
  | u8 =>
   (loopM (rOf_b1 N ) N (u8, ([] : (List Int)))).bind fun ss =>
    match ss with
    | v0 =>
     (rbig N (decide ((n : Int) < 0)) v0).bind fun v1 =>
     some v1
end Go.D

/- Plain counterparts, written by a program of mine (wip/tool). -/
import Derived.Test.YtcakdidcpoolcaaGreatDoorT25
import Derived.Test.YtcakdidcpoolcaaGreatDoorFD25
import Derived.Test.YtcakdidcpoolcaaGreatDoorPA
import Derived.Test.YtcakdidcpoolcaaGreatDoorPR
import Derived.Test.YtcakdidcpoolcaaGreatDoorPB
import Derived.Test.YtcakdidcpoolcaaGreatDoorPC
import Derived.Test.YtcakdidcpoolcaaGreatDoorPD
import Derived.Test.YtcakdidcpoolcaaGreatDoorPI
import Derived.Test.YtcakdidcpoolcaaGreatDoorPH
import Derived.Test.YtcakdidcpoolcaaGreatDoorPS
import Derived.Test.YtcakdidcpoolcaaGreatDoorPV
set_option linter.unusedVariables false
set_option linter.unusedSimpArgs false
namespace Go.D
open Go Go.X
def wSize_b1 (N : Nat) (self : Refut → Option Int) (pa : Refut) : (Int × Int) → Option (Stp (Int × Int) Int)
 | (v0, v1) =>
  (((if (v1 : Int) < (List.length pa.Children : Int) then
   some (decide ((pa.Kind : Int) = 3))
  else
   some false) : Option Bool)).bind fun ss =>
   match ss with
   | v2 =>
    (if v2 = true then
     (idx pa.Children v1).bind fun v3 =>
     (self v3).bind fun v4 =>
     some (Stp.next ((iw (v0 + v4)), (iw (v1 + 1))))
    else
     some (Stp.done v0))
def wSize_step (N : Nat) (self : Refut → Option Int) (pa : Refut) : Option Int :=
 (((if (pa.Kind : Int) = 2 then
  (rSize N pa.Proof).bind fun v0 =>
  some (iw (1 + v0))
 else
  some 1) : Option Int)).bind fun ss =>
  match ss with
  | v1 =>
   (loopM (wSize_b1 N self pa) N (v1, 0)).bind fun ss =>
    match ss with
    | v2 =>
     some v2
def wSize : Nat → Refut → Option Int
 | 0 => fun _ => none
 | N + 1 => wSize_step N (wSize N)
def wnumber (N : Nat) (n : Int) : Option (List UInt8) :=
 (rOf N n).bind fun r1 =>
 (rText N r1).bind fun v0 =>
 some v0
def wFormat_b1 (N : Nat) (self : Refut → Option (List UInt8)) (pa : Refut) : ((List UInt8) × Int) → Option (Stp ((List UInt8) × Int) (List UInt8))
 | (v0, v1) =>
  (if (v1 : Int) < (List.length pa.Children : Int) then
   (chk ((List.length v0 : Int) + List.length ([32, 40] : List UInt8) ≤ 9223372036854775807)).bind fun _ =>
   (idx pa.Children v1).bind fun v2 =>
   (self v2).bind fun v3 =>
   (chk ((List.length (v0 ++ ([32, 40] : List UInt8)) : Int) + List.length v3 ≤ 9223372036854775807)).bind fun _ =>
   (chk ((List.length ((v0 ++ ([32, 40] : List UInt8)) ++ v3) : Int) + List.length ([41] : List UInt8) ≤ 9223372036854775807)).bind fun _ =>
   some (Stp.next ((((v0 ++ ([32, 40] : List UInt8)) ++ v3) ++ ([41] : List UInt8)), (iw (v1 + 1))))
  else
   some (Stp.done v0))
def wFormat_step (N : Nat) (self : Refut → Option (List UInt8)) (pa : Refut) : Option (List UInt8) :=
 (if (pa.Kind : Int) = 0 then
  (wnumber N pa.Var).bind fun r7 =>
  (chk ((List.length ([110, 117, 108, 108, 32, 120] : List UInt8) : Int) + List.length r7 ≤ 9223372036854775807)).bind fun _ =>
  some (([110, 117, 108, 108, 32, 120] : List UInt8) ++ r7)
 else
  (if (pa.Kind : Int) = 1 then
   some ([116, 101, 120, 116] : List UInt8)
  else
   (if (pa.Kind : Int) = 2 then
    (rSize N pa.Proof).bind fun v0 =>
    (wnumber N v0).bind fun v1 =>
    (chk ((List.length ([105, 110, 116, 101, 103, 101, 114, 115, 32] : List UInt8) : Int) + List.length v1 ≤ 9223372036854775807)).bind fun _ =>
    some (([105, 110, 116, 101, 103, 101, 114, 115, 32] : List UInt8) ++ v1)
   else
    (if (pa.Kind : Int) = 3 then
     (wnumber N pa.Var).bind fun v2 =>
     (chk ((List.length ([108, 101, 110, 103, 116, 104, 32, 120] : List UInt8) : Int) + List.length v2 ≤ 9223372036854775807)).bind fun _ =>
     (chk ((List.length (([108, 101, 110, 103, 116, 104, 32, 120] : List UInt8) ++ v2) : Int) + List.length ([32, 60, 61, 32] : List UInt8) ≤ 9223372036854775807)).bind fun _ =>
     (wnumber N pa.At).bind fun v3 =>
     (chk ((List.length ((([108, 101, 110, 103, 116, 104, 32, 120] : List UInt8) ++ v2) ++ ([32, 60, 61, 32] : List UInt8)) : Int) + List.length v3 ≤ 9223372036854775807)).bind fun _ =>
     (loopM (wFormat_b1 N self pa) N ((((([108, 101, 110, 103, 116, 104, 32, 120] : List UInt8) ++ v2) ++ ([32, 60, 61, 32] : List UInt8)) ++ v3), 0)).bind fun ss =>
      match ss with
      | v4 =>
       some v4
    else
     some ([105, 110, 118, 97, 108, 105, 100] : List UInt8)))))
def wFormat : Nat → Refut → Option (List UInt8)
 | 0 => fun _ => none
 | N + 1 => wFormat_step N (wFormat N)
def wparts_b1 (N : Nat) (self : Refut → Option Int) (pa : Refut) : (Int × Int) → Option (Stp (Int × Int) Int)
 | (v0, v1) =>
  (((if (v1 : Int) < (List.length pa.Children : Int) then
   some (decide ((v0 : Int) ≤ 100))
  else
   some false) : Option Bool)).bind fun ss =>
   match ss with
   | v2 =>
    (if v2 = true then
     (idx pa.Children v1).bind fun v3 =>
     (self v3).bind fun v4 =>
     some (Stp.next ((iw (v0 + v4)), (iw (v1 + 1))))
    else
     some (Stp.done v0))
def wparts_step (N : Nat) (self : Refut → Option Int) (pa : Refut) : Option Int :=
 (rSmallProof N pa.Proof).bind fun r6 =>
 (if (!r6) = true then
  some 101
 else
  (loopM (wparts_b1 N self pa) N (1, 0)).bind fun ss =>
   match ss with
   | v0 =>
    some v0)
def wparts : Nat → Refut → Option Int
 | 0 => fun _ => none
 | N + 1 => wparts_step N (wparts N)
def wSmall (N : Nat) (pa : Refut) : Option Bool :=
 (wparts N pa).bind fun r6 =>
 some (decide ((r6 : Int) ≤ 30))
end Go.D

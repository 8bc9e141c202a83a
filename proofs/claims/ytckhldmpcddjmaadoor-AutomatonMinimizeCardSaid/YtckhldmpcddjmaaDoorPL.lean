/- Plain counterparts, written by a program of mine (wip/tool). -/
import Derived.Test.YtckhldmpcddjmaaDoorT20
import Derived.Test.YtckhldmpcddjmaaDoorFD20
import Derived.Test.YtckhldmpcddjmaaDoorPA
import Derived.Test.YtckhldmpcddjmaaDoorPR
set_option linter.unusedVariables false
set_option linter.unusedSimpArgs false
namespace Go.D
open Go Go.X
def lown_b2 (N : Nat) (x670 : (List AEdge)) : ((List AEdge) × Int) → Option (Stp ((List AEdge) × Int) (List AEdge))
  | (m823, x827) =>
    (if (x827 : Int) < (List.length x670 : Int) then
      (idx x670 x827).bind fun x857 =>
      (apnd 16 m823 [(AEdge.mk x857.Low x857.High x857.To)]).bind fun x888 =>
      some (Stp.next (x888, (iw (x827 + 1))))
    else
      some (Stp.done m823))
def lown_b1 (N : Nat) (d : ADfa) : ((List (List AEdge)) × Int) → Option (Stp ((List (List AEdge)) × Int) (List (List AEdge)))
  | (edges637, x641) =>
    (if (x641 : Int) < (List.length d.Edges : Int) then
      (idx d.Edges x641).bind fun x670 =>
      (loopM (lown_b2 N x670) N (([] : (List AEdge)), 0)).bind fun ss =>
        match ss with
        | m837 =>
          (apnd 24 edges637 [m837]).bind fun x925 =>
          some (Stp.next (x925, (iw (x641 + 1))))
    else
      some (Stp.done edges637))
def lown (N : Nat) (d : ADfa) : Option ADfa :=
  (apnd 1 ([] : (List Bool)) d.Accept).bind fun x20 =>
  (loopM (lown_b1 N d) N (([] : (List (List AEdge))), 0)).bind fun ss =>
    match ss with
    | edges650 =>
      some (ADfa.mk x20 edges650)
def lback_b2 (N : Nat) (x670 : (List AEdge)) : ((List AEdge) × Int) → Option (Stp ((List AEdge) × Int) (List AEdge))
  | (m823, x827) =>
    (if (x827 : Int) < (List.length x670 : Int) then
      (idx x670 x827).bind fun x857 =>
      (apnd 16 m823 [(AEdge.mk x857.Low x857.High x857.To)]).bind fun x888 =>
      some (Stp.next (x888, (iw (x827 + 1))))
    else
      some (Stp.done m823))
def lback_b1 (N : Nat) (d : ADfa) : ((List (List AEdge)) × Int) → Option (Stp ((List (List AEdge)) × Int) (List (List AEdge)))
  | (edges637, x641) =>
    (if (x641 : Int) < (List.length d.Edges : Int) then
      (idx d.Edges x641).bind fun x670 =>
      (loopM (lback_b2 N x670) N (([] : (List AEdge)), 0)).bind fun ss =>
        match ss with
        | m837 =>
          (apnd 24 edges637 [m837]).bind fun x925 =>
          some (Stp.next (x925, (iw (x641 + 1))))
    else
      some (Stp.done edges637))
def lback (N : Nat) (d : ADfa) : Option ADfa :=
  (apnd 1 ([] : (List Bool)) d.Accept).bind fun x20 =>
  (loopM (lback_b1 N d) N (([] : (List (List AEdge))), 0)).bind fun ss =>
    match ss with
    | edges650 =>
      some (ADfa.mk x20 edges650)
def lexample (N : Nat)  : Option ADfa :=
  some (ADfa.mk [false, false, true] [[(AEdge.mk 97 99 1)], [(AEdge.mk 100 100 2)], []])
def awake (N : Nat)  : Option Bool :=
  (lexample N ).bind fun r1 =>
  (aShortest N r1).bind fun r23 =>
  (aWords N r1 2 2).bind fun r32 =>
  (aMinimize N (ADfa.mk [false, false] [[(AEdge.mk 97 122 1)], []])).bind fun r78 =>
  (if r23.1 = ([97, 100] : List UInt8) then
    (if r23.2 = true then
      (if ((List.length r32 : Int) : Int) = 2 then
        (idx r32 0).bind fun x106 =>
        (if x106 = ([97, 100] : List UInt8) then
          (idx r32 1).bind fun x119 =>
          (if x119 = ([98, 100] : List UInt8) then
            (if (r78.2 : Int) = 0 then
              (if ((List.length r78.1.Accept : Int) : Int) = 1 then
                (if ((List.length r78.1.Edges : Int) : Int) = 1 then
                  (idx r78.1.Edges 0).bind fun x135 =>
                  (if ((List.length x135 : Int) : Int) = 0 then
                    (aAccepts N r1 ([99, 100] : List UInt8)).bind fun r151 =>
                    (if r151 = true then
                      (aAccepts N r1 ([100, 100] : List UInt8)).bind fun r161 =>
                      some (!r161)
                    else
                      some false)
                  else
                    some false)
                else
                  some false)
              else
                some false)
            else
              some false)
          else
            some false)
        else
          some false)
      else
        some false)
    else
      some false)
  else
    some false)
def lawMinimize (N : Nat) (a : ADfa) : Option Bool :=
  (((awake N ).bind fun r27 =>
  (if (!r27) = true then
    some true
  else
    (rFew N a).bind fun r35 =>
    some (!r35)) : Option Bool)).bind fun ss =>
    match ss with
    | x24 =>
      (if x24 = true then
        (awake N ).bind fun r48 =>
        some r48
      else
        (lown N a).bind fun r55 =>
        (aMinimize N r55).bind fun r68 =>
        (if (r68.2 : Int) = 0 then
          (aValid N r68.1).bind fun r91 =>
          (if r91 = true then
            (rLeast N a).bind fun r95 =>
            (if ((List.length r68.1.Accept : Int) : Int) = r95 then
              (lback N r68.1).bind fun r99 =>
              (rValid N r99).bind fun r106 =>
              (if r106 = true then
                (lback N r68.1).bind fun r110 =>
                (rEquivalent N a r110).bind fun r277 =>
                some r277
              else
                some false)
            else
              some false)
          else
            some false)
        else
          some false))
end Go.D

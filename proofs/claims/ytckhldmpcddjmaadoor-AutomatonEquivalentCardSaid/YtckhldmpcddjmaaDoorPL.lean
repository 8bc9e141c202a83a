/- Plain counterparts, written by a program of mine (wip/tool). -/
import Derived.Test.YtckhldmpcddjmaaDoorT20
import Derived.Test.YtckhldmpcddjmaaDoorFD20
import Derived.Test.YtckhldmpcddjmaaDoorPA
import Derived.Test.YtckhldmpcddjmaaDoorPR
set_option linter.unusedVariables false
set_option linter.unusedSimpArgs false
namespace Go.D
open Go Go.X
def lown_b2 (N : Nat) (x670 : (List AEdge)) : ((List AEdge) × Int) → Option (Stp ((List AEdge) × Int) (List AEdge))
  | (m823, x827) =>
    (if (x827 : Int) < (List.length x670 : Int) then
      (idx x670 x827).bind fun x857 =>
      (apnd 16 m823 [(AEdge.mk x857.Low x857.High x857.To)]).bind fun x888 =>
      some (Stp.next (x888, (iw (x827 + 1))))
    else
      some (Stp.done m823))
def lown_b1 (N : Nat) (d : ADfa) : ((List (List AEdge)) × Int) → Option (Stp ((List (List AEdge)) × Int) (List (List AEdge)))
  | (edges637, x641) =>
    (if (x641 : Int) < (List.length d.Edges : Int) then
      (idx d.Edges x641).bind fun x670 =>
      (loopM (lown_b2 N x670) N (([] : (List AEdge)), 0)).bind fun ss =>
        match ss with
        | m837 =>
          (apnd 24 edges637 [m837]).bind fun x925 =>
          some (Stp.next (x925, (iw (x641 + 1))))
    else
      some (Stp.done edges637))
def lown (N : Nat) (d : ADfa) : Option ADfa :=
  (apnd 1 ([] : (List Bool)) d.Accept).bind fun x20 =>
  (loopM (lown_b1 N d) N (([] : (List (List AEdge))), 0)).bind fun ss =>
    match ss with
    | edges650 =>
      some (ADfa.mk x20 edges650)
def lexample (N : Nat)  : Option ADfa :=
  some (ADfa.mk [false, false, true] [[(AEdge.mk 97 99 1)], [(AEdge.mk 100 100 2)], []])
def awake (N : Nat)  : Option Bool :=
  (lexample N ).bind fun r1 =>
  (aShortest N r1).bind fun r23 =>
  (aWords N r1 2 2).bind fun r32 =>
  (aMinimize N (ADfa.mk [false, false] [[(AEdge.mk 97 122 1)], []])).bind fun r78 =>
  (if r23.1 = ([97, 100] : List UInt8) then
    (if r23.2 = true then
      (if ((List.length r32 : Int) : Int) = 2 then
        (idx r32 0).bind fun x106 =>
        (if x106 = ([97, 100] : List UInt8) then
          (idx r32 1).bind fun x119 =>
          (if x119 = ([98, 100] : List UInt8) then
            (if (r78.2 : Int) = 0 then
              (if ((List.length r78.1.Accept : Int) : Int) = 1 then
                (if ((List.length r78.1.Edges : Int) : Int) = 1 then
                  (idx r78.1.Edges 0).bind fun x135 =>
                  (if ((List.length x135 : Int) : Int) = 0 then
                    (aAccepts N r1 ([99, 100] : List UInt8)).bind fun r151 =>
                    (if r151 = true then
                      (aAccepts N r1 ([100, 100] : List UInt8)).bind fun r161 =>
                      some (!r161)
                    else
                      some false)
                  else
                    some false)
                else
                  some false)
              else
                some false)
            else
              some false)
          else
            some false)
        else
          some false)
      else
        some false)
    else
      some false)
  else
    some false)
def lawEquivalent (N : Nat) (a : ADfa) (b : ADfa) : Option Bool :=
  (((awake N ).bind fun r43 =>
  (if (!r43) = true then
    some true
  else
    (rFew N a).bind fun r54 =>
    (if (!r54) = true then
      some true
    else
      (rFew N b).bind fun r67 =>
      some (!r67))) : Option Bool)).bind fun ss =>
    match ss with
    | x40 =>
      (if x40 = true then
        (awake N ).bind fun r83 =>
        some r83
      else
        (rEquivalent N a b).bind fun r90 =>
        (((lown N a).bind fun r599 =>
        (lown N b).bind fun r606 =>
        (aEquivalent N r599 r606).bind fun r613 =>
        (if (!(r613 == r90)) = true then
          some true
        else
          (lown N b).bind fun r755 =>
          (lown N a).bind fun r762 =>
          (aEquivalent N r755 r762).bind fun r769 =>
          (if (!(r769 == r90)) = true then
            some true
          else
            (lown N a).bind fun r917 =>
            (lown N a).bind fun r1070 =>
            (aEquivalent N r917 r1070).bind fun r1083 =>
            some (!r1083))) : Option Bool)).bind fun ss =>
          match ss with
          | x596 =>
            (if x596 = true then
              some false
            else
              (lown N a).bind fun r1096 =>
              (aShortest N r1096).bind fun r1109 =>
              (lown N b).bind fun r1116 =>
              (aShortest N r1116).bind fun r1129 =>
              (lown N a).bind fun r1136 =>
              (aMinimize N r1136).bind fun r1149 =>
              (lown N b).bind fun r1171 =>
              (aMinimize N r1171).bind fun r1184 =>
              (if (r1149.2 : Int) = 0 then
                (if (r1184.2 : Int) = 0 then
                  (if (!r90) = true then
                    some true
                  else
                    (if r1109.1 = r1129.1 then
                      (if (r1109.2 == r1129.2) = true then
                        some (decide (((List.length r1149.1.Accept : Int) : Int) = (List.length r1184.1.Accept : Int)))
                      else
                        some false)
                    else
                      some false))
                else
                  some false)
              else
                some false)))
end Go.D

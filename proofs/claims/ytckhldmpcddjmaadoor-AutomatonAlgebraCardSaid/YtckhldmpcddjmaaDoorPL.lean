/- Plain counterparts, written by a program of mine (wip/tool). -/
import Derived.Test.YtckhldmpcddjmaaDoorT20
import Derived.Test.YtckhldmpcddjmaaDoorPA
import Derived.Test.YtckhldmpcddjmaaDoorPR
set_option linter.unusedVariables false
set_option linter.unusedSimpArgs false
namespace Go.D
open Go Go.X
/- disjoint/disjointlaw20.own -/
def lown_b2 (N : Nat) (x670 : (List AEdge)) : ((List AEdge) × Int) → Option (Stp ((List AEdge) × Int) (List AEdge))
  | (m823, x827) =>
    (if (x827 : Int) < (List.length x670 : Int) then
      (idx x670 x827).bind fun x857 =>
      (apnd 16 m823 [(AEdge.mk x857.Low x857.High x857.To)]).bind fun x888 =>
      some (Stp.next (x888, (iw (x827 + 1))))
    else
      some (Stp.done m823))
def lown_b1 (N : Nat) (d : ADfa) : ((List (List AEdge)) × Int) → Option (Stp ((List (List AEdge)) × Int) (List (List AEdge)))
  | (edges637, x641) =>
    (if (x641 : Int) < (List.length d.Edges : Int) then
      (idx d.Edges x641).bind fun x670 =>
      (loopM (lown_b2 N x670) N (([] : (List AEdge)), 0)).bind fun ss =>
        match ss with
        | m837 =>
          (apnd 24 edges637 [m837]).bind fun x925 =>
          some (Stp.next (x925, (iw (x641 + 1))))
    else
      some (Stp.done edges637))
def lown (N : Nat) (d : ADfa) : Option ADfa :=
  (apnd 1 ([] : (List Bool)) d.Accept).bind fun x20 =>
  (loopM (lown_b1 N d) N (([] : (List (List AEdge))), 0)).bind fun ss =>
    match ss with
    | edges650 =>
      some (ADfa.mk x20 edges650)
/- disjoint/disjointlaw20.back -/
def lback_b2 (N : Nat) (x670 : (List AEdge)) : ((List AEdge) × Int) → Option (Stp ((List AEdge) × Int) (List AEdge))
  | (m823, x827) =>
    (if (x827 : Int) < (List.length x670 : Int) then
      (idx x670 x827).bind fun x857 =>
      (apnd 16 m823 [(AEdge.mk x857.Low x857.High x857.To)]).bind fun x888 =>
      some (Stp.next (x888, (iw (x827 + 1))))
    else
      some (Stp.done m823))
def lback_b1 (N : Nat) (d : ADfa) : ((List (List AEdge)) × Int) → Option (Stp ((List (List AEdge)) × Int) (List (List AEdge)))
  | (edges637, x641) =>
    (if (x641 : Int) < (List.length d.Edges : Int) then
      (idx d.Edges x641).bind fun x670 =>
      (loopM (lback_b2 N x670) N (([] : (List AEdge)), 0)).bind fun ss =>
        match ss with
        | m837 =>
          (apnd 24 edges637 [m837]).bind fun x925 =>
          some (Stp.next (x925, (iw (x641 + 1))))
    else
      some (Stp.done edges637))
def lback (N : Nat) (d : ADfa) : Option ADfa :=
  (apnd 1 ([] : (List Bool)) d.Accept).bind fun x20 =>
  (loopM (lback_b1 N d) N (([] : (List (List AEdge))), 0)).bind fun ss =>
    match ss with
    | edges650 =>
      some (ADfa.mk x20 edges650)
/- disjoint/disjointlaw20.example -/
def lexample (N : Nat)  : Option ADfa :=
  some (ADfa.mk [false, false, true] [[(AEdge.mk 97 99 1)], [(AEdge.mk 100 100 2)], []])
/- disjoint/disjointlaw20.awake -/
def awake (N : Nat)  : Option Bool :=
  (lexample N ).bind fun r1 =>
  (aShortest N r1).bind fun r23 =>
  (aWords N r1 2 2).bind fun r32 =>
  (aMinimize N (ADfa.mk [false, false] [[(AEdge.mk 97 122 1)], []])).bind fun r78 =>
  (if r23.1 = ([97, 100] : List UInt8) then
    (if r23.2 = true then
      (if ((List.length r32 : Int) : Int) = 2 then
        (idx r32 0).bind fun x106 =>
        (if x106 = ([97, 100] : List UInt8) then
          (idx r32 1).bind fun x119 =>
          (if x119 = ([98, 100] : List UInt8) then
            (if (r78.2 : Int) = 0 then
              (if ((List.length r78.1.Accept : Int) : Int) = 1 then
                (if ((List.length r78.1.Edges : Int) : Int) = 1 then
                  (idx r78.1.Edges 0).bind fun x135 =>
                  (if ((List.length x135 : Int) : Int) = 0 then
                    (aAccepts N r1 ([99, 100] : List UInt8)).bind fun r151 =>
                    (if r151 = true then
                      (aAccepts N r1 ([100, 100] : List UInt8)).bind fun r161 =>
                      some (!r161)
                    else
                      some false)
                  else
                    some false)
                else
                  some false)
              else
                some false)
            else
              some false)
          else
            some false)
        else
          some false)
      else
        some false)
    else
      some false)
  else
    some false)
/- disjoint/disjointlaw20.sized -/
def lsized (N : Nat) (d : ADfa) (pb : Int) : Option Bool :=
  (if (pb : Int) = 0 then
    (if ((List.length d.Accept : Int) : Int) ≤ 200 then
      (lback N d).bind fun r9 =>
      (rValid N r9).bind fun r21 =>
      some r21
    else
      some false)
  else
    some false)
/- disjoint/disjointlaw20.AutomatonAccepts -/
def lawAccepts_b1 (N : Nat) (d : ADfa) : Int → Option (Stp Int (Sum Unit Bool))
  | x92 =>
    (if (x92 : Int) < (List.length d.Edges : Int) then
      (idx d.Edges x92).bind fun x102 =>
      (if ((List.length x102 : Int) : Int) > 100 then
        some (Stp.done (Sum.inr true))
      else
        some (Stp.next (iw (x92 + 1))))
    else
      some (Stp.done (Sum.inl ())))
def lawAccepts (N : Nat) (d : ADfa) (s : (List UInt8)) : Option Bool :=
  (((awake N ).bind fun r22 =>
  (if (!r22) = true then
    some true
  else
    (if ((List.length d.Accept : Int) : Int) > 20 then
      some true
    else
      (if ((List.length d.Edges : Int) : Int) > 20 then
        some true
      else
        some (decide (((List.length s : Int) : Int) > 50))))) : Option Bool)).bind fun ss =>
    match ss with
    | x19 =>
      (if x19 = true then
        (awake N ).bind fun r38 =>
        some r38
      else
        (loopM (lawAccepts_b1 N d) N 0).bind fun ss =>
          match ss with
          | (Sum.inl _) =>
            (rValid N d).bind fun r122 =>
            (lown N d).bind fun r131 =>
            (aValid N r131).bind fun r138 =>
            (if (r138 == r122) = true then
              (if (!r122) = true then
                some true
              else
                (lown N d).bind fun r249 =>
                (aAccepts N r249 s).bind fun r256 =>
                (rAccepts N d s).bind fun r369 =>
                some (r256 == r369))
            else
              some false)
          | (Sum.inr z484) => some z484)
/- disjoint/disjointlaw20.AutomatonAnd -/
def lawAnd (N : Nat) (a : ADfa) (b : ADfa) : Option Bool :=
  (((awake N ).bind fun r43 =>
  (if (!r43) = true then
    some true
  else
    (rFew N a).bind fun r54 =>
    (if (!r54) = true then
      some true
    else
      (rFew N b).bind fun r67 =>
      some (!r67))) : Option Bool)).bind fun ss =>
    match ss with
    | x40 =>
      (if x40 = true then
        (awake N ).bind fun r83 =>
        some r83
      else
        (lown N a).bind fun r90 =>
        (lown N b).bind fun r97 =>
        (aAnd N r90 r97).bind fun r104 =>
        (((if (r104.2 : Int) ≠ 0 then
          some true
        else
          (aValid N r104.1).bind fun r219 =>
          some (!r219)) : Option Bool)).bind fun ss =>
          match ss with
          | x212 =>
            (if x212 = true then
              some false
            else
              (lsized N r104.1 r104.2).bind fun r235 =>
              (if (!r235) = true then
                some true
              else
                (lback N r104.1).bind fun r307 =>
                (rIsAnd N a b r307).bind fun r384 =>
                some r384)))
/- disjoint/disjointlaw20.AutomatonNot -/
def lawNot (N : Nat) (a : ADfa) : Option Bool :=
  (((awake N ).bind fun r27 =>
  (if (!r27) = true then
    some true
  else
    (rFew N a).bind fun r35 =>
    some (!r35)) : Option Bool)).bind fun ss =>
    match ss with
    | x24 =>
      (if x24 = true then
        (awake N ).bind fun r48 =>
        some r48
      else
        (lown N a).bind fun r55 =>
        (aNot N r55).bind fun r68 =>
        (((if (r68.2 : Int) ≠ 0 then
          some true
        else
          (aValid N r68.1).bind fun r109 =>
          some (!r109)) : Option Bool)).bind fun ss =>
          match ss with
          | x102 =>
            (if x102 = true then
              some false
            else
              (lsized N r68.1 r68.2).bind fun r125 =>
              (if (!r125) = true then
                some true
              else
                (lback N r68.1).bind fun r191 =>
                (rIsNot N a r191).bind fun r262 =>
                some r262)))
/- disjoint/disjointlaw20.AutomatonAtMost -/
def lawAtMost_b1 (N : Nat) (s : (List UInt8)) : (Bool × Int) → Option (Stp (Bool × Int) Bool)
  | (good89, x90) =>
    (if (x90 : Int) < (List.length s : Int) then
      (if good89 = true then
        (idx s x90).bind fun x102 =>
        (if ((UInt8.toNat x102 : Int) : Int) ≥ 32 then
          (idx s x90).bind fun x108 =>
          some (Stp.next ((decide (((UInt8.toNat x108 : Int) : Int) ≤ 126)), (iw (x90 + 1))))
        else
          some (Stp.next (false, (iw (x90 + 1)))))
      else
        some (Stp.next (false, (iw (x90 + 1)))))
    else
      some (Stp.done good89))
def lawAtMost (N : Nat) (n : Int) (s : (List UInt8)) : Option Bool :=
  (((awake N ).bind fun r12 =>
  (if (!r12) = true then
    some true
  else
    some (decide (((List.length s : Int) : Int) > 100))) : Option Bool)).bind fun ss =>
    match ss with
    | x9 =>
      (if x9 = true then
        (awake N ).bind fun r24 =>
        some r24
      else
        (aAtMost N n).bind fun r31 =>
        (loopM (lawAtMost_b1 N s) N (true, 0)).bind fun ss =>
          match ss with
          | good92 =>
            (aValid N r31).bind fun r116 =>
            (if r116 = true then
              (aAccepts N r31 s).bind fun r126 =>
              (if good92 = true then
                some (r126 == (decide (((List.length s : Int) : Int) ≤ (imax n 0))))
              else
                some (r126 == false))
            else
              some false))
/- disjoint/disjointlaw20.AutomatonShortest -/
def lawShortest_b1 (N : Nat) (length : Int) (r101 : (List (List UInt8))) (r178 : (List (List UInt8))) : Int → Option (Stp Int (Sum Unit Bool))
  | x926 =>
    (if (x926 : Int) < (List.length r101 : Int) then
      (idx r101 x926).bind fun x935 =>
      (idx r178 x926).bind fun x948 =>
      (if ¬ x935 = x948 then
        some (Stp.done (Sum.inr false))
      else
        some (Stp.next (iw (x926 + 1))))
    else
      some (Stp.done (Sum.inl ())))
def lawShortest (N : Nat) (a : ADfa) (length : Int) (most : Int) : Option Bool :=
  (((awake N ).bind fun r27 =>
  (if (!r27) = true then
    some true
  else
    (rFew N a).bind fun r35 =>
    some (!r35)) : Option Bool)).bind fun ss =>
    match ss with
    | x24 =>
      (if x24 = true then
        (awake N ).bind fun r48 =>
        some r48
      else
        (lown N a).bind fun r55 =>
        (aShortest N r55).bind fun r68 =>
        (rShortest N a).bind fun r75 =>
        (((if ¬ r68.1 = r75.1 then
          some true
        else
          some (!(r68.2 == r75.2))) : Option Bool)).bind fun ss =>
          match ss with
          | x86 =>
            (if x86 = true then
              some false
            else
              (lown N a).bind fun r94 =>
              (aWords N r94 (Int.tmod (iw length) 7) (Int.tmod (iw most) 40)).bind fun r101 =>
              (rWords N a (Int.tmod (iw length) 7) (Int.tmod (iw most) 40)).bind fun r178 =>
              (((if ((List.length r101 : Int) : Int) ≠ (List.length r178 : Int) then
                some true
              else
                (lown N a).bind fun r575 =>
                (aWords N r575 (-1) (Int.tmod (iw most) 40)).bind fun r582 =>
                (lown N a).bind fun r593 =>
                (aWords N r593 (Int.tmod (iw length) 7) (-1)).bind fun r600 =>
                some (decide (((iw ((List.length r582 : Int) + (List.length r600 : Int))) : Int) ≠ 0))) : Option Bool)).bind fun ss =>
                match ss with
                | x460 =>
                  (if x460 = true then
                    some false
                  else
                    (loopM (lawShortest_b1 N length r101 r178) N 0).bind fun ss =>
                      match ss with
                      | (Sum.inl _) =>
                        some true
                      | (Sum.inr z1028) => some z1028)))
/- disjoint/disjointlaw20.AutomatonMinimize -/
def lawMinimize (N : Nat) (a : ADfa) : Option Bool :=
  (((awake N ).bind fun r27 =>
  (if (!r27) = true then
    some true
  else
    (rFew N a).bind fun r35 =>
    some (!r35)) : Option Bool)).bind fun ss =>
    match ss with
    | x24 =>
      (if x24 = true then
        (awake N ).bind fun r48 =>
        some r48
      else
        (lown N a).bind fun r55 =>
        (aMinimize N r55).bind fun r68 =>
        (if (r68.2 : Int) = 0 then
          (aValid N r68.1).bind fun r91 =>
          (if r91 = true then
            (rLeast N a).bind fun r95 =>
            (if ((List.length r68.1.Accept : Int) : Int) = r95 then
              (lback N r68.1).bind fun r99 =>
              (rValid N r99).bind fun r106 =>
              (if r106 = true then
                (lback N r68.1).bind fun r110 =>
                (rEquivalent N a r110).bind fun r277 =>
                some r277
              else
                some false)
            else
              some false)
          else
            some false)
        else
          some false))
/- disjoint/disjointlaw20.AutomatonEquivalent -/
def lawEquivalent (N : Nat) (a : ADfa) (b : ADfa) : Option Bool :=
  (((awake N ).bind fun r43 =>
  (if (!r43) = true then
    some true
  else
    (rFew N a).bind fun r54 =>
    (if (!r54) = true then
      some true
    else
      (rFew N b).bind fun r67 =>
      some (!r67))) : Option Bool)).bind fun ss =>
    match ss with
    | x40 =>
      (if x40 = true then
        (awake N ).bind fun r83 =>
        some r83
      else
        (rEquivalent N a b).bind fun r90 =>
        (((lown N a).bind fun r599 =>
        (lown N b).bind fun r606 =>
        (aEquivalent N r599 r606).bind fun r613 =>
        (if (!(r613 == r90)) = true then
          some true
        else
          (lown N b).bind fun r755 =>
          (lown N a).bind fun r762 =>
          (aEquivalent N r755 r762).bind fun r769 =>
          (if (!(r769 == r90)) = true then
            some true
          else
            (lown N a).bind fun r917 =>
            (lown N a).bind fun r1070 =>
            (aEquivalent N r917 r1070).bind fun r1083 =>
            some (!r1083))) : Option Bool)).bind fun ss =>
          match ss with
          | x596 =>
            (if x596 = true then
              some false
            else
              (lown N a).bind fun r1096 =>
              (aShortest N r1096).bind fun r1109 =>
              (lown N b).bind fun r1116 =>
              (aShortest N r1116).bind fun r1129 =>
              (lown N a).bind fun r1136 =>
              (aMinimize N r1136).bind fun r1149 =>
              (lown N b).bind fun r1171 =>
              (aMinimize N r1171).bind fun r1184 =>
              (if (r1149.2 : Int) = 0 then
                (if (r1184.2 : Int) = 0 then
                  (if (!r90) = true then
                    some true
                  else
                    (if r1109.1 = r1129.1 then
                      (if (r1109.2 == r1129.2) = true then
                        some (decide (((List.length r1149.1.Accept : Int) : Int) = (List.length r1184.1.Accept : Int)))
                      else
                        some false)
                    else
                      some false))
                else
                  some false)
              else
                some false)))
/- disjoint/disjointlaw20.AutomatonAlgebra -/
def lawAlgebra (N : Nat) (a : ADfa) (b : ADfa) : Option Bool :=
  (((awake N ).bind fun r43 =>
  (if (!r43) = true then
    some true
  else
    (rFew N a).bind fun r54 =>
    (if (!r54) = true then
      some true
    else
      (rFew N b).bind fun r67 =>
      some (!r67))) : Option Bool)).bind fun ss =>
    match ss with
    | x40 =>
      (if x40 = true then
        (awake N ).bind fun r83 =>
        some r83
      else
        (lown N a).bind fun r90 =>
        (aNot N r90).bind fun r103 =>
        (aNot N r103.1).bind fun r125 =>
        (lown N a).bind fun r149 =>
        (lown N b).bind fun r156 =>
        (aAnd N r149 r156).bind fun r163 =>
        (lown N b).bind fun r258 =>
        (lown N a).bind fun r265 =>
        (aAnd N r258 r265).bind fun r272 =>
        (lown N a).bind fun r367 =>
        (lown N a).bind fun r374 =>
        (aAnd N r367 r374).bind fun r381 =>
        (lown N a).bind fun r476 =>
        (aAnd N r476 r103.1).bind fun r483 =>
        (((if (r103.2 : Int) ≠ 0 then
          some true
        else
          (if (r125.2 : Int) ≠ 0 then
            some true
          else
            (if (r163.2 : Int) ≠ 0 then
              some true
            else
              (if (r272.2 : Int) ≠ 0 then
                some true
              else
                (if (r381.2 : Int) ≠ 0 then
                  some true
                else
                  some (decide ((r483.2 : Int) ≠ 0))))))) : Option Bool)).bind fun ss =>
          match ss with
          | x581 =>
            (if x581 = true then
              some false
            else
              (aShortest N r483.1).bind fun r611 =>
              (if (!r611.2) = true then
                (lown N a).bind fun r621 =>
                (aEquivalent N r125.1 r621).bind fun r628 =>
                (if r628 = true then
                  (aEquivalent N r163.1 r272.1).bind fun r632 =>
                  (if r632 = true then
                    (lown N a).bind fun r636 =>
                    (aEquivalent N r381.1 r636).bind fun r765 =>
                    some r765
                  else
                    some false)
                else
                  some false)
              else
                some false)))
end Go.D

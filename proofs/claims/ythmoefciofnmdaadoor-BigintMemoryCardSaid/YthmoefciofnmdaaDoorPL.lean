/- Plain counterparts, written by a program of mine (wip/tool). -/
import Derived.Test.YthmoefciofnmdaaDoorT18
import Derived.Test.YthmoefciofnmdaaDoorFD
import Derived.Test.YthmoefciofnmdaaDoorPA
import Derived.Test.YthmoefciofnmdaaDoorPR
import Derived.Test.YthmoefciofnmdaaDoorPB
import Derived.Test.YthmoefciofnmdaaDoorPC
set_option linter.unusedVariables false
set_option linter.unusedSimpArgs false
namespace Go.D
open Go Go.X
def lcp (N : Nat) (x : Big) : Option Big :=
  (rCopy N x).bind fun r11 =>
  some r11
def lsmall_b1 (N : Nat) (l : (List Big)) : Int → Option (Stp Int (Sum Unit Bool))
  | x80 =>
    (if (x80 : Int) < (List.length l : Int) then
      (idx l x80).bind fun x89 =>
      (rSmallB N x89).bind fun r115 =>
      (if (!r115) = true then
        some (Stp.done (Sum.inr false))
      else
        some (Stp.next (iw (x80 + 1))))
    else
      some (Stp.done (Sum.inl ())))
def lsmall (N : Nat) (l : (List Big)) : Option Bool :=
  (loopM (lsmall_b1 N l) N 0).bind fun ss =>
    match ss with
    | (Sum.inl _) =>
      some true
    | (Sum.inr z130) => some z130
def awake_lit20 : List UInt8 := [49, 56, 52, 52, 54, 55, 52, 52, 48, 55, 51, 55, 48, 57, 53, 53, 49, 54, 49, 54]
def awake (N : Nat)  : Option Bool :=
  (bParse N awake_lit20).bind fun r1 =>
  (bParse N ([45, 48] : List UInt8)).bind fun r20 =>
  (bParse N ([48, 48, 55] : List UInt8)).bind fun r39 =>
  (bOf N (-7)).bind fun r58 =>
  (bOf N 2).bind fun r67 =>
  (bDivFloor N r58 r67).bind fun r76 =>
  (bOf N 7).bind fun r108 =>
  (bOf N (-2)).bind fun r117 =>
  (bDivFloor N r108 r117).bind fun r126 =>
  (bOf N (-12)).bind fun r158 =>
  (bOf N 18).bind fun r167 =>
  (bGCD N r158 r167).bind fun r176 =>
  (if (r1.2 : Int) = 0 then
    (rSame N r1.1 (Big.mk false [0, 0, 1])).bind fun r205 =>
    (if r205 = true then
      (bFormat N r1.1).bind fun r215 =>
      (if r215 = awake_lit20 then
        (if (r20.2 : Int) = 2 then
          (if (r39.2 : Int) = 2 then
            (if r76.2.2 = true then
              (if r126.2.2 = true then
                (bFormat N r76.1).bind fun r228 =>
                (if r228 = ([45, 52] : List UInt8) then
                  (bFormat N r76.2.1).bind fun r237 =>
                  (if r237 = ([49] : List UInt8) then
                    (bFormat N r126.1).bind fun r246 =>
                    (if r246 = ([45, 52] : List UInt8) then
                      (bFormat N r126.2.1).bind fun r255 =>
                      (if r255 = ([45, 49] : List UInt8) then
                        (bFormat N r176).bind fun r264 =>
                        some (decide (r264 = ([54] : List UInt8)))
                      else
                        some false)
                    else
                      some false)
                  else
                    some false)
                else
                  some false)
              else
                some false)
            else
              some false)
          else
            some false)
        else
          some false)
      else
        some false)
    else
      some false)
  else
    some false)
def lawMemory_b1 (N : Nat) (r216 : Big) : ((List Int) × Int) → Option (Stp ((List Int) × Int) (Int × (List Int)))
  | (digits675, x679) =>
    (if (x679 : Int) < (List.length r216.Digits : Int) then
      (idx digits675 x679).bind fun x723 =>
      (idx digits675 x679).bind fun x735 =>
      (upd1 digits675 x679 (uw32 (x723 + 1))).bind fun x741 =>
      some (Stp.next (x741, (iw (x679 + 1))))
    else
      some (Stp.done (x679, digits675)))
def lawMemory_b2 (N : Nat) (r232 : Big) : ((List Int) × Int) → Option (Stp ((List Int) × Int) (Int × (List Int)))
  | (digits1121, x1125) =>
    (if (x1125 : Int) < (List.length r232.Digits : Int) then
      (idx digits1121 x1125).bind fun x1169 =>
      (idx digits1121 x1125).bind fun x1181 =>
      (upd1 digits1121 x1125 (uw32 (x1169 + 1))).bind fun x1187 =>
      some (Stp.next (x1187, (iw (x1125 + 1))))
    else
      some (Stp.done (x1125, digits1121)))
def lawMemory_b3 (N : Nat) (r248 : Big) : ((List Int) × Int) → Option (Stp ((List Int) × Int) (Int × (List Int)))
  | (digits1567, x1571) =>
    (if (x1571 : Int) < (List.length r248.Digits : Int) then
      (idx digits1567 x1571).bind fun x1615 =>
      (idx digits1567 x1571).bind fun x1627 =>
      (upd1 digits1567 x1571 (uw32 (x1615 + 1))).bind fun x1633 =>
      some (Stp.next (x1633, (iw (x1571 + 1))))
    else
      some (Stp.done (x1571, digits1567)))
def lawMemory_b4 (N : Nat) (r265 : Big) : ((List Int) × Int) → Option (Stp ((List Int) × Int) (Int × (List Int)))
  | (digits2013, x2017) =>
    (if (x2017 : Int) < (List.length r265.Digits : Int) then
      (idx digits2013 x2017).bind fun x2061 =>
      (idx digits2013 x2017).bind fun x2073 =>
      (upd1 digits2013 x2017 (uw32 (x2061 + 1))).bind fun x2079 =>
      some (Stp.next (x2079, (iw (x2017 + 1))))
    else
      some (Stp.done (x2017, digits2013)))
def lawMemory_b5 (N : Nat) (r282 : Big) : ((List Int) × Int) → Option (Stp ((List Int) × Int) (Int × (List Int)))
  | (digits2459, x2463) =>
    (if (x2463 : Int) < (List.length r282.Digits : Int) then
      (idx digits2459 x2463).bind fun x2507 =>
      (idx digits2459 x2463).bind fun x2519 =>
      (upd1 digits2459 x2463 (uw32 (x2507 + 1))).bind fun x2525 =>
      some (Stp.next (x2525, (iw (x2463 + 1))))
    else
      some (Stp.done (x2463, digits2459)))
def lawMemory_b6 (N : Nat) (r299 : Big) : ((List Int) × Int) → Option (Stp ((List Int) × Int) (Int × (List Int)))
  | (digits2905, x2909) =>
    (if (x2909 : Int) < (List.length r299.Digits : Int) then
      (idx digits2905 x2909).bind fun x2953 =>
      (idx digits2905 x2909).bind fun x2965 =>
      (upd1 digits2905 x2909 (uw32 (x2953 + 1))).bind fun x2971 =>
      some (Stp.next (x2971, (iw (x2909 + 1))))
    else
      some (Stp.done (x2909, digits2905)))
def lawMemory_b7 (N : Nat) (r170 : (Big × Big × Bool)) : ((List Int) × Int) → Option (Stp ((List Int) × Int) (Int × (List Int)))
  | (digits3351, x3355) =>
    (if (x3355 : Int) < (List.length r170.1.Digits : Int) then
      (idx digits3351 x3355).bind fun x3399 =>
      (idx digits3351 x3355).bind fun x3411 =>
      (upd1 digits3351 x3355 (uw32 (x3399 + 1))).bind fun x3417 =>
      some (Stp.next (x3417, (iw (x3355 + 1))))
    else
      some (Stp.done (x3355, digits3351)))
def lawMemory_b8 (N : Nat) (r170 : (Big × Big × Bool)) : ((List Int) × Int) → Option (Stp ((List Int) × Int) (Int × (List Int)))
  | (digits3797, x3801) =>
    (if (x3801 : Int) < (List.length r170.2.1.Digits : Int) then
      (idx digits3797 x3801).bind fun x3845 =>
      (idx digits3797 x3801).bind fun x3857 =>
      (upd1 digits3797 x3801 (uw32 (x3845 + 1))).bind fun x3863 =>
      some (Stp.next (x3863, (iw (x3801 + 1))))
    else
      some (Stp.done (x3801, digits3797)))
def lawMemory (N : Nat) (a : Big) (b : Big) : Option Bool :=
  (((awake N ).bind fun r42 =>
  (if (!r42) = true then
    some true
  else
    (lsmall N [a, b]).bind fun r63 =>
    some (!r63)) : Option Bool)).bind fun ss =>
    match ss with
    | x39 =>
      (if x39 = true then
        (awake N ).bind fun r78 =>
        some r78
      else
        (lcp N a).bind fun r85 =>
        (lcp N b).bind fun r90 =>
        (bDivFloorO N r85 r90).bind fun r170 =>
        (bNormalO N r85).bind fun r216 =>
        (bNegO N r85).bind fun r232 =>
        (bAddO N r85 r90).bind fun r248 =>
        (bSubO N r85 r90).bind fun r265 =>
        (bMulO N r85 r90).bind fun r282 =>
        (bGCDO N r85 r90).bind fun r299 =>
        (((loopM (lawMemory_b1 N r216) N (r216.Digits, 0)).bind fun ss =>
          match ss with
          | (x692, digits700) =>
            some digits700 : Option (List Int))).bind fun ss =>
          match ss with
          | digits544 =>
            (((loopM (lawMemory_b2 N r232) N (r232.Digits, 0)).bind fun ss =>
              match ss with
              | (x1138, digits1147) =>
                some digits1147 : Option (List Int))).bind fun ss =>
              match ss with
              | digits991 =>
                (((loopM (lawMemory_b3 N r248) N (r248.Digits, 0)).bind fun ss =>
                  match ss with
                  | (x1584, digits1594) =>
                    some digits1594 : Option (List Int))).bind fun ss =>
                  match ss with
                  | digits1438 =>
                    (((loopM (lawMemory_b4 N r265) N (r265.Digits, 0)).bind fun ss =>
                      match ss with
                      | (x2030, digits2041) =>
                        some digits2041 : Option (List Int))).bind fun ss =>
                      match ss with
                      | digits1885 =>
                        (((loopM (lawMemory_b5 N r282) N (r282.Digits, 0)).bind fun ss =>
                          match ss with
                          | (x2476, digits2488) =>
                            some digits2488 : Option (List Int))).bind fun ss =>
                          match ss with
                          | digits2332 =>
                            (((loopM (lawMemory_b6 N r299) N (r299.Digits, 0)).bind fun ss =>
                              match ss with
                              | (x2922, digits2935) =>
                                some digits2935 : Option (List Int))).bind fun ss =>
                              match ss with
                              | digits2779 =>
                                (((loopM (lawMemory_b7 N r170) N (r170.1.Digits, 0)).bind fun ss =>
                                  match ss with
                                  | (x3368, digits3382) =>
                                    some digits3382 : Option (List Int))).bind fun ss =>
                                  match ss with
                                  | digits3226 =>
                                    (((loopM (lawMemory_b8 N r170) N (r170.2.1.Digits, 0)).bind fun ss =>
                                      match ss with
                                      | (x3814, digits3829) =>
                                        some digits3829 : Option (List Int))).bind fun ss =>
                                      match ss with
                                      | digits3673 =>
                                        (bFormat N r85).bind fun r3889 =>
                                        (bCompare N r85 r90).bind fun r3897 =>
                                        (lcp N a).bind fun r3906 =>
                                        (rSame N r85 r3906).bind fun r3911 =>
                                        (if r3911 = true then
                                          (lcp N b).bind fun r3915 =>
                                          (rSame N r90 r3915).bind fun r3986 =>
                                          some r3986
                                        else
                                          some false))
end Go.D

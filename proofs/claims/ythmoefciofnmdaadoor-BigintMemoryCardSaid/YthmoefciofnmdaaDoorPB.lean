/- Plain counterparts, written by a program of mine (wip/tool). -/
import Derived.Test.YthmoefciofnmdaaDoorT18
import Derived.Test.YthmoefciofnmdaaDoorFD
import Derived.Test.YthmoefciofnmdaaDoorPA
import Derived.Test.YthmoefciofnmdaaDoorPR
set_option linter.unusedVariables false
set_option linter.unusedSimpArgs false
namespace Go.D
open Go Go.X
def len32_lit256 : List UInt8 := [0, 1, 2, 2, 3, 3, 3, 3, 4, 4, 4, 4, 4, 4, 4, 4, 5, 5, 5, 5, 5, 5, 5, 5, 5, 5, 5, 5, 5, 5, 5, 5, 6, 6, 6, 6, 6, 6, 6, 6, 6, 6, 6, 6, 6, 6, 6, 6, 6, 6, 6, 6, 6, 6, 6, 6, 6, 6, 6, 6, 6, 6, 6, 6, 7, 7, 7, 7, 7, 7, 7, 7, 7, 7, 7, 7, 7, 7, 7, 7, 7, 7, 7, 7, 7, 7, 7, 7, 7, 7, 7, 7, 7, 7, 7, 7, 7, 7, 7, 7, 7, 7, 7, 7, 7, 7, 7, 7, 7, 7, 7, 7, 7, 7, 7, 7, 7, 7, 7, 7, 7, 7, 7, 7, 7, 7, 7, 7, 8, 8, 8, 8, 8, 8, 8, 8, 8, 8, 8, 8, 8, 8, 8, 8, 8, 8, 8, 8, 8, 8, 8, 8, 8, 8, 8, 8, 8, 8, 8, 8, 8, 8, 8, 8, 8, 8, 8, 8, 8, 8, 8, 8, 8, 8, 8, 8, 8, 8, 8, 8, 8, 8, 8, 8, 8, 8, 8, 8, 8, 8, 8, 8, 8, 8, 8, 8, 8, 8, 8, 8, 8, 8, 8, 8, 8, 8, 8, 8, 8, 8, 8, 8, 8, 8, 8, 8, 8, 8, 8, 8, 8, 8, 8, 8, 8, 8, 8, 8, 8, 8, 8, 8, 8, 8, 8, 8, 8, 8, 8, 8, 8, 8, 8, 8, 8, 8, 8, 8, 8, 8, 8, 8, 8, 8, 8, 8]
def len32 (N : Nat) (x : Int) : Option Int :=
  (((if (x : Int) ≥ 65536 then
    some ((bshr .u32 x 16), 16)
  else
    some (x, 0)) : Option (Int × Int))).bind fun ss =>
    match ss with
    | (x2, n3) =>
      (((if (x2 : Int) ≥ 256 then
        some ((bshr .u32 x2 8), (iw (n3 + 8)))
      else
        some (x2, n3)) : Option (Int × Int))).bind fun ss =>
        match ss with
        | (x11, n12) =>
          (idx len32_lit256 (uw8 x11)).bind fun x19 =>
          some (iw (n12 + (iw (UInt8.toNat x19 : Int))))
def lz32 (N : Nat) (x : Int) : Option Int :=
  (len32 N x).bind fun r1 =>
  some (iw (32 - r1))
def bdivide_b2 (N : Nat) (b : (List Int)) (x144 : (List Int)) (u7582 : (List Int)) (i7593 : Int) : (Int × Int) → Option (Stp (Int × Int) Int)
  | (guess9105, rest9106) =>
    (((if (guess9105 : Int) > 4294967295 then
      some true
    else
      (idx x144 (iw ((List.length b : Int) - 2))).bind fun x9584 =>
      (idx u7582 (iw ((iw (i7593 + (List.length b : Int))) - 2))).bind fun x9597 =>
      some (decide (((uw (guess9105 * (uw x9584))) : Int) > (bor .u64 (bshl .u64 rest9106 32) (uw x9597))))) : Option Bool)).bind fun ss =>
      match ss with
      | x9436 =>
        (if x9436 = true then
          (idx x144 (iw ((List.length b : Int) - 1))).bind fun x9758 =>
          (if ((uw (rest9106 + (uw x9758))) : Int) > 4294967295 then
            some (Stp.done (uw (guess9105 - 1)))
          else
            some (Stp.next ((uw (guess9105 - 1)), (uw (rest9106 + (uw x9758))))))
        else
          some (Stp.done guess9105))
def bdivide_b3 (N : Nat) (b : (List Int)) (x144 : (List Int)) (i7593 : Int) (guess9110 : Int) : ((List Int) × Int × Int × Int) → Option (Stp ((List Int) × Int × Int × Int) (Int × (List Int)))
  | (u10115, carry10120, borrow10121, x10122) =>
    (if (x10122 : Int) < ((iw ((iw (i7593 + (List.length b : Int))) + 1)) - i7593) then
      (digit N x144 x10122).bind fun r10141 =>
      (chk (0 ≤ x10122 ∧ x10122 < (iw ((iw (i7593 + (List.length b : Int))) + 1)) - i7593)).bind fun _ =>
      (idx u10115 (i7593 + x10122)).bind fun x10151 =>
      (chk (0 ≤ x10122 ∧ x10122 < (iw ((iw (i7593 + (List.length b : Int))) + 1)) - i7593)).bind fun _ =>
      (idx u10115 (i7593 + x10122)).bind fun x10166 =>
      (upd1 u10115 (i7593 + x10122) (uw32 (uw ((uw ((uw x10151) - (band .u64 (uw (carry10120 + (uw (guess9110 * r10141)))) 4294967295))) - borrow10121)))).bind fun x10174 =>
      some (Stp.next (x10174, (bshr .u64 (uw (carry10120 + (uw (guess9110 * r10141)))) 32), (bshr .u64 (uw ((uw ((uw x10151) - (band .u64 (uw (carry10120 + (uw (guess9110 * r10141)))) 4294967295))) - borrow10121)) 63), (iw (x10122 + 1))))
    else
      some (Stp.done (borrow10121, u10115)))
def bdivide_b4 (N : Nat) (x144 : (List Int)) (i7593 : Int) : ((List Int) × Int × Int) → Option (Stp ((List Int) × Int × Int) ((List Int) × Int))
  | (u11036, carry11042, x11043) =>
    (if (x11043 : Int) < (List.length x144 : Int) then
      (idx u11036 (iw (i7593 + x11043))).bind fun x11061 =>
      (idx x144 x11043).bind fun x11073 =>
      (idx u11036 (iw (i7593 + x11043))).bind fun x11182 =>
      (upd1 u11036 (iw (i7593 + x11043)) (uw32 (uw (carry11042 + (uw ((uw x11061) + (uw x11073))))))).bind fun x11188 =>
      some (Stp.next (x11188, (bshr .u64 (uw (carry11042 + (uw ((uw x11061) + (uw x11073))))) 32), (iw (x11043 + 1))))
    else
      some (Stp.done (u11036, carry11042)))
def bdivide_b1 (N : Nat) (b : (List Int)) (x144 : (List Int)) : ((List Int) × (List Int) × Int) → Option (Stp ((List Int) × (List Int) × Int) ((List Int) × (List Int)))
  | (u7582, q7589, i7593) =>
    (if (i7593 : Int) ≥ 0 then
      (idx u7582 (iw (i7593 + (List.length b : Int)))).bind fun x7619 =>
      (idx u7582 (iw ((iw (i7593 + (List.length b : Int))) - 1))).bind fun x7631 =>
      (idx x144 (iw ((List.length b : Int) - 1))).bind fun x7749 =>
      (sdiv .u64 (bor .u64 (bshl .u64 (uw x7619) 32) (uw x7631)) (uw x7749)).bind fun x7762 =>
      (idx x144 (iw ((List.length b : Int) - 1))).bind fun x7766 =>
      (srem (bor .u64 (bshl .u64 (uw x7619) 32) (uw x7631)) (uw x7766)).bind fun x7776 =>
      (loopM (bdivide_b2 N b x144 u7582 i7593) N (x7762, (Int.tmod (bor .u64 (bshl .u64 (uw x7619) 32) (uw x7631)) (uw x7766)))).bind fun ss =>
        match ss with
        | guess9110 =>
          (seg u7582 i7593 (iw ((iw (i7593 + (List.length b : Int))) + 1))).bind fun _ =>
          (((loopM (bdivide_b3 N b x144 i7593 guess9110) N (u7582, 0, 0, 0)).bind fun ss =>
            match ss with
            | (borrow10124, x10127) =>
              some (x10127, (decide ((borrow10124 : Int) ≠ 0))) : Option ((List Int) × Bool))).bind fun ss =>
            match ss with
            | (u9986, x9992) =>
              (((if x9992 = true then
                (loopM (bdivide_b4 N x144 i7593) N (u9986, 0, 0)).bind fun ss =>
                  match ss with
                  | (u11046, carry11052) =>
                    (idx u11046 (iw (i7593 + (List.length b : Int)))).bind fun x11208 =>
                    (idx u11046 (iw (i7593 + (List.length b : Int)))).bind fun x11220 =>
                    (upd1 u11046 (iw (i7593 + (List.length b : Int))) (uw32 (x11208 + (uw32 carry11052)))).bind fun x11226 =>
                    some (x11226, (uw (guess9110 - 1)))
              else
                some (u9986, guess9110)) : Option ((List Int) × Int))).bind fun ss =>
                match ss with
                | (u10715, guess10721) =>
                  (idx q7589 i7593).bind fun x11245 =>
                  (upd1 q7589 i7593 (uw32 guess10721)).bind fun x11251 =>
                  some (Stp.next (u10715, x11251, (iw (i7593 - 1))))
    else
      some (Stp.done (u7582, q7589)))
def bdivide_b5 (N : Nat) (r115 : Int) (u7596 : (List Int)) (x11278 : (List Int)) : ((List Int) × Int) → Option (Stp ((List Int) × Int) (List Int))
  | (x11654, x11658) =>
    (if (x11658 : Int) < (List.length x11278 : Int) then
      (idx u7596 (iw (x11658 + 1))).bind fun x11678 =>
      (idx u7596 x11658).bind fun x11691 =>
      (chk (¬ ((uw r115) : Int) < 0)).bind fun _ =>
      (idx x11654 x11658).bind fun x11824 =>
      (upd1 x11654 x11658 (uw32 (bshr .u64 (bor .u64 (bshl .u64 (uw x11678) 32) (uw x11691)) (uw r115)))).bind fun x11830 =>
      some (Stp.next (x11830, (iw (x11658 + 1))))
    else
      some (Stp.done x11654))
def bdivide (N : Nat) (a : (List Int)) (b : (List Int)) : Option ((List Int) × (List Int)) :=
  (bcompare N a b).bind fun r1 =>
  (if (r1 : Int) < 0 then
    (btrim N a).bind fun r9 =>
    some (([] : (List Int)), r9)
  else
    (if ((List.length b : Int) : Int) = 1 then
      (idx b 0).bind fun x33 =>
      (bshort N a x33).bind fun r46 =>
      (btrim N r46.1).bind fun r62 =>
      (btrim N [r46.2]).bind fun r85 =>
      some (r62, r85)
    else
      (idx b (iw ((List.length b : Int) - 1))).bind fun x102 =>
      (lz32 N x102).bind fun r115 =>
      (bshift N a (uw r115)).bind fun r122 =>
      (bshift N b (uw r115)).bind fun r133 =>
      (cut r133 0 (List.length b : Int)).bind fun x144 =>
      (mk1 (α := Int) 4 0 (iw ((List.length r122 : Int) - (List.length b : Int)))).bind fun x242 =>
      (loopM (bdivide_b1 N b x144) N (r122, x242, (iw ((List.length x242 : Int) - 1)))).bind fun ss =>
        match ss with
        | (u7596, q7602) =>
          (mk1 (α := Int) 4 0 (List.length b : Int)).bind fun x11278 =>
          (loopM (bdivide_b5 N r115 u7596 x11278) N (x11278, 0)).bind fun ss =>
            match ss with
            | x11662 =>
              (btrim N q7602).bind fun r11854 =>
              (btrim N x11662).bind fun r11870 =>
              some (r11854, r11870)))
def bOf (N : Nat) (n : Int) : Option Big :=
  (((if (n : Int) < 0 then
    some (uw (0 - (uw n)))
  else
    some (uw n)) : Option Int)).bind fun ss =>
    match ss with
    | u8 =>
      (bnormal N (decide ((n : Int) < 0)) [(uw32 u8), (uw32 (bshr .u64 u8 32))]).bind fun r23 =>
      some r23
def bNormal (N : Nat) (x : Big) : Option Big :=
  (bnormal N x.Negative x.Digits).bind fun r11 =>
  some r11
def bCompare (N : Nat) (a : Big) (b : Big) : Option Int :=
  (bNormal N a).bind fun r11 =>
  (bNormal N b).bind fun r48 =>
  (((if (!(r11.Negative == r48.Negative)) = true then
    some r11.Negative
  else
    some false) : Option Bool)).bind fun ss =>
    match ss with
    | x71 =>
      (if x71 = true then
        some (-1)
      else
        (if (!(r11.Negative == r48.Negative)) = true then
          some 1
        else
          (if r11.Negative = true then
            (bcompare N r48.Digits r11.Digits).bind fun r87 =>
            some r87
          else
            (bcompare N r11.Digits r48.Digits).bind fun r96 =>
            some r96)))
def bNeg (N : Nat) (x : Big) : Option Big :=
  (bnormal N (!x.Negative) x.Digits).bind fun r11 =>
  some r11
def bAdd (N : Nat) (a : Big) (b : Big) : Option Big :=
  (bNormal N a).bind fun r16 =>
  (bNormal N b).bind fun r53 =>
  (if (r16.Negative == r53.Negative) = true then
    (bplus N r16.Digits r53.Digits).bind fun r74 =>
    (bnormal N r16.Negative r74).bind fun r143 =>
    some r143
  else
    (bcompare N r16.Digits r53.Digits).bind fun r157 =>
    (if (r157 : Int) < 0 then
      (bminus N r53.Digits r16.Digits).bind fun r167 =>
      (bnormal N r53.Negative r167).bind fun r236 =>
      some r236
    else
      (bminus N r16.Digits r53.Digits).bind fun r250 =>
      (bnormal N r16.Negative r250).bind fun r319 =>
      some r319))
def bSub (N : Nat) (a : Big) (b : Big) : Option Big :=
  (bNeg N b).bind fun r16 =>
  (bAdd N a r16).bind fun r53 =>
  some r53
def bMul (N : Nat) (a : Big) (b : Big) : Option Big :=
  (btimes N a.Digits b.Digits).bind fun r16 =>
  (bnormal N (!(a.Negative == b.Negative)) r16).bind fun r103 =>
  some r103
def bDivFloor (N : Nat) (a : Big) (b : Big) : Option (Big × Big × Bool) :=
  (bNormal N a).bind fun r21 =>
  (bNormal N b).bind fun r58 =>
  (if ((List.length r58.Digits : Int) : Int) = 0 then
    some ((Big.mk false []), (Big.mk false []), false)
  else
    (bdivide N r21.Digits r58.Digits).bind fun r88 =>
    (if (!(r21.Negative == r58.Negative)) = true then
      (((if ((List.length r88.2 : Int) : Int) > 0 then
        (bplus N r88.1 [1]).bind fun r187 =>
        (bminus N r58.Digits r88.2).bind fun r204 =>
        some (r187, r204)
      else
        some (r88.1, r88.2)) : Option ((List Int) × (List Int)))).bind fun ss =>
        match ss with
        | (q163, x172) =>
          (bnormal N true q163).bind fun r234 =>
          (bnormal N r58.Negative x172).bind fun r283 =>
          some (r234, r283, true)
    else
      (bnormal N false r88.1).bind fun r305 =>
      (bnormal N r58.Negative r88.2).bind fun r354 =>
      some (r305, r354, true)))
def bGCD_b1 (N : Nat)  : ((List Int) × (List Int)) → Option (Stp ((List Int) × (List Int)) (List Int))
  | (x171, y180) =>
    (if ((List.length y180 : Int) : Int) > 0 then
      (bdivide N x171 y180).bind fun r207 =>
      some (Stp.next (y180, r207.2))
    else
      some (Stp.done x171))
def bGCD (N : Nat) (a : Big) (b : Big) : Option Big :=
  (btrim N a.Digits).bind fun r16 =>
  (btrim N b.Digits).bind fun r73 =>
  (loopM (bGCD_b1 N ) N (r16, r73)).bind fun ss =>
    match ss with
    | x190 =>
      (bnormal N false x190).bind fun r241 =>
      some r241
def bFormat_b1 (N : Nat)  : ((List (List UInt8)) × (List Int)) → Option (Stp ((List (List UInt8)) × (List Int)) (List (List UInt8)))
  | (parts256, d260) =>
    (if ((List.length d260 : Int) : Int) > 0 then
      (bshort N d260 1000000000).bind fun r290 =>
      (btrim N r290.1).bind fun r305 =>
      (formatUint N (uw r290.2) 10).bind fun r320 =>
      (((if ((List.length r305 : Int) : Int) > 0 then
        (repeatStr N ([48] : List UInt8) (iw (9 - (List.length r320 : Int)))).bind fun r346 =>
        (chk ((List.length r346 : Int) + List.length r320 ≤ 9223372036854775807)).bind fun _ =>
        some (r346 ++ r320)
      else
        some r320) : Option (List UInt8))).bind fun ss =>
        match ss with
        | s342 =>
          (apnd 16 parts256 [s342]).bind fun x373 =>
          some (Stp.next (x373, r305))
    else
      some (Stp.done parts256))
def bFormat (N : Nat) (x : Big) : Option (List UInt8) :=
  (bNormal N x).bind fun r6 =>
  (if ((List.length r6.Digits : Int) : Int) = 0 then
    some ([48] : List UInt8)
  else
    (loopM (bFormat_b1 N ) N (([] : (List (List UInt8))), r6.Digits)).bind fun ss =>
      match ss with
      | parts269 =>
        (((if r6.Negative = true then
          (apnd 16 parts269 [([45] : List UInt8)]).bind fun x451 =>
          some x451
        else
          some parts269) : Option (List (List UInt8)))).bind fun ss =>
          match ss with
          | parts436 =>
            (revStr parts436).bind fun x480 =>
            (joinStr N x480 ([] : List UInt8)).bind fun r493 =>
            some r493)
def bParse_b1 (N : Nat) (r6 : (List UInt8)) : ((List Int) × Int) → Option (Stp ((List Int) × Int) (Sum (List Int) (Big × Int)))
  | (d233, x237) =>
    (if (x237 : Int) < (List.length r6 : Int) then
      (idx r6 x237).bind fun x264 =>
      (((if ((UInt8.toNat x264 : Int) : Int) < 48 then
        some true
      else
        some (decide (((UInt8.toNat x264 : Int) : Int) > 57))) : Option Bool)).bind fun ss =>
        match ss with
        | x272 =>
          (if x272 = true then
            some (Stp.done (Sum.inr ((Big.mk false []), 2)))
          else
            (btimes N d233 [10]).bind fun r292 =>
            (bplus N r292 [(uw32 (uw8 ((UInt8.toNat x264 : Int) - 48)))]).bind fun r317 =>
            (btrim N r317).bind fun r334 =>
            some (Stp.next (r334, (iw (x237 + 1)))))
    else
      some (Stp.done (Sum.inl d233)))
def bParse (N : Nat) (s : (List UInt8)) : Option (Big × Int) :=
  (trimPre N s ([45] : List UInt8)).bind fun r6 =>
  (((if r6 = ([] : List UInt8) then
    some true
  else
    (idx r6 0).bind fun x25 =>
    (if ((UInt8.toNat x25 : Int) : Int) = 48 then
      some (decide (¬ s = ([48] : List UInt8)))
    else
      some false)) : Option Bool)).bind fun ss =>
    match ss with
    | x21 =>
      (if x21 = true then
        some ((Big.mk false []), 2)
      else
        (loopM (bParse_b1 N r6) N (([] : (List Int)), 0)).bind fun ss =>
          match ss with
          | (Sum.inl d244) =>
            (bnormal N (decide (¬ r6 = s)) d244).bind fun r356 =>
            some (r356, 0)
          | (Sum.inr z370) => some z370)
end Go.D

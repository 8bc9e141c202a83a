/- Plain counterparts, written by a program of mine (wip/tool). -/
import Derived.Test.YthmoefciofnmdaaDoorT18
import Derived.Test.YthmoefciofnmdaaDoorFD
import Derived.Test.YthmoefciofnmdaaDoorPA
set_option linter.unusedVariables false
set_option linter.unusedSimpArgs false
namespace Go.D
open Go Go.X
/- disjoint/disjointref02.trim -/
def rtrim_b1 (N : Nat)  : (List Int) → Option (Stp (List Int) (List Int))
  | l112 =>
    (((if ((List.length l112 : Int) : Int) > 0 then
      (idx l112 (iw ((List.length l112 : Int) - 1))).bind fun x143 =>
      some (decide ((x143 : Int) = 0))
    else
      some false) : Option Bool)).bind fun ss =>
      match ss with
      | x139 =>
        (if x139 = true then
          (cut l112 0 (iw ((List.length l112 : Int) - 1))).bind fun x161 =>
          some (Stp.next x161)
        else
          some (Stp.done l112))
def rtrim (N : Nat) (l : (List Int)) : Option (List Int) :=
  (loopM (rtrim_b1 N ) N l).bind fun ss =>
    match ss with
    | l115 =>
      some l115
/- disjoint/disjointref02.halves -/
def halves_b1 (N : Nat) (x : Big) : ((List Int) × Int) → Option (Stp ((List Int) × Int) (List Int))
  | (l374, i378) =>
    (if (i378 : Int) < (List.length x.Digits : Int) then
      (idx x.Digits i378).bind fun x401 =>
      (idx x.Digits i378).bind fun x414 =>
      (apnd 8 l374 [(iw (Int.tmod x401 65536)), (iw (uw32 (Int.tdiv x414 65536)))]).bind fun x549 =>
      some (Stp.next (x549, (iw (i378 + 1))))
    else
      some (Stp.done l374))
def halves (N : Nat) (x : Big) : Option (List Int) :=
  (loopM (halves_b1 N x) N (([] : (List Int)), 0)).bind fun ss =>
    match ss with
    | l384 =>
      (rtrim N l384).bind fun r581 =>
      some r581
/- disjoint/disjointref02.big -/
def rbig_b1 (N : Nat) (r6 : (List Int)) : ((List Int) × Int) → Option (Stp ((List Int) × Int) (List Int))
  | (digits263, i267) =>
    (if (i267 : Int) < (List.length r6 : Int) then
      (idx r6 i267).bind fun x296 =>
      (((if ((iw (i267 + 1)) : Int) < (List.length r6 : Int) then
        (idx r6 (iw (i267 + 1))).bind fun x330 =>
        some (uw32 ((uw32 x296) + (uw32 (65536 * (uw32 x330)))))
      else
        some (uw32 x296)) : Option Int)).bind fun ss =>
        match ss with
        | d326 =>
          (apnd 4 digits263 [d326]).bind fun x354 =>
          some (Stp.next (x354, (iw (i267 + 2))))
    else
      some (Stp.done digits263))
def rbig (N : Nat) (negative : Bool) (l : (List Int)) : Option Big :=
  (rtrim N l).bind fun r6 =>
  (((if negative = true then
    some (decide (((List.length r6 : Int) : Int) > 0))
  else
    some false) : Option Bool)).bind fun ss =>
    match ss with
    | negative38 =>
      (loopM (rbig_b1 N r6) N (([] : (List Int)), 0)).bind fun ss =>
        match ss with
        | digits275 =>
          some (Big.mk negative38 digits275)
/- disjoint/disjointref02.Normal -/
def rNormal (N : Nat) (x : Big) : Option Big :=
  (halves N x).bind fun r11 =>
  (rbig N x.Negative r11).bind fun r54 =>
  some r54
/- disjoint/disjointref02.order -/
def rorder_b1 (N : Nat) (a : (List Int)) (b : (List Int)) : Int → Option (Stp Int (Sum Unit Int))
  | i368 =>
    (if (i368 : Int) ≥ 0 then
      (idx a i368).bind fun x377 =>
      (idx b i368).bind fun x391 =>
      (if (x377 : Int) < x391 then
        some (Stp.done (Sum.inr (-1)))
      else
        (idx a i368).bind fun x466 =>
        (idx b i368).bind fun x480 =>
        (if (x466 : Int) > x480 then
          some (Stp.done (Sum.inr 1))
        else
          some (Stp.next (iw (i368 - 1)))))
    else
      some (Stp.done (Sum.inl ())))
def rorder (N : Nat) (a : (List Int)) (b : (List Int)) : Option Int :=
  (if ((List.length a : Int) : Int) ≠ (List.length b : Int) then
    (if ((List.length a : Int) : Int) < (List.length b : Int) then
      some (-1)
    else
      some 1)
  else
    (loopM (rorder_b1 N a b) N (iw ((List.length a : Int) - 1))).bind fun ss =>
      match ss with
      | (Sum.inl _) =>
        some 0
      | (Sum.inr z558) => some z558)
/- disjoint/disjointref02.plus -/
def rplus_b1 (N : Nat) (a : (List Int)) (b : (List Int)) : ((List Int) × Int × Int) → Option (Stp ((List Int) × Int × Int) (List Int))
  | (out261, carry265, i266) =>
    (((if (i266 : Int) < (List.length a : Int) then
      some true
    else
      (if (i266 : Int) < (List.length b : Int) then
        some true
      else
        some (decide ((carry265 : Int) > 0)))) : Option Bool)).bind fun ss =>
      match ss with
      | x289 =>
        (if x289 = true then
          (((if (i266 : Int) < (List.length a : Int) then
            (idx a i266).bind fun x320 =>
            some (iw (carry265 + x320))
          else
            some carry265) : Option Int)).bind fun ss =>
            match ss with
            | carry316 =>
              (((if (i266 : Int) < (List.length b : Int) then
                (idx b i266).bind fun x356 =>
                some (iw (carry316 + x356))
              else
                some carry316) : Option Int)).bind fun ss =>
                match ss with
                | carry352 =>
                  (apnd 8 out261 [(Int.tmod carry352 65536)]).bind fun x380 =>
                  some (Stp.next (x380, (iw (Int.tdiv carry352 65536)), (iw (i266 + 1))))
        else
          some (Stp.done out261))
def rplus (N : Nat) (a : (List Int)) (b : (List Int)) : Option (List Int) :=
  (loopM (rplus_b1 N a b) N (([] : (List Int)), 0, 0)).bind fun ss =>
    match ss with
    | out272 =>
      (rtrim N out272).bind fun r410 =>
      some r410
/- disjoint/disjointref02.minus -/
def rminus_b1 (N : Nat) (a : (List Int)) (b : (List Int)) : ((List Int) × Int × Int) → Option (Stp ((List Int) × Int × Int) (List Int))
  | (out207, borrow211, i212) =>
    (if (i212 : Int) < (List.length a : Int) then
      (idx a i212).bind fun x232 =>
      (((if (i212 : Int) < (List.length b : Int) then
        (idx b i212).bind fun x265 =>
        some (iw ((iw (x232 - borrow211)) - x265))
      else
        some (iw (x232 - borrow211))) : Option Int)).bind fun ss =>
        match ss with
        | n261 =>
          (((if (n261 : Int) < 0 then
            some (1, (iw (n261 + 65536)))
          else
            some (0, n261)) : Option (Int × Int))).bind fun ss =>
            match ss with
            | (borrow283, n284) =>
              (apnd 8 out207 [n284]).bind fun x299 =>
              some (Stp.next (x299, borrow283, (iw (i212 + 1))))
    else
      some (Stp.done out207))
def rminus (N : Nat) (a : (List Int)) (b : (List Int)) : Option (List Int) :=
  (loopM (rminus_b1 N a b) N (([] : (List Int)), 0, 0)).bind fun ss =>
    match ss with
    | out218 =>
      (rtrim N out218).bind fun r328 =>
      some r328
/- disjoint/disjointref02.Sign -/
def rSign (N : Nat) (x : Big) : Option Int :=
  (halves N x).bind fun r6 =>
  (if ((List.length r6 : Int) : Int) = 0 then
    some 0
  else
    (if x.Negative = true then
      some (-1)
    else
      some 1))
/- disjoint/disjointref02.Compare -/
def rCompare (N : Nat) (a : Big) (b : Big) : Option Int :=
  (rSign N a).bind fun r11 =>
  (rSign N b).bind fun r46 =>
  (if (r11 : Int) < r46 then
    some (-1)
  else
    (if (r11 : Int) > r46 then
      some 1
    else
      (halves N a).bind fun r56 =>
      (halves N b).bind fun r61 =>
      (rorder N r56 r61).bind fun r66 =>
      some (iw (r11 * r66))))
/- disjoint/disjointref02.Neg -/
def rNeg (N : Nat) (x : Big) : Option Big :=
  (halves N x).bind fun r11 =>
  (rbig N (!x.Negative) r11).bind fun r60 =>
  some r60
/- disjoint/disjointref02.Add -/
def rAdd (N : Nat) (a : Big) (b : Big) : Option Big :=
  (halves N a).bind fun r16 =>
  (halves N b).bind fun r53 =>
  (if (a.Negative == b.Negative) = true then
    (rplus N r16 r53).bind fun r64 =>
    (rbig N a.Negative r64).bind fun r113 =>
    some r113
  else
    (rorder N r16 r53).bind fun r127 =>
    (if (r127 : Int) ≥ 0 then
      (rminus N r16 r53).bind fun r136 =>
      (rbig N a.Negative r136).bind fun r185 =>
      some r185
    else
      (rminus N r53 r16).bind fun r199 =>
      (rbig N b.Negative r199).bind fun r248 =>
      some r248))
/- disjoint/disjointref02.Sub -/
def rSub (N : Nat) (a : Big) (b : Big) : Option Big :=
  (rNeg N b).bind fun r16 =>
  (rAdd N a r16).bind fun r53 =>
  some r53
/- disjoint/disjointref02.times -/
def rtimes_b1 (N : Nat) (a : (List Int)) (d : Int) : ((List Int) × Int × Int) → Option (Stp ((List Int) × Int × Int) (List Int))
  | (out181, carry185, i186) =>
    (((if (i186 : Int) < (List.length a : Int) then
      some true
    else
      some (decide ((carry185 : Int) > 0))) : Option Bool)).bind fun ss =>
      match ss with
      | x207 =>
        (if x207 = true then
          (((if (i186 : Int) < (List.length a : Int) then
            (idx a i186).bind fun x236 =>
            some (iw (carry185 + (iw (x236 * d))))
          else
            some carry185) : Option Int)).bind fun ss =>
            match ss with
            | carry232 =>
              (apnd 8 out181 [(Int.tmod carry232 65536)]).bind fun x260 =>
              some (Stp.next (x260, (iw (Int.tdiv carry232 65536)), (iw (i186 + 1))))
        else
          some (Stp.done out181))
def rtimes (N : Nat) (a : (List Int)) (d : Int) : Option (List Int) :=
  (loopM (rtimes_b1 N a d) N (([] : (List Int)), 0, 0)).bind fun ss =>
    match ss with
    | out192 =>
      (rtrim N out192).bind fun r290 =>
      some r290
/- disjoint/disjointref02.Mul -/
def rMul_b1 (N : Nat) (r16 : (List Int)) (r53 : (List Int)) : ((List Int) × Int) → Option (Stp ((List Int) × Int) (List Int))
  | (sum346, i349) =>
    (if (i349 : Int) ≥ 0 then
      (apnd 8 [0] sum346).bind fun x381 =>
      (idx r53 i349).bind fun x394 =>
      (rtimes N r16 x394).bind fun r480 =>
      (rplus N x381 r480).bind fun r490 =>
      some (Stp.next (r490, (iw (i349 - 1))))
    else
      some (Stp.done sum346))
def rMul (N : Nat) (a : Big) (b : Big) : Option Big :=
  (halves N a).bind fun r16 =>
  (halves N b).bind fun r53 =>
  (loopM (rMul_b1 N r16 r53) N (([] : (List Int)), (iw ((List.length r53 : Int) - 1)))).bind fun ss =>
    match ss with
    | sum353 =>
      (rbig N (!(a.Negative == b.Negative)) sum353).bind fun r507 =>
      some r507
/- disjoint/disjointref02.split -/
def rsplit_b2 (N : Nat) (a : (List Int)) (b : (List Int)) (i959 : Int) : ((List Int) × (List Int) × Int) → Option (Stp ((List Int) × (List Int) × Int) ((List Int) × (List Int)))
  | (q1265, x1269, bit1272) =>
    (if (bit1272 : Int) > 0 then
      (rplus N x1269 x1269).bind fun r1290 =>
      (idx a i959).bind fun x1299 =>
      (sdiv .i64 x1299 bit1272).bind fun x1313 =>
      (((if ((Int.tmod x1313 2) : Int) = 1 then
        (rplus N r1290 [1]).bind fun r1352 =>
        some r1352
      else
        some r1290) : Option (List Int))).bind fun ss =>
        match ss with
        | x1338 =>
          (rorder N x1338 b).bind fun r1370 =>
          (if (r1370 : Int) ≥ 0 then
            (rminus N x1338 b).bind fun r1379 =>
            (idx q1265 i959).bind fun x1390 =>
            (idx q1265 i959).bind fun x1401 =>
            (upd1 q1265 i959 (iw (x1390 + bit1272))).bind fun x1407 =>
            some (Stp.next (x1407, r1379, (iw (Int.tdiv bit1272 2))))
          else
            some (Stp.next (q1265, x1338, (iw (Int.tdiv bit1272 2)))))
    else
      some (Stp.done (q1265, x1269)))
def rsplit_b1 (N : Nat) (a : (List Int)) (b : (List Int)) : ((List Int) × (List Int) × Int) → Option (Stp ((List Int) × (List Int) × Int) ((List Int) × (List Int)))
  | (q952, x956, i959) =>
    (if (i959 : Int) ≥ 0 then
      (loopM (rsplit_b2 N a b i959) N (q952, x956, 32768)).bind fun ss =>
        match ss with
        | (q1275, x1279) =>
          some (Stp.next (q1275, x1279, (iw (i959 - 1))))
    else
      some (Stp.done (q952, x956)))
def rsplit (N : Nat) (a : (List Int)) (b : (List Int)) : Option ((List Int) × (List Int)) :=
  (mk1 (α := Int) 8 0 (List.length a : Int)).bind fun x2 =>
  (loopM (rsplit_b1 N a b) N (x2, ([] : (List Int)), (iw ((List.length a : Int) - 1)))).bind fun ss =>
    match ss with
    | (q962, x966) =>
      (rtrim N q962).bind fun r1436 =>
      some (r1436, x966)
/- disjoint/disjointref02.Of -/
def rOf_b1 (N : Nat)  : (Int × (List Int)) → Option (Stp (Int × (List Int)) (List Int))
  | (u98, l104) =>
    (if (u98 : Int) > 0 then
      (apnd 8 l104 [(iw (Int.tmod u98 65536))]).bind fun x138 =>
      some (Stp.next ((uw (Int.tdiv u98 65536)), x138))
    else
      some (Stp.done l104))
def rOf (N : Nat) (n : Int) : Option Big :=
  (((if (n : Int) < 0 then
    some (uw ((uw (iw (0 - (iw (n + 1))))) + 1))
  else
    some (uw n)) : Option Int)).bind fun ss =>
    match ss with
    | u8 =>
      (loopM (rOf_b1 N ) N (u8, ([] : (List Int)))).bind fun ss =>
        match ss with
        | l114 =>
          (rbig N (decide ((n : Int) < 0)) l114).bind fun r163 =>
          some r163
/- disjoint/disjointref02.DivFloor -/
def rDivFloor (N : Nat) (a : Big) (b : Big) : Option (Big × Big × Bool) :=
  (rSign N b).bind fun r21 =>
  (if (r21 : Int) = 0 then
    some ((Big.mk false []), (Big.mk false []), false)
  else
    (halves N a).bind fun r38 =>
    (halves N b).bind fun r43 =>
    (rsplit N r38 r43).bind fun r48 =>
    (rbig N (!(a.Negative == b.Negative)) r48.1).bind fun r133 =>
    (rbig N a.Negative r48.2).bind fun r152 =>
    (((rSign N r152).bind fun r309 =>
    (if (r309 : Int) ≠ 0 then
      (rSign N r152).bind fun r313 =>
      (rSign N b).bind fun r374 =>
      some (decide ((r313 : Int) ≠ r374))
    else
      some false) : Option Bool)).bind fun ss =>
      match ss with
      | x306 =>
        (((if x306 = true then
          (rOf N 1).bind fun r538 =>
          (rSub N r133 r538).bind fun r543 =>
          (rAdd N r152 b).bind fun r594 =>
          some (r543, r594)
        else
          some (r133, r152)) : Option (Big × Big))).bind fun ss =>
          match ss with
          | (q528, x532) =>
            some (q528, x532, true))
/- disjoint/disjointref02.GCD -/
def rGCD_b1 (N : Nat)  : ((List Int) × (List Int)) → Option (Stp ((List Int) × (List Int)) (List Int))
  | (l104, m107) =>
    (if ((List.length m107 : Int) : Int) > 0 then
      (rsplit N l104 m107).bind fun r127 =>
      some (Stp.next (m107, r127.2))
    else
      some (Stp.done l104))
def rGCD (N : Nat) (a : Big) (b : Big) : Option Big :=
  (halves N a).bind fun r16 =>
  (halves N b).bind fun r53 =>
  (loopM (rGCD_b1 N ) N (r16, r53)).bind fun ss =>
    match ss with
    | l111 =>
      (rbig N false l111).bind fun r142 =>
      some r142
/- disjoint/disjointref02.Int64 -/
def rInt64_b1 (N : Nat) (x : Big) (r294 : (List Int)) : (Int × Int) → Option (Stp (Int × Int) Int)
  | (n375, i376) =>
    (if (i376 : Int) ≥ 0 then
      (if x.Negative = true then
        (idx r294 i376).bind fun x387 =>
        some (Stp.next ((iw ((iw (n375 * 65536)) - x387)), (iw (i376 - 1))))
      else
        (idx r294 i376).bind fun x401 =>
        some (Stp.next ((iw ((iw (n375 * 65536)) + x401)), (iw (i376 - 1)))))
    else
      some (Stp.done n375))
def rInt64 (N : Nat) (x : Big) : Option (Int × Bool) :=
  (((rOf N (-9223372036854775808)).bind fun r150 =>
  (rCompare N x r150).bind fun r155 =>
  (if (r155 : Int) < 0 then
    some true
  else
    (rOf N 9223372036854775807).bind fun r217 =>
    (rCompare N x r217).bind fun r282 =>
    some (decide ((r282 : Int) > 0))) : Option Bool)).bind fun ss =>
    match ss with
    | x147 =>
      (if x147 = true then
        some (0, false)
      else
        (halves N x).bind fun r294 =>
        (loopM (rInt64_b1 N x r294) N (0, (iw ((List.length r294 : Int) - 1)))).bind fun ss =>
          match ss with
          | n377 =>
            some (n377, true))
/- disjoint/disjointref02.Same -/
def rSame_b1 (N : Nat) (a : Big) (b : Big) : Int → Option (Stp Int (Sum Unit Bool))
  | i249 =>
    (if (i249 : Int) < (List.length a.Digits : Int) then
      (idx a.Digits i249).bind fun x259 =>
      (idx b.Digits i249).bind fun x272 =>
      (if (x259 : Int) ≠ x272 then
        some (Stp.done (Sum.inr false))
      else
        some (Stp.next (iw (i249 + 1))))
    else
      some (Stp.done (Sum.inl ())))
def rSame (N : Nat) (a : Big) (b : Big) : Option Bool :=
  (((if (!(a.Negative == b.Negative)) = true then
    some true
  else
    some (decide (((List.length a.Digits : Int) : Int) ≠ (List.length b.Digits : Int)))) : Option Bool)).bind fun ss =>
    match ss with
    | x16 =>
      (if x16 = true then
        some false
      else
        (loopM (rSame_b1 N a b) N 0).bind fun ss =>
          match ss with
          | (Sum.inl _) =>
            some true
          | (Sum.inr z365) => some z365)
/- disjoint/disjointref02.Copy -/
def rCopy (N : Nat) (x : Big) : Option Big :=
  (apnd 4 ([] : (List Int)) x.Digits).bind fun x18 =>
  some (Big.mk x.Negative x18)
/- disjoint/disjointref02.Small -/
def rSmallB (N : Nat) (x : Big) : Option Bool :=
  some (decide (((List.length x.Digits : Int) : Int) ≤ 8))
end Go.D

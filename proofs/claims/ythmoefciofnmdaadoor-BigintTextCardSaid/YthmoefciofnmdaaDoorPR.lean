/- Plain counterparts, written by a program of mine (wip/tool). -/
import Derived.Test.YthmoefciofnmdaaDoorT18
import Derived.Test.YthmoefciofnmdaaDoorFD
import Derived.Test.YthmoefciofnmdaaDoorPA
set_option linter.unusedVariables false
set_option linter.unusedSimpArgs false
namespace Go.D
open Go Go.X
def rtrim_b1 (N : Nat)  : (List Int) → Option (Stp (List Int) (List Int))
  | l112 =>
    (((if ((List.length l112 : Int) : Int) > 0 then
      (idx l112 (iw ((List.length l112 : Int) - 1))).bind fun x143 =>
      some (decide ((x143 : Int) = 0))
    else
      some false) : Option Bool)).bind fun ss =>
      match ss with
      | x139 =>
        (if x139 = true then
          (cut l112 0 (iw ((List.length l112 : Int) - 1))).bind fun x161 =>
          some (Stp.next x161)
        else
          some (Stp.done l112))
def rtrim (N : Nat) (l : (List Int)) : Option (List Int) :=
  (loopM (rtrim_b1 N ) N l).bind fun ss =>
    match ss with
    | l115 =>
      some l115
def halves_b1 (N : Nat) (x : Big) : ((List Int) × Int) → Option (Stp ((List Int) × Int) (List Int))
  | (l374, i378) =>
    (if (i378 : Int) < (List.length x.Digits : Int) then
      (idx x.Digits i378).bind fun x401 =>
      (idx x.Digits i378).bind fun x414 =>
      (apnd 8 l374 [(iw (Int.tmod x401 65536)), (iw (uw32 (Int.tdiv x414 65536)))]).bind fun x549 =>
      some (Stp.next (x549, (iw (i378 + 1))))
    else
      some (Stp.done l374))
def halves (N : Nat) (x : Big) : Option (List Int) :=
  (loopM (halves_b1 N x) N (([] : (List Int)), 0)).bind fun ss =>
    match ss with
    | l384 =>
      (rtrim N l384).bind fun r581 =>
      some r581
def rbig_b1 (N : Nat) (r6 : (List Int)) : ((List Int) × Int) → Option (Stp ((List Int) × Int) (List Int))
  | (digits263, i267) =>
    (if (i267 : Int) < (List.length r6 : Int) then
      (idx r6 i267).bind fun x296 =>
      (((if ((iw (i267 + 1)) : Int) < (List.length r6 : Int) then
        (idx r6 (iw (i267 + 1))).bind fun x330 =>
        some (uw32 ((uw32 x296) + (uw32 (65536 * (uw32 x330)))))
      else
        some (uw32 x296)) : Option Int)).bind fun ss =>
        match ss with
        | d326 =>
          (apnd 4 digits263 [d326]).bind fun x354 =>
          some (Stp.next (x354, (iw (i267 + 2))))
    else
      some (Stp.done digits263))
def rbig (N : Nat) (negative : Bool) (l : (List Int)) : Option Big :=
  (rtrim N l).bind fun r6 =>
  (((if negative = true then
    some (decide (((List.length r6 : Int) : Int) > 0))
  else
    some false) : Option Bool)).bind fun ss =>
    match ss with
    | negative38 =>
      (loopM (rbig_b1 N r6) N (([] : (List Int)), 0)).bind fun ss =>
        match ss with
        | digits275 =>
          some (Big.mk negative38 digits275)
def rNormal (N : Nat) (x : Big) : Option Big :=
  (halves N x).bind fun r11 =>
  (rbig N x.Negative r11).bind fun r54 =>
  some r54
def rorder_b1 (N : Nat) (a : (List Int)) (b : (List Int)) : Int → Option (Stp Int (Sum Unit Int))
  | i368 =>
    (if (i368 : Int) ≥ 0 then
      (idx a i368).bind fun x377 =>
      (idx b i368).bind fun x391 =>
      (if (x377 : Int) < x391 then
        some (Stp.done (Sum.inr (-1)))
      else
        (idx a i368).bind fun x466 =>
        (idx b i368).bind fun x480 =>
        (if (x466 : Int) > x480 then
          some (Stp.done (Sum.inr 1))
        else
          some (Stp.next (iw (i368 - 1)))))
    else
      some (Stp.done (Sum.inl ())))
def rorder (N : Nat) (a : (List Int)) (b : (List Int)) : Option Int :=
  (if ((List.length a : Int) : Int) ≠ (List.length b : Int) then
    (if ((List.length a : Int) : Int) < (List.length b : Int) then
      some (-1)
    else
      some 1)
  else
    (loopM (rorder_b1 N a b) N (iw ((List.length a : Int) - 1))).bind fun ss =>
      match ss with
      | (Sum.inl _) =>
        some 0
      | (Sum.inr z558) => some z558)
def rplus_b1 (N : Nat) (a : (List Int)) (b : (List Int)) : ((List Int) × Int × Int) → Option (Stp ((List Int) × Int × Int) (List Int))
  | (out261, carry265, i266) =>
    (((if (i266 : Int) < (List.length a : Int) then
      some true
    else
      (if (i266 : Int) < (List.length b : Int) then
        some true
      else
        some (decide ((carry265 : Int) > 0)))) : Option Bool)).bind fun ss =>
      match ss with
      | x289 =>
        (if x289 = true then
          (((if (i266 : Int) < (List.length a : Int) then
            (idx a i266).bind fun x320 =>
            some (iw (carry265 + x320))
          else
            some carry265) : Option Int)).bind fun ss =>
            match ss with
            | carry316 =>
              (((if (i266 : Int) < (List.length b : Int) then
                (idx b i266).bind fun x356 =>
                some (iw (carry316 + x356))
              else
                some carry316) : Option Int)).bind fun ss =>
                match ss with
                | carry352 =>
                  (apnd 8 out261 [(Int.tmod carry352 65536)]).bind fun x380 =>
                  some (Stp.next (x380, (iw (Int.tdiv carry352 65536)), (iw (i266 + 1))))
        else
          some (Stp.done out261))
def rplus (N : Nat) (a : (List Int)) (b : (List Int)) : Option (List Int) :=
  (loopM (rplus_b1 N a b) N (([] : (List Int)), 0, 0)).bind fun ss =>
    match ss with
    | out272 =>
      (rtrim N out272).bind fun r410 =>
      some r410
def rminus_b1 (N : Nat) (a : (List Int)) (b : (List Int)) : ((List Int) × Int × Int) → Option (Stp ((List Int) × Int × Int) (List Int))
  | (out207, borrow211, i212) =>
    (if (i212 : Int) < (List.length a : Int) then
      (idx a i212).bind fun x232 =>
      (((if (i212 : Int) < (List.length b : Int) then
        (idx b i212).bind fun x265 =>
        some (iw ((iw (x232 - borrow211)) - x265))
      else
        some (iw (x232 - borrow211))) : Option Int)).bind fun ss =>
        match ss with
        | n261 =>
          (((if (n261 : Int) < 0 then
            some (1, (iw (n261 + 65536)))
          else
            some (0, n261)) : Option (Int × Int))).bind fun ss =>
            match ss with
            | (borrow283, n284) =>
              (apnd 8 out207 [n284]).bind fun x299 =>
              some (Stp.next (x299, borrow283, (iw (i212 + 1))))
    else
      some (Stp.done out207))
def rminus (N : Nat) (a : (List Int)) (b : (List Int)) : Option (List Int) :=
  (loopM (rminus_b1 N a b) N (([] : (List Int)), 0, 0)).bind fun ss =>
    match ss with
    | out218 =>
      (rtrim N out218).bind fun r328 =>
      some r328
def rtimes_b1 (N : Nat) (a : (List Int)) (d : Int) : ((List Int) × Int × Int) → Option (Stp ((List Int) × Int × Int) (List Int))
  | (out181, carry185, i186) =>
    (((if (i186 : Int) < (List.length a : Int) then
      some true
    else
      some (decide ((carry185 : Int) > 0))) : Option Bool)).bind fun ss =>
      match ss with
      | x207 =>
        (if x207 = true then
          (((if (i186 : Int) < (List.length a : Int) then
            (idx a i186).bind fun x236 =>
            some (iw (carry185 + (iw (x236 * d))))
          else
            some carry185) : Option Int)).bind fun ss =>
            match ss with
            | carry232 =>
              (apnd 8 out181 [(Int.tmod carry232 65536)]).bind fun x260 =>
              some (Stp.next (x260, (iw (Int.tdiv carry232 65536)), (iw (i186 + 1))))
        else
          some (Stp.done out181))
def rtimes (N : Nat) (a : (List Int)) (d : Int) : Option (List Int) :=
  (loopM (rtimes_b1 N a d) N (([] : (List Int)), 0, 0)).bind fun ss =>
    match ss with
    | out192 =>
      (rtrim N out192).bind fun r290 =>
      some r290
def rsplit_b2 (N : Nat) (a : (List Int)) (b : (List Int)) (i959 : Int) : ((List Int) × (List Int) × Int) → Option (Stp ((List Int) × (List Int) × Int) ((List Int) × (List Int)))
  | (q1265, x1269, bit1272) =>
    (if (bit1272 : Int) > 0 then
      (rplus N x1269 x1269).bind fun r1290 =>
      (idx a i959).bind fun x1299 =>
      (sdiv .i64 x1299 bit1272).bind fun x1313 =>
      (((if ((Int.tmod x1313 2) : Int) = 1 then
        (rplus N r1290 [1]).bind fun r1352 =>
        some r1352
      else
        some r1290) : Option (List Int))).bind fun ss =>
        match ss with
        | x1338 =>
          (rorder N x1338 b).bind fun r1370 =>
          (if (r1370 : Int) ≥ 0 then
            (rminus N x1338 b).bind fun r1379 =>
            (idx q1265 i959).bind fun x1390 =>
            (idx q1265 i959).bind fun x1401 =>
            (upd1 q1265 i959 (iw (x1390 + bit1272))).bind fun x1407 =>
            some (Stp.next (x1407, r1379, (iw (Int.tdiv bit1272 2))))
          else
            some (Stp.next (q1265, x1338, (iw (Int.tdiv bit1272 2)))))
    else
      some (Stp.done (q1265, x1269)))
def rsplit_b1 (N : Nat) (a : (List Int)) (b : (List Int)) : ((List Int) × (List Int) × Int) → Option (Stp ((List Int) × (List Int) × Int) ((List Int) × (List Int)))
  | (q952, x956, i959) =>
    (if (i959 : Int) ≥ 0 then
      (loopM (rsplit_b2 N a b i959) N (q952, x956, 32768)).bind fun ss =>
        match ss with
        | (q1275, x1279) =>
          some (Stp.next (q1275, x1279, (iw (i959 - 1))))
    else
      some (Stp.done (q952, x956)))
def rsplit (N : Nat) (a : (List Int)) (b : (List Int)) : Option ((List Int) × (List Int)) :=
  (mk1 (α := Int) 8 0 (List.length a : Int)).bind fun x2 =>
  (loopM (rsplit_b1 N a b) N (x2, ([] : (List Int)), (iw ((List.length a : Int) - 1)))).bind fun ss =>
    match ss with
    | (q962, x966) =>
      (rtrim N q962).bind fun r1436 =>
      some (r1436, x966)
def rText_b1 (N : Nat)  : ((List Int) × (List UInt8)) → Option (Stp ((List Int) × (List UInt8)) (List UInt8))
  | (l180, s183) =>
    (if ((List.length l180 : Int) : Int) > 0 then
      (rsplit N l180 [10]).bind fun r202 =>
      (((if ((List.length r202.2 : Int) : Int) > 0 then
        (idx r202.2 0).bind fun x234 =>
        some x234
      else
        some 0) : Option Int)).bind fun ss =>
        match ss with
        | d230 =>
          (chk ((List.length (bstr [(uw8 (iw (48 + d230)))]) : Int) + List.length s183 ≤ 9223372036854775807)).bind fun _ =>
          some (Stp.next (r202.1, ((bstr [(uw8 (iw (48 + d230)))]) ++ s183)))
    else
      some (Stp.done s183))
def rText (N : Nat) (x : Big) : Option (List UInt8) :=
  (halves N x).bind fun r6 =>
  (loopM (rText_b1 N ) N (r6, ([] : List UInt8))).bind fun ss =>
    match ss with
    | s185 =>
      (if s185 = ([] : List UInt8) then
        some ([48] : List UInt8)
      else
        (if x.Negative = true then
          (chk ((List.length ([45] : List UInt8) : Int) + List.length s185 ≤ 9223372036854775807)).bind fun _ =>
          some (([45] : List UInt8) ++ s185)
        else
          some s185))
def rParse_b1 (N : Nat) (s : (List UInt8)) (negative13 : Bool) : ((List Int) × Int) → Option (Stp ((List Int) × Int) (Sum (List Int) (Big × Int)))
  | (l358, i361) =>
    (if (i361 : Int) < (List.length s : Int) then
      (((if (i361 : Int) = 0 then
        some negative13
      else
        some false) : Option Bool)).bind fun ss =>
        match ss with
        | x381 =>
          (if x381 = true then
            some (Stp.next (l358, (iw (i361 + 1))))
          else
            (((idx s i361).bind fun x405 =>
            (if ((UInt8.toNat x405 : Int) : Int) < 48 then
              some true
            else
              (idx s i361).bind fun x411 =>
              some (decide (((UInt8.toNat x411 : Int) : Int) > 57))) : Option Bool)).bind fun ss =>
              match ss with
              | x402 =>
                (if x402 = true then
                  some (Stp.done (Sum.inr ((Big.mk false []), 2)))
                else
                  (rtimes N l358 10).bind fun r424 =>
                  (idx s i361).bind fun x429 =>
                  (rtrim N [(iw ((iw (UInt8.toNat x429 : Int)) - 48))]).bind fun r514 =>
                  (rplus N r424 r514).bind fun r523 =>
                  some (Stp.next (r523, (iw (i361 + 1))))))
    else
      some (Stp.done (Sum.inl l358)))
def rParse (N : Nat) (s : (List UInt8)) : Option (Big × Int) :=
  (((if ((List.length s : Int) : Int) > 0 then
    (idx s 0).bind fun x17 =>
    some (decide (((UInt8.toNat x17 : Int) : Int) = 45))
  else
    some false) : Option Bool)).bind fun ss =>
    match ss with
    | negative13 =>
      (loopM (rParse_b1 N s negative13) N (([] : (List Int)), 0)).bind fun ss =>
        match ss with
        | (Sum.inl l363) =>
          (rbig N negative13 l363).bind fun r536 =>
          (rText N r536).bind fun r555 =>
          (if ¬ r555 = s then
            some ((Big.mk false []), 2)
          else
            some (r536, 0))
        | (Sum.inr z574) => some z574
def rSame_b1 (N : Nat) (a : Big) (b : Big) : Int → Option (Stp Int (Sum Unit Bool))
  | i249 =>
    (if (i249 : Int) < (List.length a.Digits : Int) then
      (idx a.Digits i249).bind fun x259 =>
      (idx b.Digits i249).bind fun x272 =>
      (if (x259 : Int) ≠ x272 then
        some (Stp.done (Sum.inr false))
      else
        some (Stp.next (iw (i249 + 1))))
    else
      some (Stp.done (Sum.inl ())))
def rSame (N : Nat) (a : Big) (b : Big) : Option Bool :=
  (((if (!(a.Negative == b.Negative)) = true then
    some true
  else
    some (decide (((List.length a.Digits : Int) : Int) ≠ (List.length b.Digits : Int)))) : Option Bool)).bind fun ss =>
    match ss with
    | x16 =>
      (if x16 = true then
        some false
      else
        (loopM (rSame_b1 N a b) N 0).bind fun ss =>
          match ss with
          | (Sum.inl _) =>
            some true
          | (Sum.inr z365) => some z365)
def rCopy (N : Nat) (x : Big) : Option Big :=
  (apnd 4 ([] : (List Int)) x.Digits).bind fun x18 =>
  some (Big.mk x.Negative x18)
def rSmallB (N : Nat) (x : Big) : Option Bool :=
  some (decide (((List.length x.Digits : Int) : Int) ≤ 8))
end Go.D

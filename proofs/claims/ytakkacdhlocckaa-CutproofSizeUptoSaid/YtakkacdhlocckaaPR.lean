/- Plain counterparts, written by a program of mine (wip/tool). -/
import Derived.Test.YtakkacdhlocckaaT18
import Derived.Test.YtakkacdhlocckaaPA
set_option linter.unusedVariables false
namespace Go.D
open Go Go.X
def rtrim_b1 (N : Nat)  : (List Int) → Option (Stp (List Int) (List Int))
  | l112 =>
    (((if ((List.length l112 : Int) : Int) > 0 then
      (idx l112 (iw ((List.length l112 : Int) - 1))).bind fun x143 =>
      some (decide ((x143 : Int) = 0))
    else
      some false) : Option Bool)).bind fun ss =>
      match ss with
      | x139 =>
        (if x139 = true then
          (cut l112 0 (iw ((List.length l112 : Int) - 1))).bind fun x161 =>
          some (Stp.next x161)
        else
          some (Stp.done l112))
def rtrim (N : Nat) (l : (List Int)) : Option (List Int) :=
  (loopM (rtrim_b1 N ) N l).bind fun ss =>
    match ss with
    | l115 =>
      some l115
def halves_b1 (N : Nat) (x : Big) : ((List Int) × Int) → Option (Stp ((List Int) × Int) (List Int))
  | (l374, i378) =>
    (if (i378 : Int) < (List.length x.Digits : Int) then
      (idx x.Digits i378).bind fun x401 =>
      (idx x.Digits i378).bind fun x414 =>
      (apnd 8 l374 [(iw (Int.tmod x401 65536)), (iw (uw32 (Int.tdiv x414 65536)))]).bind fun x549 =>
      some (Stp.next (x549, (iw (i378 + 1))))
    else
      some (Stp.done l374))
def halves (N : Nat) (x : Big) : Option (List Int) :=
  (loopM (halves_b1 N x) N (([] : (List Int)), 0)).bind fun ss =>
    match ss with
    | l384 =>
      (rtrim N l384).bind fun r581 =>
      some r581
def rbig_b1 (N : Nat) (r6 : (List Int)) : ((List Int) × Int) → Option (Stp ((List Int) × Int) (List Int))
  | (digits263, i267) =>
    (if (i267 : Int) < (List.length r6 : Int) then
      (idx r6 i267).bind fun x296 =>
      (((if ((iw (i267 + 1)) : Int) < (List.length r6 : Int) then
        (idx r6 (iw (i267 + 1))).bind fun x330 =>
        some (uw32 ((uw32 x296) + (uw32 (65536 * (uw32 x330)))))
      else
        some (uw32 x296)) : Option Int)).bind fun ss =>
        match ss with
        | d326 =>
          (apnd 4 digits263 [d326]).bind fun x354 =>
          some (Stp.next (x354, (iw (i267 + 2))))
    else
      some (Stp.done digits263))
def rbig (N : Nat) (negative : Bool) (l : (List Int)) : Option Big :=
  (rtrim N l).bind fun r6 =>
  (((if negative = true then
    some (decide (((List.length r6 : Int) : Int) > 0))
  else
    some false) : Option Bool)).bind fun ss =>
    match ss with
    | negative38 =>
      (loopM (rbig_b1 N r6) N (([] : (List Int)), 0)).bind fun ss =>
        match ss with
        | digits275 =>
          some (Big.mk negative38 digits275)
def rorder_b1 (N : Nat) (a : (List Int)) (b : (List Int)) : Int → Option (Stp Int (Sum Unit Int))
  | i368 =>
    (if (i368 : Int) ≥ 0 then
      (idx a i368).bind fun x377 =>
      (idx b i368).bind fun x391 =>
      (if (x377 : Int) < x391 then
        some (Stp.done (Sum.inr (-1)))
      else
        (idx a i368).bind fun x466 =>
        (idx b i368).bind fun x480 =>
        (if (x466 : Int) > x480 then
          some (Stp.done (Sum.inr 1))
        else
          some (Stp.next (iw (i368 - 1)))))
    else
      some (Stp.done (Sum.inl ())))
def rorder (N : Nat) (a : (List Int)) (b : (List Int)) : Option Int :=
  (if ((List.length a : Int) : Int) ≠ (List.length b : Int) then
    (if ((List.length a : Int) : Int) < (List.length b : Int) then
      some (-1)
    else
      some 1)
  else
    (loopM (rorder_b1 N a b) N (iw ((List.length a : Int) - 1))).bind fun ss =>
      match ss with
      | (Sum.inl _) =>
        some 0
      | (Sum.inr z558) => some z558)
def rSign (N : Nat) (x : Big) : Option Int :=
  (halves N x).bind fun r6 =>
  (if ((List.length r6 : Int) : Int) = 0 then
    some 0
  else
    (if x.Negative = true then
      some (-1)
    else
      some 1))
def rCompare (N : Nat) (a : Big) (b : Big) : Option Int :=
  (rSign N a).bind fun r11 =>
  (rSign N b).bind fun r46 =>
  (if (r11 : Int) < r46 then
    some (-1)
  else
    (if (r11 : Int) > r46 then
      some 1
    else
      (halves N a).bind fun r56 =>
      (halves N b).bind fun r61 =>
      (rorder N r56 r61).bind fun r66 =>
      some (iw (r11 * r66))))
def rOf_b1 (N : Nat)  : (Int × (List Int)) → Option (Stp (Int × (List Int)) (List Int))
  | (u98, l104) =>
    (if (u98 : Int) > 0 then
      (apnd 8 l104 [(iw (Int.tmod u98 65536))]).bind fun x138 =>
      some (Stp.next ((uw (Int.tdiv u98 65536)), x138))
    else
      some (Stp.done l104))
def rOf (N : Nat) (n : Int) : Option Big :=
  (((if (n : Int) < 0 then
    some (uw ((uw (iw (0 - (iw (n + 1))))) + 1))
  else
    some (uw n)) : Option Int)).bind fun ss =>
    match ss with
    | u8 =>
      (loopM (rOf_b1 N ) N (u8, ([] : (List Int)))).bind fun ss =>
        match ss with
        | l114 =>
          (rbig N (decide ((n : Int) < 0)) l114).bind fun r163 =>
          some r163
def rSame_b1 (N : Nat) (a : Big) (b : Big) : Int → Option (Stp Int (Sum Unit Bool))
  | i249 =>
    (if (i249 : Int) < (List.length a.Digits : Int) then
      (idx a.Digits i249).bind fun x259 =>
      (idx b.Digits i249).bind fun x272 =>
      (if (x259 : Int) ≠ x272 then
        some (Stp.done (Sum.inr false))
      else
        some (Stp.next (iw (i249 + 1))))
    else
      some (Stp.done (Sum.inl ())))
def rSame (N : Nat) (a : Big) (b : Big) : Option Bool :=
  (((if (!(a.Negative == b.Negative)) = true then
    some true
  else
    some (decide (((List.length a.Digits : Int) : Int) ≠ (List.length b.Digits : Int)))) : Option Bool)).bind fun ss =>
    match ss with
    | x16 =>
      (if x16 = true then
        some false
      else
        (loopM (rSame_b1 N a b) N 0).bind fun ss =>
          match ss with
          | (Sum.inl _) =>
            some true
          | (Sum.inr z365) => some z365)
end Go.D

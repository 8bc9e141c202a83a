/- Plain counterparts, written by a program of mine (wip/tool). -/
import Derived.Test.YtcakdidcpoolcaaGreatDoorT25
import Derived.Test.YtcakdidcpoolcaaGreatDoorFD25
import Derived.Test.YtcakdidcpoolcaaGreatDoorPA
set_option linter.unusedVariables false
set_option linter.unusedSimpArgs false
namespace Go.D
open Go Go.X
def rtrim_b1 (N : Nat)  : (List Int) → Option (Stp (List Int) (List Int))
 | v0 =>
  (((if ((List.length v0 : Int) : Int) > 0 then
   (idx v0 (iw ((List.length v0 : Int) - 1))).bind fun v1 =>
   some (decide ((v1 : Int) = 0))
  else
   some false) : Option Bool)).bind fun ss =>
   match ss with
   | v2 =>
    (if v2 = true then
     (cut v0 0 (iw ((List.length v0 : Int) - 1))).bind fun v3 =>
     some (Stp.next v3)
    else
     some (Stp.done v0))
def rtrim (N : Nat) (l : (List Int)) : Option (List Int) :=
 (loopM (rtrim_b1 N ) N l).bind fun ss =>
  match ss with
  | v0 =>
   some v0
def halves_b1 (N : Nat) (x : Big) : ((List Int) × Int) → Option (Stp ((List Int) × Int) (List Int))
 | (v0, v1) =>
  (if (v1 : Int) < (List.length x.Digits : Int) then
   (idx x.Digits v1).bind fun v2 =>
   (idx x.Digits v1).bind fun v3 =>
   (apnd 8 v0 [(iw (Int.tmod v2 65536)), (iw (uw32 (Int.tdiv v3 65536)))]).bind fun v4 =>
   some (Stp.next (v4, (iw (v1 + 1))))
  else
   some (Stp.done v0))
def halves (N : Nat) (x : Big) : Option (List Int) :=
 (loopM (halves_b1 N x) N (([] : (List Int)), 0)).bind fun ss =>
  match ss with
  | v0 =>
   (rtrim N v0).bind fun v1 =>
   some v1
def rbig_b1 (N : Nat) (r6 : (List Int)) : ((List Int) × Int) → Option (Stp ((List Int) × Int) (List Int))
 | (v0, v1) =>
  (if (v1 : Int) < (List.length r6 : Int) then
   (idx r6 v1).bind fun v2 =>
   (((if ((iw (v1 + 1)) : Int) < (List.length r6 : Int) then
    (idx r6 (iw (v1 + 1))).bind fun v3 =>
    some (uw32 ((uw32 v2) + (uw32 (65536 * (uw32 v3)))))
   else
    some (uw32 v2)) : Option Int)).bind fun ss =>
    match ss with
    | v4 =>
     (apnd 4 v0 [v4]).bind fun v5 =>
     some (Stp.next (v5, (iw (v1 + 2))))
  else
   some (Stp.done v0))
def rbig (N : Nat) (negative : Bool) (l : (List Int)) : Option Big :=
 (rtrim N l).bind fun r6 =>
 (((if negative = true then
  some (decide (((List.length r6 : Int) : Int) > 0))
 else
  some false) : Option Bool)).bind fun ss =>
  match ss with
  | v0 =>
   (loopM (rbig_b1 N r6) N (([] : (List Int)), 0)).bind fun ss =>
    match ss with
    | v1 =>
     some (Big.mk v0 v1)
def rorder_b1 (N : Nat) (a : (List Int)) (b : (List Int)) : Int → Option (Stp Int (Sum Unit Int))
 | v0 =>
  (if (v0 : Int) ≥ 0 then
   (idx a v0).bind fun v1 =>
   (idx b v0).bind fun v2 =>
   (if (v1 : Int) < v2 then
    some (Stp.done (Sum.inr (-1)))
   else
    (idx a v0).bind fun v3 =>
    (idx b v0).bind fun v4 =>
    (if (v3 : Int) > v4 then
     some (Stp.done (Sum.inr 1))
    else
     some (Stp.next (iw (v0 - 1)))))
  else
   some (Stp.done (Sum.inl ())))
def rorder (N : Nat) (a : (List Int)) (b : (List Int)) : Option Int :=
 (if ((List.length a : Int) : Int) ≠ (List.length b : Int) then
  (if ((List.length a : Int) : Int) < (List.length b : Int) then
   some (-1)
  else
   some 1)
 else
  (loopM (rorder_b1 N a b) N (iw ((List.length a : Int) - 1))).bind fun ss =>
   match ss with
   | (Sum.inl _) =>
    some 0
   | (Sum.inr v0) => some v0)
def rplus_b1 (N : Nat) (a : (List Int)) (b : (List Int)) : ((List Int) × Int × Int) → Option (Stp ((List Int) × Int × Int) (List Int))
 | (v0, v1, v2) =>
  (((if (v2 : Int) < (List.length a : Int) then
   some true
  else
   (if (v2 : Int) < (List.length b : Int) then
    some true
   else
    some (decide ((v1 : Int) > 0)))) : Option Bool)).bind fun ss =>
   match ss with
   | v3 =>
    (if v3 = true then
     (((if (v2 : Int) < (List.length a : Int) then
      (idx a v2).bind fun v4 =>
      some (iw (v1 + v4))
     else
      some v1) : Option Int)).bind fun ss =>
      match ss with
      | v5 =>
       (((if (v2 : Int) < (List.length b : Int) then
        (idx b v2).bind fun v6 =>
        some (iw (v5 + v6))
       else
        some v5) : Option Int)).bind fun ss =>
        match ss with
        | v7 =>
         (apnd 8 v0 [(Int.tmod v7 65536)]).bind fun v8 =>
         some (Stp.next (v8, (iw (Int.tdiv v7 65536)), (iw (v2 + 1))))
    else
     some (Stp.done v0))
def rplus (N : Nat) (a : (List Int)) (b : (List Int)) : Option (List Int) :=
 (loopM (rplus_b1 N a b) N (([] : (List Int)), 0, 0)).bind fun ss =>
  match ss with
  | v0 =>
   (rtrim N v0).bind fun v1 =>
   some v1
def rminus_b1 (N : Nat) (a : (List Int)) (b : (List Int)) : ((List Int) × Int × Int) → Option (Stp ((List Int) × Int × Int) (List Int))
 | (v0, v1, v2) =>
  (if (v2 : Int) < (List.length a : Int) then
   (idx a v2).bind fun v3 =>
   (((if (v2 : Int) < (List.length b : Int) then
    (idx b v2).bind fun v4 =>
    some (iw ((iw (v3 - v1)) - v4))
   else
    some (iw (v3 - v1))) : Option Int)).bind fun ss =>
    match ss with
    | v5 =>
     (((if (v5 : Int) < 0 then
      some (1, (iw (v5 + 65536)))
     else
      some (0, v5)) : Option (Int × Int))).bind fun ss =>
      match ss with
      | (v6, v7) =>
       (apnd 8 v0 [v7]).bind fun v8 =>
       some (Stp.next (v8, v6, (iw (v2 + 1))))
  else
   some (Stp.done v0))
def rminus (N : Nat) (a : (List Int)) (b : (List Int)) : Option (List Int) :=
 (loopM (rminus_b1 N a b) N (([] : (List Int)), 0, 0)).bind fun ss =>
  match ss with
  | v0 =>
   (rtrim N v0).bind fun v1 =>
   some v1
def rsplit_b2 (N : Nat) (a : (List Int)) (b : (List Int)) (v0 : Int) : ((List Int) × (List Int) × Int) → Option (Stp ((List Int) × (List Int) × Int) ((List Int) × (List Int)))
 | (v1, v2, v3) =>
  (if (v3 : Int) > 0 then
   (rplus N v2 v2).bind fun v4 =>
   (idx a v0).bind fun v5 =>
   (sdiv .i64 v5 v3).bind fun v6 =>
   (((if ((Int.tmod v6 2) : Int) = 1 then
    (rplus N v4 [1]).bind fun v7 =>
    some v7
   else
    some v4) : Option (List Int))).bind fun ss =>
    match ss with
    | v8 =>
     (rorder N v8 b).bind fun v9 =>
     (if (v9 : Int) ≥ 0 then
      (rminus N v8 b).bind fun v10 =>
      (idx v1 v0).bind fun v11 =>
      (idx v1 v0).bind fun v12 =>
      (upd1 v1 v0 (iw (v11 + v3))).bind fun v13 =>
      some (Stp.next (v13, v10, (iw (Int.tdiv v3 2))))
     else
      some (Stp.next (v1, v8, (iw (Int.tdiv v3 2)))))
  else
   some (Stp.done (v1, v2)))
def rsplit_b1 (N : Nat) (a : (List Int)) (b : (List Int)) : ((List Int) × (List Int) × Int) → Option (Stp ((List Int) × (List Int) × Int) ((List Int) × (List Int)))
 | (v0, v1, v2) =>
  (if (v2 : Int) ≥ 0 then
   (loopM (rsplit_b2 N a b v2) N (v0, v1, 32768)).bind fun ss =>
    match ss with
    | (v3, v4) =>
     some (Stp.next (v3, v4, (iw (v2 - 1))))
  else
   some (Stp.done (v0, v1)))
def rsplit (N : Nat) (a : (List Int)) (b : (List Int)) : Option ((List Int) × (List Int)) :=
 (mk1 (α := Int) 8 0 (List.length a : Int)).bind fun x2 =>
 (loopM (rsplit_b1 N a b) N (x2, ([] : (List Int)), (iw ((List.length a : Int) - 1)))).bind fun ss =>
  match ss with
  | (v0, v1) =>
   (rtrim N v0).bind fun v2 =>
   some (v2, v1)
def rOf_b1 (N : Nat)  : (Int × (List Int)) → Option (Stp (Int × (List Int)) (List Int))
 | (v0, v1) =>
  (if (v0 : Int) > 0 then
   (apnd 8 v1 [(iw (Int.tmod v0 65536))]).bind fun v2 =>
   some (Stp.next ((uw (Int.tdiv v0 65536)), v2))
  else
   some (Stp.done v1))
def rOf (N : Nat) (n : Int) : Option Big :=
 (((if (n : Int) < 0 then
  some (uw ((uw (iw (0 - (iw (n + 1))))) + 1))
 else
  some (uw n)) : Option Int)).bind fun ss =>
  match ss with
  | u8 =>
   (loopM (rOf_b1 N ) N (u8, ([] : (List Int)))).bind fun ss =>
    match ss with
    | v0 =>
     (rbig N (decide ((n : Int) < 0)) v0).bind fun v1 =>
     some v1
def rText_b1 (N : Nat)  : ((List Int) × (List UInt8)) → Option (Stp ((List Int) × (List UInt8)) (List UInt8))
 | (v0, v1) =>
  (if ((List.length v0 : Int) : Int) > 0 then
   (rsplit N v0 [10]).bind fun v2 =>
   (((if ((List.length v2.2 : Int) : Int) > 0 then
    (idx v2.2 0).bind fun v3 =>
    some v3
   else
    some 0) : Option Int)).bind fun ss =>
    match ss with
    | v4 =>
     (chk ((List.length (bstr [(uw8 (iw (48 + v4)))]) : Int) + List.length v1 ≤ 9223372036854775807)).bind fun _ =>
     some (Stp.next (v2.1, ((bstr [(uw8 (iw (48 + v4)))]) ++ v1)))
  else
   some (Stp.done v1))
def rText (N : Nat) (x : Big) : Option (List UInt8) :=
 (halves N x).bind fun r6 =>
 (loopM (rText_b1 N ) N (r6, ([] : List UInt8))).bind fun ss =>
  match ss with
  | v0 =>
   (if v0 = ([] : List UInt8) then
    some ([48] : List UInt8)
   else
    (if x.Negative = true then
     (chk ((List.length ([45] : List UInt8) : Int) + List.length v0 ≤ 9223372036854775807)).bind fun _ =>
     some (([45] : List UInt8) ++ v0)
    else
     some v0))
end Go.D

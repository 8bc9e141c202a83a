/- Plain counterparts, written by a program of mine (wip/tool). -/
import Derived.Test.YtcakdidcpoolcaaGreatDoorT25
import Derived.Test.YtcakdidcpoolcaaGreatDoorFD25
set_option linter.unusedVariables false
set_option linter.unusedSimpArgs false
namespace Go.D
open Go Go.X
def cloneU32 (N : Nat) (s : (List Int)) : Option (List Int) :=
 (apnd 4 ([] : (List Int)) s).bind fun v0 =>
 some v0
def digit (N : Nat) (d : (List Int)) (i : Int) : Option Int :=
 (if (i : Int) < (List.length d : Int) then
  (idx d i).bind fun x2 =>
  some (uw x2)
 else
  some 0)
def bsign (N : Nat) (n : Int) : Option Int :=
 some (imin (imax n (-1)) 1)
def btrim_b1 (N : Nat) (d : (List Int)) : Int → Option (Stp Int Int)
 | v0 =>
  (((if (v0 : Int) > 0 then
   (idx d (iw (v0 - 1))).bind fun v1 =>
   some (decide ((v1 : Int) = 0))
  else
   some false) : Option Bool)).bind fun ss =>
   match ss with
   | v2 =>
    (if v2 = true then
     some (Stp.next (iw (v0 - 1)))
    else
     some (Stp.done v0))
def btrim (N : Nat) (d : (List Int)) : Option (List Int) :=
 (loopM (btrim_b1 N d) N (List.length d : Int)).bind fun ss =>
  match ss with
  | v0 =>
   (cut d 0 v0).bind fun v1 =>
   (cloneU32 N v1).bind fun v2 =>
   some v2
def bnormal (N : Nat) (negative : Bool) (d : (List Int)) : Option Big :=
 (btrim N d).bind fun r6 =>
 (if ((List.length r6 : Int) : Int) = 0 then
  some (Big.mk false [])
 else
  some (Big.mk negative r6))
def bcompare_b1 (N : Nat) (a : (List Int)) (b : (List Int)) : Int → Option (Stp Int (Sum Unit Int))
 | v0 =>
  (if (v0 : Int) ≥ 0 then
   (idx a v0).bind fun v1 =>
   (idx b v0).bind fun v2 =>
   (if (v1 : Int) < v2 then
    some (Stp.done (Sum.inr (-1)))
   else
    (idx a v0).bind fun v3 =>
    (idx b v0).bind fun v4 =>
    (if (v3 : Int) > v4 then
     some (Stp.done (Sum.inr 1))
    else
     some (Stp.next (iw (v0 - 1)))))
  else
   some (Stp.done (Sum.inl ())))
def bcompare (N : Nat) (a : (List Int)) (b : (List Int)) : Option Int :=
 (if ((List.length a : Int) : Int) ≠ (List.length b : Int) then
  (bsign N (iw ((List.length a : Int) - (List.length b : Int)))).bind fun r2 =>
  some r2
 else
  (loopM (bcompare_b1 N a b) N (iw ((List.length a : Int) - 1))).bind fun ss =>
   match ss with
   | (Sum.inl _) =>
    some 0
   | (Sum.inr v0) => some v0)
def bplus_b1 (N : Nat) (a : (List Int)) (b : (List Int)) (x2 : (List Int)) : ((List Int) × Int × Int) → Option (Stp ((List Int) × Int × Int) (List Int))
 | (v0, v1, v2) =>
  (if (v2 : Int) < (List.length x2 : Int) then
   (digit N a v2).bind fun v3 =>
   (digit N b v2).bind fun v4 =>
   (idx v0 v2).bind fun v5 =>
   (upd1 v0 v2 (uw32 (uw (v1 + (uw (v3 + v4)))))).bind fun v6 =>
   some (Stp.next (v6, (bshr .u64 (uw (v1 + (uw (v3 + v4)))) 32), (iw (v2 + 1))))
  else
   some (Stp.done v0))
def bplus (N : Nat) (a : (List Int)) (b : (List Int)) : Option (List Int) :=
 (mk1 (α := Int) 4 0 (iw ((imax (List.length a : Int) (List.length b : Int)) + 1))).bind fun x2 =>
 (loopM (bplus_b1 N a b x2) N (x2, 0, 0)).bind fun ss =>
  match ss with
  | v0 =>
   some v0
def bminus_b1 (N : Nat) (a : (List Int)) (b : (List Int)) : ((List Int) × Int × Int) → Option (Stp ((List Int) × Int × Int) (List Int))
 | (v0, v1, v2) =>
  (if (v2 : Int) < (List.length a : Int) then
   (idx a v2).bind fun v3 =>
   (digit N b v2).bind fun v4 =>
   (idx v0 v2).bind fun v5 =>
   (upd1 v0 v2 (uw32 (uw ((uw ((uw v3) - v4)) - v1)))).bind fun v6 =>
   some (Stp.next (v6, (bshr .u64 (uw ((uw ((uw v3) - v4)) - v1)) 63), (iw (v2 + 1))))
  else
   some (Stp.done v0))
def bminus (N : Nat) (a : (List Int)) (b : (List Int)) : Option (List Int) :=
 (mk1 (α := Int) 4 0 (List.length a : Int)).bind fun x2 =>
 (loopM (bminus_b1 N a b) N (x2, 0, 0)).bind fun ss =>
  match ss with
  | v0 =>
   some v0
def btimes_b2 (N : Nat) (b : (List Int)) (v0 : Int) (v1 : Int) : ((List Int) × Int × Int) → Option (Stp ((List Int) × Int × Int) ((List Int) × Int))
 | (v2, v3, v4) =>
  (if (v4 : Int) < (List.length b : Int) then
   (idx b v4).bind fun v5 =>
   (idx v2 (iw (v0 + v4))).bind fun v6 =>
   (idx v2 (iw (v0 + v4))).bind fun v7 =>
   (upd1 v2 (iw (v0 + v4)) (uw32 (uw (v3 + (uw ((uw ((uw v1) * (uw v5))) + (uw v6))))))).bind fun v8 =>
   some (Stp.next (v8, (bshr .u64 (uw (v3 + (uw ((uw ((uw v1) * (uw v5))) + (uw v6))))) 32), (iw (v4 + 1))))
  else
   some (Stp.done (v2, v3)))
def btimes_b1 (N : Nat) (a : (List Int)) (b : (List Int)) : ((List Int) × Int) → Option (Stp ((List Int) × Int) (List Int))
 | (v0, v1) =>
  (if (v1 : Int) < (List.length a : Int) then
   (idx a v1).bind fun v2 =>
   (loopM (btimes_b2 N b v1 v2) N (v0, 0, 0)).bind fun ss =>
    match ss with
    | (v3, v4) =>
     (idx v3 (iw (v1 + (List.length b : Int)))).bind fun v5 =>
     (upd1 v3 (iw (v1 + (List.length b : Int))) (uw32 v4)).bind fun v6 =>
     some (Stp.next (v6, (iw (v1 + 1))))
  else
   some (Stp.done v0))
def btimes (N : Nat) (a : (List Int)) (b : (List Int)) : Option (List Int) :=
 (mk1 (α := Int) 4 0 (iw ((List.length a : Int) + (List.length b : Int)))).bind fun x2 =>
 (loopM (btimes_b1 N a b) N (x2, 0)).bind fun ss =>
  match ss with
  | v0 =>
   some v0
def bshort_b1 (N : Nat) (a : (List Int)) (pb : Int) : ((List Int) × Int × Int) → Option (Stp ((List Int) × Int × Int) ((List Int) × Int))
 | (v0, v1, v2) =>
  (if (v2 : Int) ≥ 0 then
   (idx a v2).bind fun v3 =>
   (sdiv .u64 (bor .u64 (bshl .u64 v1 32) (uw v3)) (uw pb)).bind fun v4 =>
   (idx v0 v2).bind fun v5 =>
   (upd1 v0 v2 (uw32 v4)).bind fun v6 =>
   (srem (bor .u64 (bshl .u64 v1 32) (uw v3)) (uw pb)).bind fun v7 =>
   some (Stp.next (v6, (Int.tmod (bor .u64 (bshl .u64 v1 32) (uw v3)) (uw pb)), (iw (v2 - 1))))
  else
   some (Stp.done (v0, v1)))
def bshort (N : Nat) (a : (List Int)) (pb : Int) : Option ((List Int) × Int) :=
 (mk1 (α := Int) 4 0 (List.length a : Int)).bind fun x2 =>
 (loopM (bshort_b1 N a pb) N (x2, 0, (iw ((List.length a : Int) - 1)))).bind fun ss =>
  match ss with
  | (v0, v1) =>
   some (v0, (uw32 v1))
end Go.D

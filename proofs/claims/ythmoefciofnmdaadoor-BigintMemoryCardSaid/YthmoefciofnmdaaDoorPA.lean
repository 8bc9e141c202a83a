/- Plain counterparts, written by a program of mine (wip/tool). -/
import Derived.Test.YthmoefciofnmdaaDoorT18
import Derived.Test.YthmoefciofnmdaaDoorFD
set_option linter.unusedVariables false
set_option linter.unusedSimpArgs false
namespace Go.D
open Go Go.X
def cloneU32 (N : Nat) (s : (List Int)) : Option (List Int) :=
  (apnd 4 ([] : (List Int)) s).bind fun x16 =>
  some x16
def digit (N : Nat) (d : (List Int)) (i : Int) : Option Int :=
  (if (i : Int) < (List.length d : Int) then
    (idx d i).bind fun x2 =>
    some (uw x2)
  else
    some 0)
def bsign (N : Nat) (n : Int) : Option Int :=
  some (imin (imax n (-1)) 1)
def btrim_b1 (N : Nat) (d : (List Int)) : Int → Option (Stp Int Int)
  | n82 =>
    (((if (n82 : Int) > 0 then
      (idx d (iw (n82 - 1))).bind fun x110 =>
      some (decide ((x110 : Int) = 0))
    else
      some false) : Option Bool)).bind fun ss =>
      match ss with
      | x106 =>
        (if x106 = true then
          some (Stp.next (iw (n82 - 1)))
        else
          some (Stp.done n82))
def btrim (N : Nat) (d : (List Int)) : Option (List Int) :=
  (loopM (btrim_b1 N d) N (List.length d : Int)).bind fun ss =>
    match ss with
    | n83 =>
      (cut d 0 n83).bind fun x131 =>
      (cloneU32 N x131).bind fun r146 =>
      some r146
def bnormal (N : Nat) (negative : Bool) (d : (List Int)) : Option Big :=
  (btrim N d).bind fun r6 =>
  (if ((List.length r6 : Int) : Int) = 0 then
    some (Big.mk false [])
  else
    some (Big.mk negative r6))
def bcompare_b1 (N : Nat) (a : (List Int)) (b : (List Int)) : Int → Option (Stp Int (Sum Unit Int))
  | i374 =>
    (if (i374 : Int) ≥ 0 then
      (idx a i374).bind fun x383 =>
      (idx b i374).bind fun x397 =>
      (if (x383 : Int) < x397 then
        some (Stp.done (Sum.inr (-1)))
      else
        (idx a i374).bind fun x472 =>
        (idx b i374).bind fun x486 =>
        (if (x472 : Int) > x486 then
          some (Stp.done (Sum.inr 1))
        else
          some (Stp.next (iw (i374 - 1)))))
    else
      some (Stp.done (Sum.inl ())))
def bcompare (N : Nat) (a : (List Int)) (b : (List Int)) : Option Int :=
  (if ((List.length a : Int) : Int) ≠ (List.length b : Int) then
    (bsign N (iw ((List.length a : Int) - (List.length b : Int)))).bind fun r2 =>
    some r2
  else
    (loopM (bcompare_b1 N a b) N (iw ((List.length a : Int) - 1))).bind fun ss =>
      match ss with
      | (Sum.inl _) =>
        some 0
      | (Sum.inr z564) => some z564)
def bplus_b1 (N : Nat) (a : (List Int)) (b : (List Int)) (x2 : (List Int)) : ((List Int) × Int × Int) → Option (Stp ((List Int) × Int × Int) (List Int))
  | (out113, carry117, x118) =>
    (if (x118 : Int) < (List.length x2 : Int) then
      (digit N a x118).bind fun r133 =>
      (digit N b x118).bind fun r141 =>
      (idx out113 x118).bind fun x149 =>
      (upd1 out113 x118 (uw32 (uw (carry117 + (uw (r133 + r141)))))).bind fun x155 =>
      some (Stp.next (x155, (bshr .u64 (uw (carry117 + (uw (r133 + r141)))) 32), (iw (x118 + 1))))
    else
      some (Stp.done out113))
def bplus (N : Nat) (a : (List Int)) (b : (List Int)) : Option (List Int) :=
  (mk1 (α := Int) 4 0 (iw ((imax (List.length a : Int) (List.length b : Int)) + 1))).bind fun x2 =>
  (loopM (bplus_b1 N a b x2) N (x2, 0, 0)).bind fun ss =>
    match ss with
    | out121 =>
      some out121
def bminus_b1 (N : Nat) (a : (List Int)) (b : (List Int)) : ((List Int) × Int × Int) → Option (Stp ((List Int) × Int × Int) (List Int))
  | (out263, borrow267, x268) =>
    (if (x268 : Int) < (List.length a : Int) then
      (idx a x268).bind fun x284 =>
      (digit N b x268).bind fun r298 =>
      (idx out263 x268).bind fun x375 =>
      (upd1 out263 x268 (uw32 (uw ((uw ((uw x284) - r298)) - borrow267)))).bind fun x381 =>
      some (Stp.next (x381, (bshr .u64 (uw ((uw ((uw x284) - r298)) - borrow267)) 63), (iw (x268 + 1))))
    else
      some (Stp.done out263))
def bminus (N : Nat) (a : (List Int)) (b : (List Int)) : Option (List Int) :=
  (mk1 (α := Int) 4 0 (List.length a : Int)).bind fun x2 =>
  (loopM (bminus_b1 N a b) N (x2, 0, 0)).bind fun ss =>
    match ss with
    | out271 =>
      some out271
def btimes_b2 (N : Nat) (b : (List Int)) (x475 : Int) (x491 : Int) : ((List Int) × Int × Int) → Option (Stp ((List Int) × Int × Int) ((List Int) × Int))
  | (out616, carry620, x621) =>
    (if (x621 : Int) < (List.length b : Int) then
      (idx b x621).bind fun x637 =>
      (idx out616 (iw (x475 + x621))).bind fun x651 =>
      (idx out616 (iw (x475 + x621))).bind fun x661 =>
      (upd1 out616 (iw (x475 + x621)) (uw32 (uw (carry620 + (uw ((uw ((uw x491) * (uw x637))) + (uw x651))))))).bind fun x667 =>
      some (Stp.next (x667, (bshr .u64 (uw (carry620 + (uw ((uw ((uw x491) * (uw x637))) + (uw x651))))) 32), (iw (x621 + 1))))
    else
      some (Stp.done (out616, carry620)))
def btimes_b1 (N : Nat) (a : (List Int)) (b : (List Int)) : ((List Int) × Int) → Option (Stp ((List Int) × Int) (List Int))
  | (out471, x475) =>
    (if (x475 : Int) < (List.length a : Int) then
      (idx a x475).bind fun x491 =>
      (loopM (btimes_b2 N b x475 x491) N (out471, 0, 0)).bind fun ss =>
        match ss with
        | (out624, carry628) =>
          (idx out624 (iw (x475 + (List.length b : Int)))).bind fun x687 =>
          (upd1 out624 (iw (x475 + (List.length b : Int))) (uw32 carry628)).bind fun x693 =>
          some (Stp.next (x693, (iw (x475 + 1))))
    else
      some (Stp.done out471))
def btimes (N : Nat) (a : (List Int)) (b : (List Int)) : Option (List Int) :=
  (mk1 (α := Int) 4 0 (iw ((List.length a : Int) + (List.length b : Int)))).bind fun x2 =>
  (loopM (btimes_b1 N a b) N (x2, 0)).bind fun ss =>
    match ss with
    | out478 =>
      some out478
def bshort_b1 (N : Nat) (a : (List Int)) (pb : Int) : ((List Int) × Int × Int) → Option (Stp ((List Int) × Int × Int) ((List Int) × Int))
  | (out124, rest128, i129) =>
    (if (i129 : Int) ≥ 0 then
      (idx a i129).bind fun x146 =>
      (sdiv .u64 (bor .u64 (bshl .u64 rest128 32) (uw x146)) (uw pb)).bind fun x160 =>
      (idx out124 i129).bind fun x164 =>
      (upd1 out124 i129 (uw32 x160)).bind fun x170 =>
      (srem (bor .u64 (bshl .u64 rest128 32) (uw x146)) (uw pb)).bind fun x185 =>
      some (Stp.next (x170, (Int.tmod (bor .u64 (bshl .u64 rest128 32) (uw x146)) (uw pb)), (iw (i129 - 1))))
    else
      some (Stp.done (out124, rest128)))
def bshort (N : Nat) (a : (List Int)) (pb : Int) : Option ((List Int) × Int) :=
  (mk1 (α := Int) 4 0 (List.length a : Int)).bind fun x2 =>
  (loopM (bshort_b1 N a pb) N (x2, 0, (iw ((List.length a : Int) - 1)))).bind fun ss =>
    match ss with
    | (out132, rest136) =>
      some (out132, (uw32 rest136))
def bshift_b1 (N : Nat) (a : (List Int)) (n : Int) : ((List Int) × Int) → Option (Stp ((List Int) × Int) (List Int))
  | (out177, x181) =>
    (if (x181 : Int) < (List.length a : Int) then
      (idx a x181).bind fun x197 =>
      (chk (¬ (n : Int) < 0)).bind fun _ =>
      (idx out177 x181).bind fun x214 =>
      (idx out177 x181).bind fun x224 =>
      (upd1 out177 x181 (bor .u32 x214 (uw32 (bshl .u64 (uw x197) n)))).bind fun x230 =>
      (idx x230 (iw (x181 + 1))).bind fun x245 =>
      (upd1 x230 (iw (x181 + 1)) (uw32 (bshr .u64 (bshl .u64 (uw x197) n) 32))).bind fun x251 =>
      some (Stp.next (x251, (iw (x181 + 1))))
    else
      some (Stp.done out177))
def bshift (N : Nat) (a : (List Int)) (n : Int) : Option (List Int) :=
  (mk1 (α := Int) 4 0 (iw ((List.length a : Int) + 1))).bind fun x2 =>
  (loopM (bshift_b1 N a n) N (x2, 0)).bind fun ss =>
    match ss with
    | out184 =>
      some out184
end Go.D

/- Plain counterparts, written by a program of mine (wip/tool). -/
import Derived.Test.YtaakoedphmeenaaT22
set_option linter.unusedVariables false
set_option linter.unusedSimpArgs false
namespace Go.D
open Go Go.X
def pClosure_b1 (N : Nat) (pattern : (List UInt8)) : (Int × Int) → Option (Stp (Int × Int) Int)
 | (vset61, x62) =>
  (if (x62 : Int) < (List.length pattern : Int) then
   (((idx pattern x62).bind fun x84 =>
   (if ((UInt8.toNat x84 : Int) : Int) = 37 then
    (chk (¬ (x62 : Int) < 0)).bind fun _ =>
    some (decide (((band .u32 (bshr .u32 vset61 x62) 1) : Int) = 1))
   else
    some false) : Option Bool)).bind fun ss =>
    match ss with
    | x81 =>
     (if x81 = true then
      (chk (¬ ((iw (x62 + 1)) : Int) < 0)).bind fun _ =>
      some (Stp.next ((bor .u32 vset61 (bshl .u32 1 (iw (x62 + 1)))), (iw (x62 + 1))))
     else
      some (Stp.next (vset61, (iw (x62 + 1)))))
  else
   some (Stp.done vset61))
def pClosure (N : Nat) (pattern : (List UInt8)) (vset : Int) : Option Int :=
 (loopM (pClosure_b1 N pattern) N (vset, 0)).bind fun ss =>
  match ss with
  | vset63 =>
   some vset63
def pBegin (N : Nat) (t : TTest) : Option Int :=
 (if (t.Kind : Int) = 1 then
  (pClosure N t.Text 1).bind fun r7 =>
  some r7
 else
  some 0)
def pNext_b1 (N : Nat) (c : Int) (s : Int) (t : TTest) : (Int × Int) → Option (Stp (Int × Int) Int)
 | (out66, x67) =>
  (if (x67 : Int) < (List.length t.Text : Int) then
   (chk (¬ (x67 : Int) < 0)).bind fun _ =>
   (if ((band .u32 (bshr .u32 s x67) 1) : Int) = 0 then
    some (Stp.next (out66, (iw (x67 + 1))))
   else
    (idx t.Text x67).bind fun x82 =>
    (if ((UInt8.toNat x82 : Int) : Int) = 37 then
     (chk (¬ (x67 : Int) < 0)).bind fun _ =>
     some (Stp.next ((bor .u32 out66 (bshl .u32 1 x67)), (iw (x67 + 1))))
    else
     (((if ((UInt8.toNat x82 : Int) : Int) = 95 then
      some true
     else
      some (decide (((UInt8.toNat x82 : Int) : Int) = c))) : Option Bool)).bind fun ss =>
      match ss with
      | x93 =>
       (if x93 = true then
        (chk (¬ ((iw (x67 + 1)) : Int) < 0)).bind fun _ =>
        some (Stp.next ((bor .u32 out66 (bshl .u32 1 (iw (x67 + 1)))), (iw (x67 + 1))))
       else
        some (Stp.next (out66, (iw (x67 + 1)))))))
  else
   some (Stp.done out66))
def pNext (N : Nat) (t : TTest) (s : Int) (c : Int) : Option Int :=
 (if (t.Kind : Int) = 1 then
  (loopM (pNext_b1 N c s t) N (0, 0)).bind fun ss =>
   match ss with
   | out69 =>
    (pClosure N t.Text out69).bind fun r107 =>
    some r107
 else
  (if (s : Int) ≥ 100 then
   some s
  else
   (((if ((iw s) : Int) = (List.length t.Text : Int) then
    some true
   else
    (idx t.Text s).bind fun x126 =>
    some (decide ((c : Int) > (UInt8.toNat x126 : Int)))) : Option Bool)).bind fun ss =>
    match ss with
    | x122 =>
     (if x122 = true then
      some 101
     else
      (idx t.Text s).bind fun x135 =>
      (if (c : Int) < (UInt8.toNat x135 : Int) then
       some 100
      else
       some (uw32 (s + 1))))))
def pPassed (N : Nat) (t : TTest) (s : Int) : Option Bool :=
 (((if (t.Kind : Int) = 1 then
  (chk (¬ ((List.length t.Text : Int) : Int) < 0)).bind fun _ =>
  some (decide (((band .u32 (bshr .u32 s (List.length t.Text : Int)) 1) : Int) = 1))
 else
  (if (t.Kind : Int) = 0 then
   some (decide (((iw s) : Int) = (List.length t.Text : Int)))
  else
   (if (t.Kind : Int) = 2 then
    (if (s : Int) = 100 then
     some true
    else
     some (decide (((iw s) : Int) < (List.length t.Text : Int))))
   else
    (if (s : Int) = 100 then
     some true
    else
     some (decide (((iw s) : Int) ≤ (List.length t.Text : Int))))))) : Option Bool)).bind fun ss =>
  match ss with
  | ok15 =>
   some (!(ok15 == t.Negated))
def pPasses_b1 (N : Nat) (t : TTest) (text : (List UInt8)) : (Int × Int) → Option (Stp (Int × Int) Int)
 | (s76, x78) =>
  (if (x78 : Int) < (List.length (sby text) : Int) then
   (idx (sby text) x78).bind fun x92 =>
   (pNext N t s76 x92).bind fun r103 =>
   some (Stp.next (r103, (iw (x78 + 1))))
  else
   some (Stp.done s76))
def pPasses (N : Nat) (t : TTest) (text : (List UInt8)) : Option Bool :=
 (pBegin N t).bind fun r6 =>
 (loopM (pPasses_b1 N t text) N (r6, 0)).bind fun ss =>
  match ss with
  | s80 =>
   (pPassed N t s80).bind fun r116 =>
   some r116
def pKey_b1 (N : Nat) (l : (List Int)) : ((List Int) × Int) → Option (Stp ((List Int) × Int) (List Int))
 | (b114, x118) =>
  (if (x118 : Int) < (List.length l : Int) then
   (idx l x118).bind fun x137 =>
   (apnd 1 b114 [(uw8 x137), (uw8 (bshr .u32 x137 8)), (uw8 (bshr .u32 x137 16))]).bind fun x159 =>
   some (Stp.next (x159, (iw (x118 + 1))))
  else
   some (Stp.done b114))
def pKey (N : Nat) (l : (List Int)) (left : Int) : Option (List UInt8) :=
 (loopM (pKey_b1 N l) N ([(uw8 left)], 0)).bind fun ss =>
  match ss with
  | b124 =>
   some (bstr b124)
def pFind_b1 (N : Nat) (f : TFinder) (l : (List Int)) : Int → Option (Stp Int (Sum Unit (Bool × (List (List UInt8)) × (List ((List UInt8) × Bool)))))
 | x225 =>
  (if (x225 : Int) < (List.length f.tests : Int) then
   (idx f.tests x225).bind fun x242 =>
   (idx l x225).bind fun x265 =>
   (pPassed N x242 x265).bind fun r321 =>
   (if (!r321) = true then
    some (Stp.done (Sum.inr (false, f.out, f.dead)))
   else
    some (Stp.next (iw (x225 + 1))))
  else
   some (Stp.done (Sum.inl ())))
def pFind_b3 (N : Nat) (f : TFinder) (l : (List Int)) (c2385 : Int) : ((List Int) × Int) → Option (Stp ((List Int) × Int) (List Int))
 | (more3100, x3104) =>
  (if (x3104 : Int) < (List.length f.tests : Int) then
   (idx f.tests x3104).bind fun x3132 =>
   (idx l x3104).bind fun x3155 =>
   (pNext N x3132 x3155 (uw8 c2385)).bind fun r3169 =>
   (idx more3100 x3104).bind fun x3246 =>
   (upd1 more3100 x3104 r3169).bind fun x3252 =>
   some (Stp.next (x3252, (iw (x3104 + 1))))
  else
   some (Stp.done more3100))
def pFind_b2 (N : Nat) (self : TFinder → (List Int) → (List Int) → Int → Option (Bool × (List (List UInt8)) × (List ((List UInt8) × Bool)))) (f : TFinder) (l : (List Int)) (left : Int) (text : (List Int)) : ((List (List UInt8)) × (List ((List UInt8) × Bool)) × Bool × Int) → Option (Stp ((List (List UInt8)) × (List ((List UInt8) × Bool)) × Bool × Int) ((List (List UInt8)) × (List ((List UInt8) × Bool)) × Bool))
 | (out2373, dead2378, found2384, c2385) =>
  (((if (c2385 : Int) ≤ 126 then
   some (decide (((List.length out2373 : Int) : Int) < f.most))
  else
   some false) : Option Bool)).bind fun ss =>
   match ss with
   | x2590 =>
    (if x2590 = true then
     (mk1 (α := Int) 4 0 (List.length l : Int)).bind fun x2770 =>
     (loopM (pFind_b3 N f l c2385) N (x2770, 0)).bind fun ss =>
      match ss with
      | more3115 =>
       (apnd 1 text [(uw8 c2385)]).bind fun x3284 =>
       (self (TFinder.mk f.tests f.most out2373 dead2378) more3115 x3284 (iw (left - 1))).bind fun r3350 =>
       (if r3350.1 = true then
        some (Stp.next (r3350.2.1, r3350.2.2, true, (iw32 (c2385 + 1))))
       else
        some (Stp.next (r3350.2.1, r3350.2.2, found2384, (iw32 (c2385 + 1)))))
    else
     some (Stp.done (out2373, dead2378, found2384)))
def pFind_step (N : Nat) (self : TFinder → (List Int) → (List Int) → Int → Option (Bool × (List (List UInt8)) × (List ((List UInt8) × Bool)))) (f : TFinder) (l : (List Int)) (text : (List Int)) (left : Int) : Option (Bool × (List (List UInt8)) × (List ((List UInt8) × Bool))) :=
 (if (left : Int) = 0 then
  (loopM (pFind_b1 N f l) N 0).bind fun ss =>
   match ss with
   | (Sum.inl _) =>
    (apnd 16 f.out [(bstr text)]).bind fun x362 =>
    some (true, x362, f.dead)
   | (Sum.inr z390) => some z390
 else
  (pKey N l left).bind fun r391 =>
  (if (mget f.dead r391 false).1 = true then
   some (false, f.out, f.dead)
  else
   (loopM (pFind_b2 N self f l left text) N (f.out, f.dead, false, 32)).bind fun ss =>
    match ss with
    | (out2392, dead2397, found2403) =>
     (if (!found2403) = true then
      some (found2403, out2392, (mput dead2397 r391 true))
     else
      some (found2403, out2392, dead2397))))
def pFind : Nat → TFinder → (List Int) → (List Int) → Int → Option (Bool × (List (List UInt8)) × (List ((List UInt8) × Bool)))
 | 0 => fun _ _ _ _ => none
 | N + 1 => pFind_step N (pFind N)
def pWords_b1 (N : Nat) (l : (List TTest)) (length : Int) : ((List Int) × Int) → Option (Stp ((List Int) × Int) (List Int))
 | (l421, x425) =>
  (if (x425 : Int) < (List.length l : Int) then
   (idx l x425).bind fun x451 =>
   (pBegin N x451).bind fun r474 =>
   (apnd 4 l421 [r474]).bind fun x489 =>
   some (Stp.next (x489, (iw (x425 + 1))))
  else
   some (Stp.done l421))
def pWords (N : Nat) (l : (List TTest)) (length : Int) (most : Int) : Option (List (List UInt8)) :=
 (((if (length : Int) < 0 then
  some true
 else
  some (decide ((most : Int) ≤ 0))) : Option Bool)).bind fun ss =>
  match ss with
  | x2 =>
   (if x2 = true then
    some ([] : (List (List UInt8)))
   else
    (((loopM (pWords_b1 N l length) N (([] : (List Int)), 0)).bind fun ss =>
     match ss with
     | l433 =>
      some l433 : Option (List Int))).bind fun ss =>
     match ss with
     | x271 =>
      (pFind N (TFinder.mk l most ([] : (List (List UInt8))) ([] : (List ((List UInt8) × Bool)))) x271 ([] : (List Int)) length).bind fun r531 =>
      some r531.2.1)
end Go.D

/- Plain counterparts, written by a program of mine (wip/tool). -/
import Derived.Test.YtaakoedphmeenaaT22
set_option linter.unusedVariables false
set_option linter.unusedSimpArgs false
namespace Go.D
open Go Go.X
def pClosure_b1 (N : Nat) (pattern : (List UInt8)) : (Int × Int) → Option (Stp (Int × Int) Int)
 | (v0, v1) =>
  (if (v1 : Int) < (List.length pattern : Int) then
   (((idx pattern v1).bind fun v2 =>
   (if ((UInt8.toNat v2 : Int) : Int) = 37 then
    (chk (¬ (v1 : Int) < 0)).bind fun _ =>
    some (decide (((band .u32 (bshr .u32 v0 v1) 1) : Int) = 1))
   else
    some false) : Option Bool)).bind fun ss =>
    match ss with
    | v3 =>
     (if v3 = true then
      (chk (¬ ((iw (v1 + 1)) : Int) < 0)).bind fun _ =>
      some (Stp.next ((bor .u32 v0 (bshl .u32 1 (iw (v1 + 1)))), (iw (v1 + 1))))
     else
      some (Stp.next (v0, (iw (v1 + 1)))))
  else
   some (Stp.done v0))
def pClosure (N : Nat) (pattern : (List UInt8)) (vset : Int) : Option Int :=
 (loopM (pClosure_b1 N pattern) N (vset, 0)).bind fun ss =>
  match ss with
  | v0 =>
   some v0
def pBegin (N : Nat) (t : TTest) : Option Int :=
 (if (t.Kind : Int) = 1 then
  (pClosure N t.Text 1).bind fun r7 =>
  some r7
 else
  some 0)
def pNext_b1 (N : Nat) (c : Int) (s : Int) (t : TTest) : (Int × Int) → Option (Stp (Int × Int) Int)
 | (v0, v1) =>
  (if (v1 : Int) < (List.length t.Text : Int) then
   (chk (¬ (v1 : Int) < 0)).bind fun _ =>
   (if ((band .u32 (bshr .u32 s v1) 1) : Int) = 0 then
    some (Stp.next (v0, (iw (v1 + 1))))
   else
    (idx t.Text v1).bind fun v2 =>
    (if ((UInt8.toNat v2 : Int) : Int) = 37 then
     (chk (¬ (v1 : Int) < 0)).bind fun _ =>
     some (Stp.next ((bor .u32 v0 (bshl .u32 1 v1)), (iw (v1 + 1))))
    else
     (((if ((UInt8.toNat v2 : Int) : Int) = 95 then
      some true
     else
      some (decide (((UInt8.toNat v2 : Int) : Int) = c))) : Option Bool)).bind fun ss =>
      match ss with
      | v3 =>
       (if v3 = true then
        (chk (¬ ((iw (v1 + 1)) : Int) < 0)).bind fun _ =>
        some (Stp.next ((bor .u32 v0 (bshl .u32 1 (iw (v1 + 1)))), (iw (v1 + 1))))
       else
        some (Stp.next (v0, (iw (v1 + 1)))))))
  else
   some (Stp.done v0))
def pNext (N : Nat) (t : TTest) (s : Int) (c : Int) : Option Int :=
 (if (t.Kind : Int) = 1 then
  (loopM (pNext_b1 N c s t) N (0, 0)).bind fun ss =>
   match ss with
   | v0 =>
    (pClosure N t.Text v0).bind fun v1 =>
    some v1
 else
  (if (s : Int) ≥ 100 then
   some s
  else
   (((if ((iw s) : Int) = (List.length t.Text : Int) then
    some true
   else
    (idx t.Text s).bind fun v2 =>
    some (decide ((c : Int) > (UInt8.toNat v2 : Int)))) : Option Bool)).bind fun ss =>
    match ss with
    | v3 =>
     (if v3 = true then
      some 101
     else
      (idx t.Text s).bind fun v4 =>
      (if (c : Int) < (UInt8.toNat v4 : Int) then
       some 100
      else
       some (uw32 (s + 1))))))
def pPassed (N : Nat) (t : TTest) (s : Int) : Option Bool :=
 (((if (t.Kind : Int) = 1 then
  (chk (¬ ((List.length t.Text : Int) : Int) < 0)).bind fun _ =>
  some (decide (((band .u32 (bshr .u32 s (List.length t.Text : Int)) 1) : Int) = 1))
 else
  (if (t.Kind : Int) = 0 then
   some (decide (((iw s) : Int) = (List.length t.Text : Int)))
  else
   (if (t.Kind : Int) = 2 then
    (if (s : Int) = 100 then
     some true
    else
     some (decide (((iw s) : Int) < (List.length t.Text : Int))))
   else
    (if (s : Int) = 100 then
     some true
    else
     some (decide (((iw s) : Int) ≤ (List.length t.Text : Int))))))) : Option Bool)).bind fun ss =>
  match ss with
  | v0 =>
   some (!(v0 == t.Negated))
def pPasses_b1 (N : Nat) (t : TTest) (text : (List UInt8)) : (Int × Int) → Option (Stp (Int × Int) Int)
 | (v0, v1) =>
  (if (v1 : Int) < (List.length (sby text) : Int) then
   (idx (sby text) v1).bind fun v2 =>
   (pNext N t v0 v2).bind fun v3 =>
   some (Stp.next (v3, (iw (v1 + 1))))
  else
   some (Stp.done v0))
def pPasses (N : Nat) (t : TTest) (text : (List UInt8)) : Option Bool :=
 (pBegin N t).bind fun r6 =>
 (loopM (pPasses_b1 N t text) N (r6, 0)).bind fun ss =>
  match ss with
  | v0 =>
   (pPassed N t v0).bind fun v1 =>
   some v1
def pKey_b1 (N : Nat) (l : (List Int)) : ((List Int) × Int) → Option (Stp ((List Int) × Int) (List Int))
 | (v0, v1) =>
  (if (v1 : Int) < (List.length l : Int) then
   (idx l v1).bind fun v2 =>
   (apnd 1 v0 [(uw8 v2), (uw8 (bshr .u32 v2 8)), (uw8 (bshr .u32 v2 16))]).bind fun v3 =>
   some (Stp.next (v3, (iw (v1 + 1))))
  else
   some (Stp.done v0))
def pKey (N : Nat) (l : (List Int)) (left : Int) : Option (List UInt8) :=
 (loopM (pKey_b1 N l) N ([(uw8 left)], 0)).bind fun ss =>
  match ss with
  | v0 =>
   some (bstr v0)
def pFind_b1 (N : Nat) (f : TFinder) (l : (List Int)) : Int → Option (Stp Int (Sum Unit (Bool × (List (List UInt8)) × (List ((List UInt8) × Bool)))))
 | v0 =>
  (if (v0 : Int) < (List.length f.tests : Int) then
   (idx f.tests v0).bind fun v1 =>
   (idx l v0).bind fun v2 =>
   (pPassed N v1 v2).bind fun v3 =>
   (if (!v3) = true then
    some (Stp.done (Sum.inr (false, f.out, f.dead)))
   else
    some (Stp.next (iw (v0 + 1))))
  else
   some (Stp.done (Sum.inl ())))
def pFind_b3 (N : Nat) (f : TFinder) (l : (List Int)) (v0 : Int) : ((List Int) × Int) → Option (Stp ((List Int) × Int) (List Int))
 | (v1, v2) =>
  (if (v2 : Int) < (List.length f.tests : Int) then
   (idx f.tests v2).bind fun v3 =>
   (idx l v2).bind fun v4 =>
   (pNext N v3 v4 (uw8 v0)).bind fun v5 =>
   (idx v1 v2).bind fun v6 =>
   (upd1 v1 v2 v5).bind fun v7 =>
   some (Stp.next (v7, (iw (v2 + 1))))
  else
   some (Stp.done v1))
def pFind_b2 (N : Nat) (self : TFinder → (List Int) → (List Int) → Int → Option (Bool × (List (List UInt8)) × (List ((List UInt8) × Bool)))) (f : TFinder) (l : (List Int)) (left : Int) (text : (List Int)) : ((List (List UInt8)) × (List ((List UInt8) × Bool)) × Bool × Int) → Option (Stp ((List (List UInt8)) × (List ((List UInt8) × Bool)) × Bool × Int) ((List (List UInt8)) × (List ((List UInt8) × Bool)) × Bool))
 | (v0, v1, v2, v3) =>
  (((if (v3 : Int) ≤ 126 then
   some (decide (((List.length v0 : Int) : Int) < f.most))
  else
   some false) : Option Bool)).bind fun ss =>
   match ss with
   | v4 =>
    (if v4 = true then
     (mk1 (α := Int) 4 0 (List.length l : Int)).bind fun v5 =>
     (loopM (pFind_b3 N f l v3) N (v5, 0)).bind fun ss =>
      match ss with
      | v6 =>
       (apnd 1 text [(uw8 v3)]).bind fun v7 =>
       (self (TFinder.mk f.tests f.most v0 v1) v6 v7 (iw (left - 1))).bind fun v8 =>
       (if v8.1 = true then
        some (Stp.next (v8.2.1, v8.2.2, true, (iw32 (v3 + 1))))
       else
        some (Stp.next (v8.2.1, v8.2.2, v2, (iw32 (v3 + 1)))))
    else
     some (Stp.done (v0, v1, v2)))
def pFind_step (N : Nat) (self : TFinder → (List Int) → (List Int) → Int → Option (Bool × (List (List UInt8)) × (List ((List UInt8) × Bool)))) (f : TFinder) (l : (List Int)) (text : (List Int)) (left : Int) : Option (Bool × (List (List UInt8)) × (List ((List UInt8) × Bool))) :=
 (if (left : Int) = 0 then
  (loopM (pFind_b1 N f l) N 0).bind fun ss =>
   match ss with
   | (Sum.inl _) =>
    (apnd 16 f.out [(bstr text)]).bind fun v0 =>
    some (true, v0, f.dead)
   | (Sum.inr v1) => some v1
 else
  (pKey N l left).bind fun v2 =>
  (if (mget f.dead v2 false).1 = true then
   some (false, f.out, f.dead)
  else
   (loopM (pFind_b2 N self f l left text) N (f.out, f.dead, false, 32)).bind fun ss =>
    match ss with
    | (v3, v4, v5) =>
     (if (!v5) = true then
      some (v5, v3, (mput v4 v2 true))
     else
      some (v5, v3, v4))))
def pFind : Nat → TFinder → (List Int) → (List Int) → Int → Option (Bool × (List (List UInt8)) × (List ((List UInt8) × Bool)))
 | 0 => fun _ _ _ _ => none
 | N + 1 => pFind_step N (pFind N)
def pWords_b1 (N : Nat) (l : (List TTest)) (length : Int) : ((List Int) × Int) → Option (Stp ((List Int) × Int) (List Int))
 | (v0, v1) =>
  (if (v1 : Int) < (List.length l : Int) then
   (idx l v1).bind fun v2 =>
   (pBegin N v2).bind fun v3 =>
   (apnd 4 v0 [v3]).bind fun v4 =>
   some (Stp.next (v4, (iw (v1 + 1))))
  else
   some (Stp.done v0))
def pWords (N : Nat) (l : (List TTest)) (length : Int) (most : Int) : Option (List (List UInt8)) :=
 (((if (length : Int) < 0 then
  some true
 else
  some (decide ((most : Int) ≤ 0))) : Option Bool)).bind fun ss =>
  match ss with
  | x2 =>
   (if x2 = true then
    some ([] : (List (List UInt8)))
   else
    (((loopM (pWords_b1 N l length) N (([] : (List Int)), 0)).bind fun ss =>
     match ss with
     | v0 =>
      some v0 : Option (List Int))).bind fun ss =>
     match ss with
     | v1 =>
      (pFind N (TFinder.mk l most ([] : (List (List UInt8))) ([] : (List ((List UInt8) × Bool)))) v1 ([] : (List Int)) length).bind fun v2 =>
      some v2.2.1)
end Go.D

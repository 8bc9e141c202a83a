/- Plain counterparts, written by a program of mine (wip/tool). -/
import Derived.Test.YtaakoedphmeenaaT22
import Derived.Test.YtaakoedphmeenaaPA
import Derived.Test.YtaakoedphmeenaaPR
set_option linter.unusedVariables false
set_option linter.unusedSimpArgs false
namespace Go.D
open Go Go.X
def indexInt_b1 (N : Nat) (f : (Int → Option Bool)) (s : (List Int)) : Int → Option (Stp Int (Sum Unit Int))
 | v0 =>
  (if (v0 : Int) < (List.length s : Int) then
   (idx s v0).bind fun v1 =>
   (f v1).bind fun v2 =>
   (if v2 = true then
    some (Stp.done (Sum.inr v0))
   else
    some (Stp.next (iw (v0 + 1))))
  else
   some (Stp.done (Sum.inl ())))
def indexInt (N : Nat) (s : (List Int)) (f : (Int → Option Bool)) : Option Int :=
 (loopM (indexInt_b1 N f s) N 0).bind fun ss =>
  match ss with
  | (Sum.inl _) =>
   some (-1)
  | (Sum.inr v0) => some v0
def containsInt (N : Nat) (s : (List Int)) (f : (Int → Option Bool)) : Option Bool :=
 (indexInt N s f).bind fun r1 =>
 some (decide ((r1 : Int) ≥ 0))
def tSatisfies_b2 (N : Nat) (v0 : (List UInt8)) : Int → Option (Stp Int (Sum Unit Bool))
 | v1 =>
  (if (v1 : Int) < (List.length v0 : Int) then
   (((idx v0 v1).bind fun v2 =>
   (if ((UInt8.toNat v2 : Int) : Int) < 32 then
    some true
   else
    (idx v0 v1).bind fun v3 =>
    some (decide (((UInt8.toNat v3 : Int) : Int) > 126))) : Option Bool)).bind fun ss =>
    match ss with
    | v4 =>
     (if v4 = true then
      some (Stp.done (Sum.inr false))
     else
      some (Stp.next (iw (v1 + 1))))
  else
   some (Stp.done (Sum.inl ())))
def tSatisfies_b1 (N : Nat) (p : TProb) (texts : (List (List UInt8))) : Int → Option (Stp Int (Sum Unit Bool))
 | v0 =>
  (if (v0 : Int) < (List.length texts : Int) then
   (idx texts v0).bind fun v1 =>
   (((idx p.Min v0).bind fun v2 =>
   (if ((List.length v1 : Int) : Int) < v2 then
    some true
   else
    (idx p.Max v0).bind fun v3 =>
    some (decide (((List.length v1 : Int) : Int) > v3))) : Option Bool)).bind fun ss =>
    match ss with
    | v4 =>
     (if v4 = true then
      some (Stp.done (Sum.inr false))
     else
      (loopM (tSatisfies_b2 N v1) N 0).bind fun ss =>
       match ss with
       | (Sum.inl _) =>
        some (Stp.next (iw (v0 + 1)))
       | (Sum.inr v5) => some (Stp.done (Sum.inr v5)))
  else
   some (Stp.done (Sum.inl ())))
def tSatisfies_b3 (N : Nat) (p : TProb) (texts : (List (List UInt8))) : Int → Option (Stp Int (Sum Unit Bool))
 | v0 =>
  (if (v0 : Int) < (List.length p.Tests : Int) then
   (idx p.Tests v0).bind fun v1 =>
   (idx texts v1.Var).bind fun v2 =>
   (pPasses N v1 v2).bind fun v3 =>
   (if (!v3) = true then
    some (Stp.done (Sum.inr false))
   else
    some (Stp.next (iw (v0 + 1))))
  else
   some (Stp.done (Sum.inl ())))
def tSatisfies_b4 (N : Nat) (p : TProb) (texts : (List (List UInt8))) : Int → Option (Stp Int (Sum Unit Bool))
 | v0 =>
  (if (v0 : Int) < (List.length p.Same : Int) then
   (idx p.Same v0).bind fun v1 =>
   (idx texts v1.e0).bind fun v2 =>
   (idx texts v1.e1).bind fun v3 =>
   (if ¬ v2 = v3 then
    some (Stp.done (Sum.inr false))
   else
    some (Stp.next (iw (v0 + 1))))
  else
   some (Stp.done (Sum.inl ())))
def tSatisfies_b5 (N : Nat) (p : TProb) (texts : (List (List UInt8))) : Int → Option (Stp Int (Sum Unit Bool))
 | v0 =>
  (if (v0 : Int) < (List.length p.Different : Int) then
   (idx p.Different v0).bind fun v1 =>
   (idx texts v1.e0).bind fun v2 =>
   (idx texts v1.e1).bind fun v3 =>
   (if v2 = v3 then
    some (Stp.done (Sum.inr false))
   else
    some (Stp.next (iw (v0 + 1))))
  else
   some (Stp.done (Sum.inl ())))
def tSatisfies (N : Nat) (p : TProb) (texts : (List (List UInt8))) : Option Bool :=
 (if ((List.length texts : Int) : Int) ≠ (List.length p.Min : Int) then
  some false
 else
  (loopM (tSatisfies_b1 N p texts) N 0).bind fun ss =>
   match ss with
   | (Sum.inl _) =>
    (loopM (tSatisfies_b3 N p texts) N 0).bind fun ss =>
     match ss with
     | (Sum.inl _) =>
      (loopM (tSatisfies_b4 N p texts) N 0).bind fun ss =>
       match ss with
       | (Sum.inl _) =>
        (loopM (tSatisfies_b5 N p texts) N 0).bind fun ss =>
         match ss with
         | (Sum.inl _) =>
          some true
         | (Sum.inr v0) => some v0
       | (Sum.inr v1) => some v1
     | (Sum.inr v2) => some v2
   | (Sum.inr v3) => some v3)
def tclasses_b1 (N : Nat) (x8 : (List Int)) : ((List Int) × Int) → Option (Stp ((List Int) × Int) (List Int))
 | (v0, v1) =>
  (if (v1 : Int) < (List.length x8 : Int) then
   (idx v0 v1).bind fun v2 =>
   (upd1 v0 v1 v1).bind fun v3 =>
   some (Stp.next (v3, (iw (v1 + 1))))
  else
   some (Stp.done v0))
def tclasses_b3 (N : Nat) (p : TProb) : ((List Int) × Bool × Int) → Option (Stp ((List Int) × Bool × Int) ((List Int) × Bool))
 | (v0, v1, v2) =>
  (if (v2 : Int) < (List.length p.Same : Int) then
   (idx p.Same v2).bind fun v3 =>
   (idx v0 v3.e0).bind fun v4 =>
   (idx v0 v3.e1).bind fun v5 =>
   (if (v4 : Int) ≠ v5 then
    (idx v0 v3.e0).bind fun v6 =>
    (idx v0 v3.e1).bind fun v7 =>
    (upd1 v0 v3.e0 (imin v4 v5)).bind fun v8 =>
    (idx v8 v3.e1).bind fun v9 =>
    (upd1 v8 v3.e1 (imin v4 v5)).bind fun v10 =>
    some (Stp.next (v10, true, (iw (v2 + 1))))
   else
    some (Stp.next (v0, v1, (iw (v2 + 1)))))
  else
   some (Stp.done (v0, v1)))
def tclasses_b2 (N : Nat) (p : TProb) : ((List Int) × Bool) → Option (Stp ((List Int) × Bool) (List Int))
 | (v0, v1) =>
  (if v1 = true then
   (loopM (tclasses_b3 N p) N (v0, false, 0)).bind fun ss =>
    match ss with
    | (v2, v3) =>
     some (Stp.next (v2, v3))
  else
   some (Stp.done v0))
def tclasses_b4 (N : Nat) (v0 : (List Int)) : ((List Int) × Int × Int) → Option (Stp ((List Int) × Int × Int) ((List Int) × Int))
 | (v1, v2, v3) =>
  (if (v3 : Int) < (List.length v0 : Int) then
   (idx v0 v3).bind fun v4 =>
   (if (v4 : Int) = v3 then
    (idx v1 v3).bind fun v5 =>
    (upd1 v1 v3 v2).bind fun v6 =>
    some (Stp.next (v6, (iw (v2 + 1)), (iw (v3 + 1))))
   else
    (idx v1 v4).bind fun v7 =>
    (idx v1 v3).bind fun v8 =>
    (upd1 v1 v3 v7).bind fun v9 =>
    some (Stp.next (v9, v2, (iw (v3 + 1)))))
  else
   some (Stp.done (v1, v2)))
def tclasses (N : Nat) (p : TProb) : Option ((List Int) × Int) :=
 (mk1 (α := Int) 8 0 (List.length p.Min : Int)).bind fun x8 =>
 (loopM (tclasses_b1 N x8) N (x8, 0)).bind fun ss =>
  match ss with
  | v0 =>
   (loopM (tclasses_b2 N p) N (v0, true)).bind fun ss =>
    match ss with
    | v1 =>
     (mk1 (α := Int) 8 0 (List.length v1 : Int)).bind fun v2 =>
     (loopM (tclasses_b4 N v1) N (v2, 0, 0)).bind fun ss =>
      match ss with
      | (v3, v4) =>
       some (v3, v4)
def tClasses_b1 (N : Nat) (r6 : ((List Int) × Int)) : ((List (List Int)) × Int) → Option (Stp ((List (List Int)) × Int) (List (List Int)))
 | (v0, v1) =>
  (if (v1 : Int) < (List.length r6.1 : Int) then
   (idx r6.1 v1).bind fun v2 =>
   (idx v0 v2).bind fun v3 =>
   (apnd 8 v3 [v1]).bind fun v4 =>
   (idx v0 v2).bind fun v5 =>
   (upd1 v0 v2 v4).bind fun v6 =>
   some (Stp.next (v6, (iw (v1 + 1))))
  else
   some (Stp.done v0))
def tClasses (N : Nat) (p : TProb) : Option (List (List Int)) :=
 (tclasses N p).bind fun r6 =>
 (mk1 (α := (List Int)) 24 [] r6.2).bind fun v0 =>
 (loopM (tClasses_b1 N r6) N (v0, 0)).bind fun ss =>
  match ss with
  | v1 =>
   some v1
def indexOf_b1 (N : Nat) (pb : Int) (s : (List Int)) : Int → Option (Stp Int (Sum Unit Int))
 | v0 =>
  (if (v0 : Int) < (List.length s : Int) then
   (idx s v0).bind fun v1 =>
   (if (pb : Int) = v1 then
    some (Stp.done (Sum.inr v0))
   else
    some (Stp.next (iw (v0 + 1))))
  else
   some (Stp.done (Sum.inl ())))
def indexOf (N : Nat) (s : (List Int)) (pb : Int) : Option Int :=
 (loopM (indexOf_b1 N pb s) N 0).bind fun ss =>
  match ss with
  | (Sum.inl _) =>
   some (-1)
  | (Sum.inr v0) => some v0
def containsOf (N : Nat) (s : (List Int)) (pb : Int) : Option Bool :=
 (indexOf N s pb).bind fun r1 =>
 some (decide ((r1 : Int) ≥ 0))
def cloneTest (N : Nat) (s : (List TTest)) : Option (List TTest) :=
 (apnd 40 ([] : (List TTest)) s).bind fun v0 =>
 some v0
def tgathered_b1 (N : Nat) (v0 : (List TClass)) : ((List TClass) × Int) → Option (Stp ((List TClass) × Int) (List TClass))
 | (v1, v2) =>
  (if (v2 : Int) < (List.length v0 : Int) then
   (idx v1 v2).bind fun v3 =>
   (upd1 v1 v2 (TClass.mk v3.low 16 v3.tests v3.words v3.apart)).bind fun v4 =>
   some (Stp.next (v4, (iw (v2 + 1))))
  else
   some (Stp.done v1))
def tgathered_b2 (N : Nat) (p : TProb) (r6 : ((List Int) × Int)) : ((List TClass) × Int) → Option (Stp ((List TClass) × Int) (List TClass))
 | (v0, v1) =>
  (if (v1 : Int) < (List.length r6.1 : Int) then
   (idx r6.1 v1).bind fun v2 =>
   (idx v0 v2).bind fun v3 =>
   (idx p.Min v1).bind fun v4 =>
   (idx v0 v2).bind fun v5 =>
   (idx p.Max v1).bind fun v6 =>
   (idx v0 v2).bind fun v7 =>
   (idx v0 v2).bind fun v8 =>
   (upd1 v0 v2 (TClass.mk (imax v3.low v4) v7.high v7.tests v7.words v7.apart)).bind fun v9 =>
   (idx v9 v2).bind fun v10 =>
   (upd1 v9 v2 (TClass.mk v10.low (imin v5.high v6) v10.tests v10.words v10.apart)).bind fun v11 =>
   some (Stp.next (v11, (iw (v1 + 1))))
  else
   some (Stp.done v0))
def tgathered_b3 (N : Nat) (p : TProb) (r6 : ((List Int) × Int)) : ((List TClass) × Int) → Option (Stp ((List TClass) × Int) (List TClass))
 | (v0, v1) =>
  (if (v1 : Int) < (List.length p.Tests : Int) then
   (idx p.Tests v1).bind fun v2 =>
   (idx r6.1 v2.Var).bind fun v3 =>
   (idx v0 v3).bind fun v4 =>
   (idx v0 v3).bind fun v5 =>
   (apnd 40 v4.tests [v2]).bind fun v6 =>
   (upd1 v0 v3 (TClass.mk v5.low v5.high v6 v5.words v5.apart)).bind fun v7 =>
   some (Stp.next (v7, (iw (v1 + 1))))
  else
   some (Stp.done v0))
def tgathered_b4 (N : Nat) (p : TProb) (r6 : ((List Int) × Int)) : ((List TClass) × Int) → Option (Stp ((List TClass) × Int) (Sum (List TClass) ((List TClass) × (List Int) × Bool)))
 | (v0, v1) =>
  (if (v1 : Int) < (List.length p.Different : Int) then
   (idx p.Different v1).bind fun v2 =>
   (idx r6.1 v2.e0).bind fun v3 =>
   (idx r6.1 v2.e1).bind fun v4 =>
   (if (v3 : Int) = v4 then
    some (Stp.done (Sum.inr (v0, r6.1, false)))
   else
    (idx v0 v3).bind fun v5 =>
    (containsOf N v5.apart v4).bind fun v6 =>
    (if (!v6) = true then
     (idx v0 v3).bind fun v7 =>
     (idx v0 v4).bind fun v8 =>
     (apnd 8 v7.apart [v4]).bind fun v9 =>
     (apnd 8 v8.apart [v3]).bind fun v10 =>
     (idx v0 v3).bind fun v11 =>
     (upd1 v0 v3 (TClass.mk v11.low v11.high v11.tests v11.words v9)).bind fun v12 =>
     (idx v12 v4).bind fun v13 =>
     (upd1 v12 v4 (TClass.mk v13.low v13.high v13.tests v13.words v10)).bind fun v14 =>
     some (Stp.next (v14, (iw (v1 + 1))))
    else
     some (Stp.next (v0, (iw (v1 + 1))))))
  else
   some (Stp.done (Sum.inl v0)))
def tgathered (N : Nat) (p : TProb) : Option ((List TClass) × (List Int) × Bool) :=
 (tclasses N p).bind fun r6 =>
 (mk1 (α := TClass) 88 (TClass.mk 0 0 [] [] []) r6.2).bind fun v0 =>
 (loopM (tgathered_b1 N v0) N (v0, 0)).bind fun ss =>
  match ss with
  | v1 =>
   (loopM (tgathered_b2 N p r6) N (v1, 0)).bind fun ss =>
    match ss with
    | v2 =>
     (loopM (tgathered_b3 N p r6) N (v2, 0)).bind fun ss =>
      match ss with
      | v3 =>
       (loopM (tgathered_b4 N p r6) N (v3, 0)).bind fun ss =>
        match ss with
        | (Sum.inl v4) =>
         some (v4, r6.1, true)
        | (Sum.inr v5) => some v5
def tfirst_b2 (N : Nat) (c : TClass) (most : Int) (v0 : Int) : ((List (List UInt8)) × (List TTest)) → Option (Stp ((List (List UInt8)) × (List TTest)) (List (List UInt8)))
 | (v1, v2) =>
  (if ((List.length v1 : Int) : Int) < most then
   (pWords N v2 v0 (imin 100 (iw (most - (List.length v1 : Int))))).bind fun v3 =>
   (apnd 16 v1 v3).bind fun v4 =>
   (if ((List.length v3 : Int) : Int) < 100 then
    some (Stp.done v4)
   else
    (cloneTest N c.tests).bind fun v5 =>
    (idx v3 (iw ((List.length v3 : Int) - 1))).bind fun v6 =>
    (apnd 40 v5 [(TTest.mk 0 3 true v6)]).bind fun v7 =>
    some (Stp.next (v4, v7)))
  else
   some (Stp.done v1))
def tfirst_b1 (N : Nat) (c : TClass) (most : Int) : ((List (List UInt8)) × Int) → Option (Stp ((List (List UInt8)) × Int) (List (List UInt8)))
 | (v0, v1) =>
  (((if (v1 : Int) ≤ c.high then
   some (decide (((List.length v0 : Int) : Int) < most))
  else
   some false) : Option Bool)).bind fun ss =>
   match ss with
   | v2 =>
    (if v2 = true then
     (cloneTest N c.tests).bind fun v3 =>
     (loopM (tfirst_b2 N c most v1) N (v0, v3)).bind fun ss =>
      match ss with
      | v4 =>
       some (Stp.next (v4, (iw (v1 + 1))))
    else
     some (Stp.done v0))
def tfirst (N : Nat) (c : TClass) (most : Int) : Option (List (List UInt8)) :=
 (loopM (tfirst_b1 N c most) N (([] : (List (List UInt8))), c.low)).bind fun ss =>
  match ss with
  | v0 =>
   some v0
def tLengths_b1 (N : Nat) (v0 : TClass) : ((List Int) × Int) → Option (Stp ((List Int) × Int) (List Int))
 | (v1, v2) =>
  (if (v2 : Int) ≤ v0.high then
   (pWords N v0.tests v2 1).bind fun v3 =>
   (if ((List.length v3 : Int) : Int) > 0 then
    (apnd 8 v1 [v2]).bind fun v4 =>
    some (Stp.next (v4, (iw (v2 + 1))))
   else
    some (Stp.next (v1, (iw (v2 + 1)))))
  else
   some (Stp.done v1))
def tLengths (N : Nat) (p : TProb) (pb : Int) : Option (List Int) :=
 (((if (pb : Int) < 0 then
  some true
 else
  some (decide ((pb : Int) ≥ (List.length p.Min : Int)))) : Option Bool)).bind fun ss =>
  match ss with
  | x9 =>
   (if x9 = true then
    some ([] : (List Int))
   else
    (tgathered N p).bind fun v0 =>
    (idx v0.2.1 pb).bind fun v1 =>
    (idx v0.1 v1).bind fun v2 =>
    (loopM (tLengths_b1 N v2) N (([] : (List Int)), v2.low)).bind fun ss =>
     match ss with
     | v3 =>
      some v3)
def revInt_b1 (N : Nat)  : ((List Int) × Int × Int) → Option (Stp ((List Int) × Int × Int) (List Int))
 | (v0, v1, v2) =>
  (if (v1 : Int) < v2 then
   (idx v0 v2).bind fun v3 =>
   (idx v0 v1).bind fun v4 =>
   (idx v0 v1).bind fun v5 =>
   (upd1 v0 v1 v3).bind fun v6 =>
   (idx v6 v2).bind fun v7 =>
   (upd1 v6 v2 v4).bind fun v8 =>
   some (Stp.next (v8, (iw (v1 + 1)), (iw (v2 - 1))))
  else
   some (Stp.done v0))
def revInt (N : Nat) (s : (List Int)) : Option (List Int) :=
 (loopM (revInt_b1 N ) N (s, 0, (iw ((List.length s : Int) - 1)))).bind fun ss =>
  match ss with
  | v0 =>
   some v0
def tchoose1 (N : Nat) (other : Int) (ca : (List Bool)) (cb : (List (List UInt8))) (cc : (List UInt8)) : Option Bool :=
 (idx ca other).bind fun x1 =>
 (if x1 = true then
  (idx cb other).bind fun v0 =>
  some (decide (v0 = cc))
 else
  some false)
def tchoose_b1 (N : Nat) (self : (List TClass) → (List Int) → (List (List UInt8)) → (List Bool) → Option (Bool × Bool × (List (List UInt8)) × (List Bool))) (l : (List TClass)) (order : (List Int)) (words : (List (List UInt8))) (v0 : Int) (v1 : TClass) : ((List (List UInt8)) × (List Bool) × Int) → Option (Stp ((List (List UInt8)) × (List Bool) × Int) (Sum ((List (List UInt8)) × (List Bool)) (Bool × Bool × (List (List UInt8)) × (List Bool))))
 | (v2, v3, v4) =>
  (if (v4 : Int) < (List.length v1.words : Int) then
   (idx v1.words v4).bind fun v5 =>
   (idx l v0).bind fun v6 =>
   (containsInt N v6.apart (fun v7 => tchoose1 N v7 v3 v2 v5)).bind fun v8 =>
   (if v8 = true then
    some (Stp.next (v2, v3, (iw (v4 + 1))))
   else
    (idx v2 v0).bind fun v9 =>
    (upd1 v2 v0 v5).bind fun v10 =>
    (cut order 1 (List.length order : Int)).bind fun v11 =>
    (self l v11 v10 v3).bind fun v12 =>
    (if v12.2.1 = true then
     some (Stp.done (Sum.inr (v12.1, true, v12.2.2.1, v12.2.2.2)))
    else
     some (Stp.next (v12.2.2.1, v12.2.2.2, (iw (v4 + 1))))))
  else
   some (Stp.done (Sum.inl (v2, v3))))
def tchoose_step (N : Nat) (self : (List TClass) → (List Int) → (List (List UInt8)) → (List Bool) → Option (Bool × Bool × (List (List UInt8)) × (List Bool))) (l : (List TClass)) (order : (List Int)) (words : (List (List UInt8))) (known : (List Bool)) : Option (Bool × Bool × (List (List UInt8)) × (List Bool)) :=
 (if ((List.length order : Int) : Int) = 0 then
  some (true, true, words, known)
 else
  (idx order 0).bind fun v0 =>
  (idx known v0).bind fun v1 =>
  (upd1 known v0 true).bind fun v2 =>
  (idx l v0).bind fun v3 =>
  (loopM (tchoose_b1 N self l order words v0 v3) N (words, v2, 0)).bind fun ss =>
   match ss with
   | (Sum.inl (v4, v5)) =>
    (idx v5 v0).bind fun v6 =>
    (upd1 v5 v0 false).bind fun v7 =>
    some (false, false, v4, v7)
   | (Sum.inr v8) => some v8)
def tchoose : Nat → (List TClass) → (List Int) → (List (List UInt8)) → (List Bool) → Option (Bool × Bool × (List (List UInt8)) × (List Bool))
 | 0 => fun _ _ _ _ => none
 | N + 1 => tchoose_step N (tchoose N)
def insSort_b2 (N : Nat) (a : Int) (cmp : (Int → Int → Option Int)) : ((List Int) × Int) → Option (Stp ((List Int) × Int) (List Int))
 | (v0, v1) =>
  (((if (v1 : Int) > a then
   (idx v0 v1).bind fun v2 =>
   (idx v0 (iw (v1 - 1))).bind fun v3 =>
   (cmp v2 v3).bind fun v4 =>
   some (decide ((v4 : Int) < 0))
  else
   some false) : Option Bool)).bind fun ss =>
   match ss with
   | v5 =>
    (if v5 = true then
     (idx v0 (iw (v1 - 1))).bind fun v6 =>
     (idx v0 v1).bind fun v7 =>
     (idx v0 v1).bind fun v8 =>
     (idx v0 (iw (v1 - 1))).bind fun v9 =>
     (upd1 v0 v1 v6).bind fun v10 =>
     (idx v10 (iw (v1 - 1))).bind fun v11 =>
     (upd1 v10 (iw (v1 - 1)) v7).bind fun v12 =>
     some (Stp.next (v12, (iw (v1 - 1))))
    else
     some (Stp.done v0))
def insSort_b1 (N : Nat) (a : Int) (b : Int) (cmp : (Int → Int → Option Int)) : ((List Int) × Int) → Option (Stp ((List Int) × Int) (List Int))
 | (v0, v1) =>
  (if (v1 : Int) < b then
   (loopM (insSort_b2 N a cmp) N (v0, v1)).bind fun ss =>
    match ss with
    | v2 =>
     some (Stp.next (v2, (iw (v1 + 1))))
  else
   some (Stp.done v0))
def insSort (N : Nat) (data : (List Int)) (a : Int) (b : Int) (cmp : (Int → Int → Option Int)) : Option (List Int) :=
 (loopM (insSort_b1 N a b cmp) N (data, (iw (a + 1)))).bind fun ss =>
  match ss with
  | v0 =>
   some v0
def stableSort_b1 (N : Nat) (cmp : (Int → Int → Option Int)) (n : Int) : ((List Int) × Int × Int) → Option (Stp ((List Int) × Int × Int) ((List Int) × Int))
 | (v0, v1, v2) =>
  (if (v2 : Int) ≤ n then
   (insSort N v0 v1 v2 cmp).bind fun v3 =>
   some (Stp.next (v3, v2, (iw (v2 + 20))))
  else
   some (Stp.done (v0, v1)))
def stableSort_b3 (N : Nat) (n : Int) (v0 : Int) : Unit → Option (Stp Unit Unit)
 | _ =>
  (if ((iw (2 * v0)) : Int) ≤ n then
   none
  else
   some (Stp.done ()))
def stableSort_b2 (N : Nat) (n : Int) : Int → Option (Stp Int Unit)
 | v0 =>
  (if (v0 : Int) < n then
   (loopM (stableSort_b3 N n v0) N ()).bind fun ss =>
    match ss with
    | _ =>
     (if ((iw (0 + v0)) : Int) < n then
      none
     else
      some (Stp.next (iw (v0 * 2))))
  else
   some (Stp.done ()))
def stableSort (N : Nat) (data : (List Int)) (n : Int) (cmp : (Int → Int → Option Int)) : Option (List Int) :=
 (loopM (stableSort_b1 N cmp n) N (data, 0, 20)).bind fun ss =>
  match ss with
  | (v0, v1) =>
   (insSort N v0 v1 n cmp).bind fun v2 =>
   (loopM (stableSort_b2 N n) N 20).bind fun ss =>
    match ss with
    | _ =>
     some v2
def sortStable (N : Nat) (x : (List Int)) (cmp : (Int → Int → Option Int)) : Option (List Int) :=
 (stableSort N x (List.length x : Int) cmp).bind fun r2 =>
 some r2
def tSolve1 (N : Nat) (a : Int) (b : Int) (ca : (List TClass)) : Option Int :=
 (idx ca a).bind fun x1 =>
 (idx ca b).bind fun v0 =>
 some (iw ((List.length x1.words : Int) - (List.length v0.words : Int)))
def tSolve_b1 (N : Nat) (r6 : ((List TClass) × (List Int) × Bool)) : ((List TClass) × Int) → Option (Stp ((List TClass) × Int) (Sum (List TClass) ((List (List UInt8)) × Bool)))
 | (v0, v1) =>
  (if (v1 : Int) < (List.length r6.1 : Int) then
   (idx v0 v1).bind fun v2 =>
   (idx v0 v1).bind fun v3 =>
   (tfirst N v2 (iw ((List.length v3.apart : Int) + 1))).bind fun v4 =>
   (idx v0 v1).bind fun v5 =>
   (upd1 v0 v1 (TClass.mk v5.low v5.high v5.tests v4 v5.apart)).bind fun v6 =>
   (idx v6 v1).bind fun v7 =>
   (if ((List.length v7.words : Int) : Int) = 0 then
    some (Stp.done (Sum.inr (([] : (List (List UInt8))), false)))
   else
    some (Stp.next (v6, (iw (v1 + 1)))))
  else
   some (Stp.done (Sum.inl v0)))
def tSolve_b2 (N : Nat) (v0 : (List TClass)) : ((List Int) × Int) → Option (Stp ((List Int) × Int) (List Int))
 | (v1, v2) =>
  (if (v2 : Int) < (List.length v0 : Int) then
   (idx v0 v2).bind fun v3 =>
   (idx v1 v2).bind fun v4 =>
   (upd1 v1 v2 (List.length v3.apart : Int)).bind fun v5 =>
   some (Stp.next (v5, (iw (v2 + 1))))
  else
   some (Stp.done v1))
def tSolve_b5 (N : Nat) (v0 : TClass) : ((List Int) × Int) → Option (Stp ((List Int) × Int) (List Int))
 | (v1, v2) =>
  (if (v2 : Int) < (List.length v0.apart : Int) then
   (idx v0.apart v2).bind fun v3 =>
   (idx v1 v3).bind fun v4 =>
   (idx v1 v3).bind fun v5 =>
   (upd1 v1 v3 (iw (v4 - 1))).bind fun v6 =>
   some (Stp.next (v6, (iw (v2 + 1))))
  else
   some (Stp.done v1))
def tSolve_b4 (N : Nat) (v0 : (List TClass)) : ((List Int) × (List Int) × (List Bool) × Bool × Int) → Option (Stp ((List Int) × (List Int) × (List Bool) × Bool × Int) ((List Int) × (List Int) × (List Bool) × Bool))
 | (v1, v2, v3, v4, v5) =>
  (if (v5 : Int) < (List.length v0 : Int) then
   (((idx v3 v5).bind fun v6 =>
   (if (!v6) = true then
    (idx v0 v5).bind fun v7 =>
    (idx v2 v5).bind fun v8 =>
    some (decide (((List.length v7.words : Int) : Int) > v8))
   else
    some false) : Option Bool)).bind fun ss =>
    match ss with
    | v9 =>
     (if v9 = true then
      (idx v3 v5).bind fun v10 =>
      (upd1 v3 v5 true).bind fun v11 =>
      (apnd 8 v1 [v5]).bind fun v12 =>
      (idx v0 v5).bind fun v13 =>
      (loopM (tSolve_b5 N v13) N (v2, 0)).bind fun ss =>
       match ss with
       | v14 =>
        some (Stp.next (v12, v14, v11, true, (iw (v5 + 1))))
     else
      some (Stp.next (v1, v2, v3, v4, (iw (v5 + 1)))))
  else
   some (Stp.done (v1, v2, v3, v4)))
def tSolve_b3 (N : Nat) (v0 : (List TClass)) : ((List Int) × (List Int) × (List Bool) × Bool) → Option (Stp ((List Int) × (List Int) × (List Bool) × Bool) ((List Int) × (List Bool)))
 | (v1, v2, v3, v4) =>
  (if v4 = true then
   (loopM (tSolve_b4 N v0) N (v1, v2, v3, false, 0)).bind fun ss =>
    match ss with
    | (v5, v6, v7, v8) =>
     some (Stp.next (v5, v6, v7, v8))
  else
   some (Stp.done (v1, v3)))
def tSolve_b6 (N : Nat) (v0 : (List TClass)) (v1 : (List Bool)) : ((List Int) × Int) → Option (Stp ((List Int) × Int) (List Int))
 | (v2, v3) =>
  (if (v3 : Int) < (List.length v0 : Int) then
   (idx v1 v3).bind fun v4 =>
   (if (!v4) = true then
    (apnd 8 v2 [v3]).bind fun v5 =>
    some (Stp.next (v5, (iw (v3 + 1))))
   else
    some (Stp.next (v2, (iw (v3 + 1)))))
  else
   some (Stp.done v2))
def tSolve_b7 (N : Nat) (r6 : ((List TClass) × (List Int) × Bool)) (v0 : (List (List UInt8))) : (Bool × (List (List UInt8)) × Int) → Option (Stp (Bool × (List (List UInt8)) × Int) (List (List UInt8)))
 | (v1, v2, v3) =>
  (if (v3 : Int) < (List.length r6.2.1 : Int) then
   (idx r6.2.1 v3).bind fun v4 =>
   (chk (v1 = true)).bind fun _ =>
   (idx v0 v4).bind fun v5 =>
   (idx v2 v3).bind fun v6 =>
   (upd1 v2 v3 v5).bind fun v7 =>
   some (Stp.next (v1, v7, (iw (v3 + 1))))
  else
   some (Stp.done v2))
def tSolve (N : Nat) (p : TProb) : Option ((List (List UInt8)) × Bool) :=
 (tgathered N p).bind fun r6 =>
 (if (!r6.2.2) = true then
  some (([] : (List (List UInt8))), false)
 else
  (loopM (tSolve_b1 N r6) N (r6.1, 0)).bind fun ss =>
   match ss with
   | (Sum.inl v0) =>
    (mk1 (α := Int) 8 0 (List.length v0 : Int)).bind fun v1 =>
    (mk1 (α := Bool) 1 false (List.length v0 : Int)).bind fun v2 =>
    (loopM (tSolve_b2 N v0) N (v1, 0)).bind fun ss =>
     match ss with
     | v3 =>
      (loopM (tSolve_b3 N v0) N (([] : (List Int)), v3, v2, true)).bind fun ss =>
       match ss with
       | (v4, v5) =>
        (loopM (tSolve_b6 N v0 v5) N (([] : (List Int)), 0)).bind fun ss =>
         match ss with
         | v6 =>
          (sortStable N v6 (fun v7 v8 => tSolve1 N v7 v8 v0)).bind fun v9 =>
          (revInt N v4).bind fun v10 =>
          (((apnd 8 v9 v10).bind fun v11 =>
          (mk1 (α := (List UInt8)) 16 [] (List.length v0 : Int)).bind fun v12 =>
          (mk1 (α := Bool) 1 false (List.length v0 : Int)).bind fun v13 =>
          (tchoose N v0 v11 v12 v13).bind fun v14 =>
          some (v14.2.2.1, v14.1, v14.2.1) : Option ((List (List UInt8)) × Bool × Bool))).bind fun ss =>
           match ss with
           | (v15, v16, v17) =>
            (if (!v17) = true then
             some (([] : (List (List UInt8))), false)
            else
             (mk1 (α := (List UInt8)) 16 [] (List.length r6.2.1 : Int)).bind fun v18 =>
             (loopM (tSolve_b7 N r6 v15) N (v16, v18, 0)).bind fun ss =>
              match ss with
              | v19 =>
               some (v19, true))
   | (Sum.inr v20) => some v20)
end Go.D

/- Plain counterparts, written by a program of mine (wip/tool). -/
import Derived.Test.YtaakoedphmeenaaT22
import Derived.Test.YtaakoedphmeenaaPA
set_option linter.unusedVariables false
set_option linter.unusedSimpArgs false
namespace Go.D
open Go Go.X
def qPrintable_b1 (N : Nat) (s : (List UInt8)) : Int → Option (Stp Int (Sum Unit Bool))
 | v0 =>
  (if (v0 : Int) < (List.length s : Int) then
   (((idx s v0).bind fun v1 =>
   (if ((UInt8.toNat v1 : Int) : Int) < 32 then
    some true
   else
    (idx s v0).bind fun v2 =>
    some (decide (((UInt8.toNat v2 : Int) : Int) > 126))) : Option Bool)).bind fun ss =>
    match ss with
    | v3 =>
     (if v3 = true then
      some (Stp.done (Sum.inr false))
     else
      some (Stp.next (iw (v0 + 1))))
  else
   some (Stp.done (Sum.inl ())))
def qPrintable (N : Nat) (s : (List UInt8)) : Option Bool :=
 (loopM (qPrintable_b1 N s) N 0).bind fun ss =>
  match ss with
  | (Sum.inl _) =>
   some true
  | (Sum.inr v0) => some v0
def qValid (N : Nat) (t : TTest) : Option Bool :=
 (if (t.Kind : Int) ≥ 0 then
  (if (t.Kind : Int) ≤ 3 then
   (if ((List.length t.Text : Int) : Int) ≤ 16 then
    (qPrintable N t.Text).bind fun r9 =>
    some r9
   else
    some false)
  else
   some false)
 else
  some false)
def qClosed_b1 (N : Nat) (p : (List UInt8)) : ((List Int) × Int) → Option (Stp ((List Int) × Int) (List Int))
 | (v0, v1) =>
  (if (v1 : Int) < (List.length p : Int) then
   (((idx v0 v1).bind fun v2 =>
   (if (v2 : Int) = 1 then
    (idx p v1).bind fun v3 =>
    some (decide (((UInt8.toNat v3 : Int) : Int) = 37))
   else
    some false) : Option Bool)).bind fun ss =>
    match ss with
    | v4 =>
     (if v4 = true then
      (idx v0 (iw (v1 + 1))).bind fun v5 =>
      (upd1 v0 (iw (v1 + 1)) 1).bind fun v6 =>
      some (Stp.next (v6, (iw (v1 + 1))))
     else
      some (Stp.next (v0, (iw (v1 + 1)))))
  else
   some (Stp.done v0))
def qClosed (N : Nat) (p : (List UInt8)) (vset : (List Int)) : Option ((List UInt8) × (List Int)) :=
 (loopM (qClosed_b1 N p) N (vset, 0)).bind fun ss =>
  match ss with
  | v0 =>
   some ((bstr v0), v0)
def qStart (N : Nat) (t : TTest) : Option (List UInt8) :=
 (if (t.Kind : Int) ≠ 1 then
  (chk ((List.length ([61] : List UInt8) : Int) + List.length (bstr [0]) ≤ 9223372036854775807)).bind fun _ =>
  some (([61] : List UInt8) ++ (bstr [0]))
 else
  (mk1 (α := Int) 1 0 (iw ((List.length t.Text : Int) + 1))).bind fun v0 =>
  (idx v0 0).bind fun v1 =>
  (upd1 v0 0 1).bind fun v2 =>
  (qClosed N t.Text v2).bind fun v3 =>
  some v3.1)
def qStep_b1 (N : Nat) (c : Int) (s : (List UInt8)) (t : TTest) : ((List Int) × Int) → Option (Stp ((List Int) × Int) (List Int))
 | (v0, v1) =>
  (if (v1 : Int) < (List.length t.Text : Int) then
   (((idx s v1).bind fun v2 =>
   (if ((UInt8.toNat v2 : Int) : Int) = 1 then
    (idx t.Text v1).bind fun v3 =>
    some (decide (((UInt8.toNat v3 : Int) : Int) = 37))
   else
    some false) : Option Bool)).bind fun ss =>
    match ss with
    | v4 =>
     (((if v4 = true then
      (idx v0 v1).bind fun v5 =>
      (upd1 v0 v1 1).bind fun v6 =>
      some v6
     else
      some v0) : Option (List Int))).bind fun ss =>
      match ss with
      | v7 =>
       (((idx s v1).bind fun v8 =>
       (if ((UInt8.toNat v8 : Int) : Int) = 1 then
        (idx t.Text v1).bind fun v9 =>
        (if ((UInt8.toNat v9 : Int) : Int) = 95 then
         some true
        else
         (idx t.Text v1).bind fun v10 =>
         (if ((UInt8.toNat v10 : Int) : Int) = c then
          some (decide ((c : Int) ≠ 37))
         else
          some false))
       else
        some false) : Option Bool)).bind fun ss =>
        match ss with
        | v11 =>
         (if v11 = true then
          (idx v7 (iw (v1 + 1))).bind fun v12 =>
          (upd1 v7 (iw (v1 + 1)) 1).bind fun v13 =>
          some (Stp.next (v13, (iw (v1 + 1))))
         else
          some (Stp.next (v7, (iw (v1 + 1)))))
  else
   some (Stp.done v0))
def qStep (N : Nat) (t : TTest) (s : (List UInt8)) (c : Int) : Option (List UInt8) :=
 (if (t.Kind : Int) = 1 then
  (mk1 (α := Int) 1 0 (iw ((List.length t.Text : Int) + 1))).bind fun x8 =>
  (loopM (qStep_b1 N c s t) N (x8, 0)).bind fun ss =>
   match ss with
   | v0 =>
    (qClosed N t.Text v0).bind fun v1 =>
    some v1.1
 else
  (idx s 0).bind fun v2 =>
  (if ((UInt8.toNat v2 : Int) : Int) ≠ 61 then
   some s
  else
   (idx s 1).bind fun v3 =>
   (((if ((iw (UInt8.toNat v3 : Int)) : Int) = (List.length t.Text : Int) then
    some true
   else
    (idx t.Text (iw (UInt8.toNat v3 : Int))).bind fun v4 =>
    some (decide ((c : Int) > (UInt8.toNat v4 : Int)))) : Option Bool)).bind fun ss =>
    match ss with
    | v5 =>
     (if v5 = true then
      some ([62] : List UInt8)
     else
      (idx t.Text (iw (UInt8.toNat v3 : Int))).bind fun v6 =>
      (if (c : Int) < (UInt8.toNat v6 : Int) then
       some ([60] : List UInt8)
      else
       (chk ((List.length ([61] : List UInt8) : Int) + List.length (bstr [(uw8 (iw ((iw (UInt8.toNat v3 : Int)) + 1)))]) ≤ 9223372036854775807)).bind fun _ =>
       some (([61] : List UInt8) ++ (bstr [(uw8 (iw ((iw (UInt8.toNat v3 : Int)) + 1)))]))))))
def qFinal (N : Nat) (t : TTest) (s : (List UInt8)) : Option Bool :=
 (((if (t.Kind : Int) = 1 then
  (idx s (List.length t.Text : Int)).bind fun v0 =>
  some (decide (((UInt8.toNat v0 : Int) : Int) = 1))
 else
  (((idx s 0).bind fun v1 =>
  (if ((UInt8.toNat v1 : Int) : Int) = 61 then
   (idx s 1).bind fun v2 =>
   some (decide (((iw (UInt8.toNat v2 : Int)) : Int) = (List.length t.Text : Int)))
  else
   some false) : Option Bool)).bind fun ss =>
   match ss with
   | v3 =>
    (((idx s 0).bind fun v4 =>
    (if ((UInt8.toNat v4 : Int) : Int) = 60 then
     some true
    else
     (idx s 0).bind fun v5 =>
     (if ((UInt8.toNat v5 : Int) : Int) = 61 then
      some (!v3)
     else
      some false)) : Option Bool)).bind fun ss =>
     match ss with
     | v6 =>
      (if (t.Kind : Int) = 0 then
       (if v3 = true then
        some true
       else
        (if (t.Kind : Int) = 2 then
         (if v6 = true then
          some true
         else
          (if (t.Kind : Int) = 3 then
           some v3
          else
           some false))
        else
         (if (t.Kind : Int) = 3 then
          (if v6 = true then
           some true
          else
           some v3)
         else
          some false)))
      else
       (if (t.Kind : Int) = 2 then
        (if v6 = true then
         some true
        else
         (if (t.Kind : Int) = 3 then
          some v3
         else
          some false))
       else
        (if (t.Kind : Int) = 3 then
         (if v6 = true then
          some true
         else
          some v3)
        else
         some false)))) : Option Bool)).bind fun ss =>
  match ss with
  | v7 =>
   some (!(v7 == t.Negated))
def qPasses_b1 (N : Nat) (t : TTest) (text : (List UInt8)) : ((List UInt8) × Int) → Option (Stp ((List UInt8) × Int) (List UInt8))
 | (v0, v1) =>
  (if (v1 : Int) < (List.length text : Int) then
   (idx text v1).bind fun v2 =>
   (qStep N t v0 (UInt8.toNat v2 : Int)).bind fun v3 =>
   some (Stp.next (v3, (iw (v1 + 1))))
  else
   some (Stp.done v0))
def qPasses (N : Nat) (t : TTest) (text : (List UInt8)) : Option Bool :=
 (qStart N t).bind fun r6 =>
 (loopM (qPasses_b1 N t text) N (r6, 0)).bind fun ss =>
  match ss with
  | v0 =>
   (qFinal N t v0).bind fun v1 =>
   some v1
def rPairs_b1 (N : Nat) (l : (List Arr2Int)) (n : Int) : Int → Option (Stp Int (Sum Unit Bool))
 | v0 =>
  (if (v0 : Int) < (List.length l : Int) then
   (((idx l v0).bind fun v1 =>
   (if (v1.e0 : Int) < 0 then
    some true
   else
    (idx l v0).bind fun v2 =>
    (if (v2.e0 : Int) ≥ n then
     some true
    else
     (idx l v0).bind fun v3 =>
     (if (v3.e1 : Int) < 0 then
      some true
     else
      (idx l v0).bind fun v4 =>
      some (decide ((v4.e1 : Int) ≥ n))))) : Option Bool)).bind fun ss =>
    match ss with
    | v5 =>
     (if v5 = true then
      some (Stp.done (Sum.inr false))
     else
      some (Stp.next (iw (v0 + 1))))
  else
   some (Stp.done (Sum.inl ())))
def rPairs (N : Nat) (l : (List Arr2Int)) (n : Int) : Option Bool :=
 (loopM (rPairs_b1 N l n) N 0).bind fun ss =>
  match ss with
  | (Sum.inl _) =>
   some true
  | (Sum.inr v0) => some v0
def rSizes_b1 (N : Nat) (l : (List Int)) : Int → Option (Stp Int (Sum Unit Bool))
 | v0 =>
  (if (v0 : Int) < (List.length l : Int) then
   (((idx l v0).bind fun v1 =>
   (if (v1 : Int) < 0 then
    some true
   else
    (idx l v0).bind fun v2 =>
    some (decide ((v2 : Int) > 16))) : Option Bool)).bind fun ss =>
    match ss with
    | v3 =>
     (if v3 = true then
      some (Stp.done (Sum.inr false))
     else
      some (Stp.next (iw (v0 + 1))))
  else
   some (Stp.done (Sum.inl ())))
def rSizes (N : Nat) (l : (List Int)) : Option Bool :=
 (loopM (rSizes_b1 N l) N 0).bind fun ss =>
  match ss with
  | (Sum.inl _) =>
   some true
  | (Sum.inr v0) => some v0
def rValid_b1 (N : Nat) (p : TProb) : Int → Option (Stp Int (Sum Unit Bool))
 | v0 =>
  (if (v0 : Int) < (List.length p.Tests : Int) then
   (((idx p.Tests v0).bind fun v1 =>
   (qValid N v1).bind fun v2 =>
   (if (!v2) = true then
    some true
   else
    (idx p.Tests v0).bind fun v3 =>
    (if (v3.Var : Int) < 0 then
     some true
    else
     (idx p.Tests v0).bind fun v4 =>
     some (decide ((v4.Var : Int) ≥ (List.length p.Max : Int))))) : Option Bool)).bind fun ss =>
    match ss with
    | v5 =>
     (if v5 = true then
      some (Stp.done (Sum.inr false))
     else
      some (Stp.next (iw (v0 + 1))))
  else
   some (Stp.done (Sum.inl ())))
def rValid (N : Nat) (p : TProb) : Option Bool :=
 (loopM (rValid_b1 N p) N 0).bind fun ss =>
  match ss with
  | (Sum.inl _) =>
   (if ((List.length p.Min : Int) : Int) = (List.length p.Max : Int) then
    (if ((List.length p.Max : Int) : Int) ≤ 128 then
     (rSizes N p.Min).bind fun v0 =>
     (if v0 = true then
      (rSizes N p.Max).bind fun v1 =>
      (if v1 = true then
       (rPairs N p.Same (List.length p.Max : Int)).bind fun v2 =>
       (if v2 = true then
        (rPairs N p.Different (List.length p.Max : Int)).bind fun v3 =>
        some v3
       else
        some false)
      else
       some false)
     else
      some false)
    else
     some false)
   else
    some false)
  | (Sum.inr v4) => some v4
def rSatisfies_b1 (N : Nat) (p : TProb) (texts : (List (List UInt8))) : Int → Option (Stp Int (Sum Unit Bool))
 | v0 =>
  (if (v0 : Int) < (List.length texts : Int) then
   (((idx texts v0).bind fun v1 =>
   (idx p.Min v0).bind fun v2 =>
   (if ((List.length v1 : Int) : Int) < v2 then
    some true
   else
    (idx texts v0).bind fun v3 =>
    (idx p.Max v0).bind fun v4 =>
    (if ((List.length v3 : Int) : Int) > v4 then
     some true
    else
     (idx texts v0).bind fun v5 =>
     (qPrintable N v5).bind fun v6 =>
     some (!v6))) : Option Bool)).bind fun ss =>
    match ss with
    | v7 =>
     (if v7 = true then
      some (Stp.done (Sum.inr false))
     else
      some (Stp.next (iw (v0 + 1))))
  else
   some (Stp.done (Sum.inl ())))
def rSatisfies_b2 (N : Nat) (p : TProb) (texts : (List (List UInt8))) : Int → Option (Stp Int (Sum Unit Bool))
 | v0 =>
  (if (v0 : Int) < (List.length p.Tests : Int) then
   (idx p.Tests v0).bind fun v1 =>
   (idx p.Tests v0).bind fun v2 =>
   (idx texts v2.Var).bind fun v3 =>
   (qPasses N v1 v3).bind fun v4 =>
   (if (!v4) = true then
    some (Stp.done (Sum.inr false))
   else
    some (Stp.next (iw (v0 + 1))))
  else
   some (Stp.done (Sum.inl ())))
def rSatisfies_b3 (N : Nat) (p : TProb) (texts : (List (List UInt8))) : Int → Option (Stp Int (Sum Unit Bool))
 | v0 =>
  (if (v0 : Int) < (List.length p.Same : Int) then
   (idx p.Same v0).bind fun v1 =>
   (idx texts v1.e0).bind fun v2 =>
   (idx p.Same v0).bind fun v3 =>
   (idx texts v3.e1).bind fun v4 =>
   (if ¬ v2 = v4 then
    some (Stp.done (Sum.inr false))
   else
    some (Stp.next (iw (v0 + 1))))
  else
   some (Stp.done (Sum.inl ())))
def rSatisfies_b4 (N : Nat) (p : TProb) (texts : (List (List UInt8))) : Int → Option (Stp Int (Sum Unit Bool))
 | v0 =>
  (if (v0 : Int) < (List.length p.Different : Int) then
   (idx p.Different v0).bind fun v1 =>
   (idx texts v1.e0).bind fun v2 =>
   (idx p.Different v0).bind fun v3 =>
   (idx texts v3.e1).bind fun v4 =>
   (if v2 = v4 then
    some (Stp.done (Sum.inr false))
   else
    some (Stp.next (iw (v0 + 1))))
  else
   some (Stp.done (Sum.inl ())))
def rSatisfies (N : Nat) (p : TProb) (texts : (List (List UInt8))) : Option Bool :=
 (if ((List.length texts : Int) : Int) ≠ (List.length p.Max : Int) then
  some false
 else
  (loopM (rSatisfies_b1 N p texts) N 0).bind fun ss =>
   match ss with
   | (Sum.inl _) =>
    (loopM (rSatisfies_b2 N p texts) N 0).bind fun ss =>
     match ss with
     | (Sum.inl _) =>
      (loopM (rSatisfies_b3 N p texts) N 0).bind fun ss =>
       match ss with
       | (Sum.inl _) =>
        (loopM (rSatisfies_b4 N p texts) N 0).bind fun ss =>
         match ss with
         | (Sum.inl _) =>
          some true
         | (Sum.inr v0) => some v0
       | (Sum.inr v1) => some v1
     | (Sum.inr v2) => some v2
   | (Sum.inr v3) => some v3)
def rLeaders_b1 (N : Nat) (p : TProb) : ((List Int) × Int) → Option (Stp ((List Int) × Int) (List Int))
 | (v0, v1) =>
  (if (v1 : Int) < (List.length p.Max : Int) then
   (apnd 8 v0 [v1]).bind fun v2 =>
   some (Stp.next (v2, (iw (v1 + 1))))
  else
   some (Stp.done v0))
def rLeaders_b3 (N : Nat) (p : TProb) : ((List Int) × Int) → Option (Stp ((List Int) × Int) (List Int))
 | (v0, v1) =>
  (if (v1 : Int) < (List.length p.Same : Int) then
   (idx p.Same v1).bind fun v2 =>
   (idx p.Same v1).bind fun v3 =>
   (idx v0 v2.e0).bind fun v4 =>
   (idx v0 v3.e1).bind fun v5 =>
   (idx v0 v2.e0).bind fun v6 =>
   (upd1 v0 v2.e0 (imin v4 v5)).bind fun v7 =>
   (idx v7 v3.e1).bind fun v8 =>
   (upd1 v7 v3.e1 (imin v4 v5)).bind fun v9 =>
   some (Stp.next (v9, (iw (v1 + 1))))
  else
   some (Stp.done v0))
def rLeaders_b2 (N : Nat) (p : TProb) : ((List Int) × Int) → Option (Stp ((List Int) × Int) (List Int))
 | (v0, v1) =>
  (if (v1 : Int) < (List.length v0 : Int) then
   (loopM (rLeaders_b3 N p) N (v0, 0)).bind fun ss =>
    match ss with
    | v2 =>
     some (Stp.next (v2, (iw (v1 + 1))))
  else
   some (Stp.done v0))
def rLeaders (N : Nat) (p : TProb) : Option (List Int) :=
 (loopM (rLeaders_b1 N p) N (([] : (List Int)), 0)).bind fun ss =>
  match ss with
  | v0 =>
   (loopM (rLeaders_b2 N p) N (v0, 0)).bind fun ss =>
    match ss with
    | v1 =>
     some v1
def rClasses_b2 (N : Nat) (v0 : (List Int)) (v1 : Int) : ((List Int) × Int) → Option (Stp ((List Int) × Int) (List Int))
 | (v2, v3) =>
  (if (v3 : Int) < (List.length v0 : Int) then
   (idx v0 v3).bind fun v4 =>
   (if (v4 : Int) = v1 then
    (apnd 8 v2 [v3]).bind fun v5 =>
    some (Stp.next (v5, (iw (v3 + 1))))
   else
    some (Stp.next (v2, (iw (v3 + 1)))))
  else
   some (Stp.done v2))
def rClasses_b1 (N : Nat) (v0 : (List Int)) : ((List (List Int)) × Int) → Option (Stp ((List (List Int)) × Int) (List (List Int)))
 | (v1, v2) =>
  (if (v2 : Int) < (List.length v0 : Int) then
   (idx v0 v2).bind fun v3 =>
   (if (v3 : Int) ≠ v2 then
    some (Stp.next (v1, (iw (v2 + 1))))
   else
    (loopM (rClasses_b2 N v0 v2) N (([] : (List Int)), 0)).bind fun ss =>
     match ss with
     | v4 =>
      (apnd 24 v1 [v4]).bind fun v5 =>
      some (Stp.next (v5, (iw (v2 + 1)))))
  else
   some (Stp.done v1))
def rClasses (N : Nat) (p : TProb) : Option (List (List Int)) :=
 (rLeaders N p).bind fun v0 =>
 (loopM (rClasses_b1 N v0) N (([] : (List (List Int))), 0)).bind fun ss =>
  match ss with
  | v1 =>
   some v1
def rWord_b2 (N : Nat) (p : TProb) (s : (List UInt8)) (v0 : Int) : Int → Option (Stp Int (Sum Unit Bool))
 | v1 =>
  (if (v1 : Int) < (List.length p.Tests : Int) then
   (((idx p.Tests v1).bind fun v2 =>
   (if (v2.Var : Int) = v0 then
    (idx p.Tests v1).bind fun v3 =>
    (qPasses N v3 s).bind fun v4 =>
    some (!v4)
   else
    some false) : Option Bool)).bind fun ss =>
    match ss with
    | v5 =>
     (if v5 = true then
      some (Stp.done (Sum.inr false))
     else
      some (Stp.next (iw (v1 + 1))))
  else
   some (Stp.done (Sum.inl ())))
def rWord_b1 (N : Nat) (p : TProb) (s : (List UInt8)) (vclass : (List Int)) : Int → Option (Stp Int (Sum Unit Bool))
 | v0 =>
  (if (v0 : Int) < (List.length vclass : Int) then
   (idx vclass v0).bind fun v1 =>
   (((idx p.Min v1).bind fun v2 =>
   (if ((List.length s : Int) : Int) < v2 then
    some true
   else
    (idx p.Max v1).bind fun v3 =>
    some (decide (((List.length s : Int) : Int) > v3))) : Option Bool)).bind fun ss =>
    match ss with
    | v4 =>
     (if v4 = true then
      some (Stp.done (Sum.inr false))
     else
      (loopM (rWord_b2 N p s v1) N 0).bind fun ss =>
       match ss with
       | (Sum.inl _) =>
        some (Stp.next (iw (v0 + 1)))
       | (Sum.inr v5) => some (Stp.done (Sum.inr v5)))
  else
   some (Stp.done (Sum.inl ())))
def rWord (N : Nat) (p : TProb) (vclass : (List Int)) (s : (List UInt8)) : Option Bool :=
 (loopM (rWord_b1 N p s vclass) N 0).bind fun ss =>
  match ss with
  | (Sum.inl _) =>
   some true
  | (Sum.inr v0) => some v0
def rWords_b3 (N : Nat) (v0 : (List (List UInt8))) (v1 : Int) (v2 : Int) : ((List (List UInt8)) × Int) → Option (Stp ((List (List UInt8)) × Int) (List (List UInt8)))
 | (v3, v4) =>
  (((if (v4 : Int) ≤ 126 then
   some (decide ((v1 : Int) < 2))
  else
   some false) : Option Bool)).bind fun ss =>
   match ss with
   | v5 =>
    (if v5 = true then
     (idx v0 v2).bind fun v6 =>
     (chk ((List.length v6 : Int) + List.length (bstr [(uw8 v4)]) ≤ 9223372036854775807)).bind fun _ =>
     (apnd 16 v3 [(v6 ++ (bstr [(uw8 v4)]))]).bind fun v7 =>
     some (Stp.next (v7, (iw (v4 + 1))))
    else
     some (Stp.done v3))
def rWords_b2 (N : Nat) (most : Int) (p : TProb) (vclass : (List Int)) (v0 : (List (List UInt8))) (v1 : Int) : ((List (List UInt8)) × (List (List UInt8)) × Bool × Int) → Option (Stp ((List (List UInt8)) × (List (List UInt8)) × Bool × Int) ((List (List UInt8)) × (List (List UInt8)) × Bool))
 | (v2, v3, v4, v5) =>
  (if (v5 : Int) < (List.length v0 : Int) then
   (idx v0 v5).bind fun v6 =>
   (rWord N p vclass v6).bind fun v7 =>
   (((if v7 = true then
    (if ((List.length v2 : Int) : Int) < most then
     (idx v0 v5).bind fun v8 =>
     (apnd 16 v2 [v8]).bind fun v9 =>
     some (v9, true)
    else
     some (v2, true))
   else
    some (v2, v4)) : Option ((List (List UInt8)) × Bool))).bind fun ss =>
    match ss with
    | (v10, v11) =>
     (loopM (rWords_b3 N v0 v1 v5) N (v3, 32)).bind fun ss =>
      match ss with
      | v12 =>
       some (Stp.next (v10, v12, v11, (iw (v5 + 1))))
  else
   some (Stp.done (v2, v3, v4)))
def rWords_b1 (N : Nat) (most : Int) (p : TProb) (vclass : (List Int)) : ((List (List UInt8)) × (List Int) × (List (List UInt8)) × Int) → Option (Stp ((List (List UInt8)) × (List Int) × (List (List UInt8)) × Int) ((List (List UInt8)) × (List Int)))
 | (v0, v1, v2, v3) =>
  (if (v3 : Int) ≤ 2 then
   (loopM (rWords_b2 N most p vclass v2 v3) N (v0, ([] : (List (List UInt8))), false, 0)).bind fun ss =>
    match ss with
    | (v4, v5, v6) =>
     (if v6 = true then
      (apnd 8 v1 [v3]).bind fun v7 =>
      some (Stp.next (v4, v7, v5, (iw (v3 + 1))))
     else
      some (Stp.next (v4, v1, v5, (iw (v3 + 1)))))
  else
   some (Stp.done (v0, v1)))
def rWords (N : Nat) (p : TProb) (vclass : (List Int)) (most : Int) : Option ((List (List UInt8)) × (List Int)) :=
 (loopM (rWords_b1 N most p vclass) N (([] : (List (List UInt8))), ([] : (List Int)), [([] : List UInt8)], 0)).bind fun ss =>
  match ss with
  | (v0, v1) =>
   some (v0, v1)
def rTry_b2 (N : Nat) (chosen : (List (List UInt8))) (l : (List (List Int))) (v0 : Int) : ((List (List UInt8)) × Int) → Option (Stp ((List (List UInt8)) × Int) (List (List UInt8)))
 | (v1, v2) =>
  (idx l v0).bind fun v3 =>
  (if (v2 : Int) < (List.length v3 : Int) then
   (idx l v0).bind fun v4 =>
   (idx v4 v2).bind fun v5 =>
   (idx chosen v0).bind fun v6 =>
   (idx v1 v5).bind fun v7 =>
   (upd1 v1 v5 v6).bind fun v8 =>
   some (Stp.next (v8, (iw (v2 + 1))))
  else
   some (Stp.done v1))
def rTry_b1 (N : Nat) (chosen : (List (List UInt8))) (l : (List (List Int))) : ((List (List UInt8)) × Int) → Option (Stp ((List (List UInt8)) × Int) (List (List UInt8)))
 | (v0, v1) =>
  (if (v1 : Int) < (List.length l : Int) then
   (loopM (rTry_b2 N chosen l v1) N (v0, 0)).bind fun ss =>
    match ss with
    | v2 =>
     some (Stp.next (v2, (iw (v1 + 1))))
  else
   some (Stp.done v0))
def rTry_b3 (N : Nat) (self : TProb → (List (List Int)) → (List (List (List UInt8))) → (List (List UInt8)) → Option Bool) (choices : (List (List (List UInt8)))) (chosen : (List (List UInt8))) (l : (List (List Int))) (p : TProb) (v0 : (List (List UInt8))) : Int → Option (Stp Int (Sum Unit Bool))
 | v1 =>
  (if (v1 : Int) < (List.length v0 : Int) then
   (apnd 16 ([] : (List (List UInt8))) chosen).bind fun v2 =>
   (idx v0 v1).bind fun v3 =>
   (apnd 16 v2 [v3]).bind fun v4 =>
   (self p l choices v4).bind fun v5 =>
   (if v5 = true then
    some (Stp.done (Sum.inr true))
   else
    some (Stp.next (iw (v1 + 1))))
  else
   some (Stp.done (Sum.inl ())))
def rTry_step (N : Nat) (self : TProb → (List (List Int)) → (List (List (List UInt8))) → (List (List UInt8)) → Option Bool) (p : TProb) (l : (List (List Int))) (choices : (List (List (List UInt8)))) (chosen : (List (List UInt8))) : Option Bool :=
 (if ((List.length chosen : Int) : Int) = (List.length l : Int) then
  (mk1 (α := (List UInt8)) 16 [] (List.length p.Max : Int)).bind fun v0 =>
  (loopM (rTry_b1 N chosen l) N (v0, 0)).bind fun ss =>
   match ss with
   | v1 =>
    (rSatisfies N p v1).bind fun v2 =>
    some v2
 else
  (idx choices (List.length chosen : Int)).bind fun v3 =>
  (loopM (rTry_b3 N self choices chosen l p v3) N 0).bind fun ss =>
   match ss with
   | (Sum.inl _) =>
    some false
   | (Sum.inr v4) => some v4)
def rTry : Nat → TProb → (List (List Int)) → (List (List (List UInt8))) → (List (List UInt8)) → Option Bool
 | 0 => fun _ _ _ _ => none
 | N + 1 => rTry_step N (rTry N)
def rSolvable_b1 (N : Nat) (p : TProb) (r6 : (List (List Int))) : ((List (List (List UInt8))) × Int) → Option (Stp ((List (List (List UInt8))) × Int) (List (List (List UInt8))))
 | (v0, v1) =>
  (if (v1 : Int) < (List.length r6 : Int) then
   (idx r6 v1).bind fun v2 =>
   (rWords N p v2 (List.length r6 : Int)).bind fun v3 =>
   (apnd 24 v0 [v3.1]).bind fun v4 =>
   some (Stp.next (v4, (iw (v1 + 1))))
  else
   some (Stp.done v0))
def rSolvable (N : Nat) (p : TProb) : Option Bool :=
 (rClasses N p).bind fun r6 =>
 (loopM (rSolvable_b1 N p r6) N (([] : (List (List (List UInt8)))), 0)).bind fun ss =>
  match ss with
  | v0 =>
   (rTry N p r6 v0 []).bind fun v1 =>
   some v1
def rSmall (N : Nat) (p : TProb) : Option Bool :=
 (if ((List.length p.Max : Int) : Int) ≤ 6 then
  (if ((List.length p.Min : Int) : Int) ≤ 6 then
   (if ((List.length p.Tests : Int) : Int) ≤ 8 then
    (if ((List.length p.Same : Int) : Int) ≤ 8 then
     (if ((List.length p.Different : Int) : Int) ≤ 8 then
      (rValid N p).bind fun v0 =>
      some v0
     else
      some false)
    else
     some false)
   else
    some false)
  else
   some false)
 else
  some false)
def rShort_b1 (N : Nat) (p : TProb) : Int → Option (Stp Int (Sum Unit Bool))
 | v0 =>
  (if (v0 : Int) < (List.length p.Max : Int) then
   (idx p.Max v0).bind fun v1 =>
   (if (v1 : Int) > 2 then
    some (Stp.done (Sum.inr false))
   else
    some (Stp.next (iw (v0 + 1))))
  else
   some (Stp.done (Sum.inl ())))
def rShort (N : Nat) (p : TProb) : Option Bool :=
 (loopM (rShort_b1 N p) N 0).bind fun ss =>
  match ss with
  | (Sum.inl _) =>
   (rSmall N p).bind fun v0 =>
   (if v0 = true then
    some (decide (((List.length p.Max : Int) : Int) ≤ 3))
   else
    some false)
  | (Sum.inr v1) => some v1
end Go.D

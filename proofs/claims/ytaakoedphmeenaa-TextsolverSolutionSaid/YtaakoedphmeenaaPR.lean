/- Plain counterparts, written by a program of mine (wip/tool). -/
import Derived.Test.YtaakoedphmeenaaT22
import Derived.Test.YtaakoedphmeenaaPA
set_option linter.unusedVariables false
set_option linter.unusedSimpArgs false
namespace Go.D
open Go Go.X
def qPrintable_b1 (N : Nat) (s : (List UInt8)) : Int → Option (Stp Int (Sum Unit Bool))
 | i68 =>
  (if (i68 : Int) < (List.length s : Int) then
   (((idx s i68).bind fun x91 =>
   (if ((UInt8.toNat x91 : Int) : Int) < 32 then
    some true
   else
    (idx s i68).bind fun x97 =>
    some (decide (((UInt8.toNat x97 : Int) : Int) > 126))) : Option Bool)).bind fun ss =>
    match ss with
    | x88 =>
     (if x88 = true then
      some (Stp.done (Sum.inr false))
     else
      some (Stp.next (iw (i68 + 1))))
  else
   some (Stp.done (Sum.inl ())))
def qPrintable (N : Nat) (s : (List UInt8)) : Option Bool :=
 (loopM (qPrintable_b1 N s) N 0).bind fun ss =>
  match ss with
  | (Sum.inl _) =>
   some true
  | (Sum.inr z109) => some z109
def qValid (N : Nat) (t : TTest) : Option Bool :=
 (if (t.Kind : Int) ≥ 0 then
  (if (t.Kind : Int) ≤ 3 then
   (if ((List.length t.Text : Int) : Int) ≤ 16 then
    (qPrintable N t.Text).bind fun r9 =>
    some r9
   else
    some false)
  else
   some false)
 else
  some false)
def qClosed_b1 (N : Nat) (p : (List UInt8)) : ((List Int) × Int) → Option (Stp ((List Int) × Int) (List Int))
 | (vset158, i162) =>
  (if (i162 : Int) < (List.length p : Int) then
   (((idx vset158 i162).bind fun x199 =>
   (if (x199 : Int) = 1 then
    (idx p i162).bind fun x212 =>
    some (decide (((UInt8.toNat x212 : Int) : Int) = 37))
   else
    some false) : Option Bool)).bind fun ss =>
    match ss with
    | x196 =>
     (if x196 = true then
      (idx vset158 (iw (i162 + 1))).bind fun x221 =>
      (upd1 vset158 (iw (i162 + 1)) 1).bind fun x230 =>
      some (Stp.next (x230, (iw (i162 + 1))))
     else
      some (Stp.next (vset158, (iw (i162 + 1)))))
  else
   some (Stp.done vset158))
def qClosed (N : Nat) (p : (List UInt8)) (vset : (List Int)) : Option ((List UInt8) × (List Int)) :=
 (loopM (qClosed_b1 N p) N (vset, 0)).bind fun ss =>
  match ss with
  | vset165 =>
   some ((bstr vset165), vset165)
def qStart (N : Nat) (t : TTest) : Option (List UInt8) :=
 (if (t.Kind : Int) ≠ 1 then
  (chk ((List.length ([61] : List UInt8) : Int) + List.length (bstr [0]) ≤ 9223372036854775807)).bind fun _ =>
  some (([61] : List UInt8) ++ (bstr [0]))
 else
  (mk1 (α := Int) 1 0 (iw ((List.length t.Text : Int) + 1))).bind fun x20 =>
  (idx x20 0).bind fun x35 =>
  (upd1 x20 0 1).bind fun x41 =>
  (qClosed N t.Text x41).bind fun r57 =>
  some r57.1)
def qStep_b1 (N : Nat) (c : Int) (s : (List UInt8)) (t : TTest) : ((List Int) × Int) → Option (Stp ((List Int) × Int) (List Int))
 | (vset349, i353) =>
  (if (i353 : Int) < (List.length t.Text : Int) then
   (((idx s i353).bind fun x387 =>
   (if ((UInt8.toNat x387 : Int) : Int) = 1 then
    (idx t.Text i353).bind fun x393 =>
    some (decide (((UInt8.toNat x393 : Int) : Int) = 37))
   else
    some false) : Option Bool)).bind fun ss =>
    match ss with
    | x384 =>
     (((if x384 = true then
      (idx vset349 i353).bind fun x433 =>
      (upd1 vset349 i353 1).bind fun x439 =>
      some x439
     else
      some vset349) : Option (List Int))).bind fun ss =>
      match ss with
      | vset426 =>
       (((idx s i353).bind fun x482 =>
       (if ((UInt8.toNat x482 : Int) : Int) = 1 then
        (idx t.Text i353).bind fun x488 =>
        (if ((UInt8.toNat x488 : Int) : Int) = 95 then
         some true
        else
         (idx t.Text i353).bind fun x494 =>
         (if ((UInt8.toNat x494 : Int) : Int) = c then
          some (decide ((c : Int) ≠ 37))
         else
          some false))
       else
        some false) : Option Bool)).bind fun ss =>
        match ss with
        | x479 =>
         (if x479 = true then
          (idx vset426 (iw (i353 + 1))).bind fun x504 =>
          (upd1 vset426 (iw (i353 + 1)) 1).bind fun x510 =>
          some (Stp.next (x510, (iw (i353 + 1))))
         else
          some (Stp.next (vset426, (iw (i353 + 1)))))
  else
   some (Stp.done vset349))
def qStep (N : Nat) (t : TTest) (s : (List UInt8)) (c : Int) : Option (List UInt8) :=
 (if (t.Kind : Int) = 1 then
  (mk1 (α := Int) 1 0 (iw ((List.length t.Text : Int) + 1))).bind fun x8 =>
  (loopM (qStep_b1 N c s t) N (x8, 0)).bind fun ss =>
   match ss with
   | vset356 =>
    (qClosed N t.Text vset356).bind fun r531 =>
    some r531.1
 else
  (idx s 0).bind fun x547 =>
  (if ((UInt8.toNat x547 : Int) : Int) ≠ 61 then
   some s
  else
   (idx s 1).bind fun x553 =>
   (((if ((iw (UInt8.toNat x553 : Int)) : Int) = (List.length t.Text : Int) then
    some true
   else
    (idx t.Text (iw (UInt8.toNat x553 : Int))).bind fun x571 =>
    some (decide ((c : Int) > (UInt8.toNat x571 : Int)))) : Option Bool)).bind fun ss =>
    match ss with
    | x564 =>
     (if x564 = true then
      some ([62] : List UInt8)
     else
      (idx t.Text (iw (UInt8.toNat x553 : Int))).bind fun x583 =>
      (if (c : Int) < (UInt8.toNat x583 : Int) then
       some ([60] : List UInt8)
      else
       (chk ((List.length ([61] : List UInt8) : Int) + List.length (bstr [(uw8 (iw ((iw (UInt8.toNat x553 : Int)) + 1)))]) ≤ 9223372036854775807)).bind fun _ =>
       some (([61] : List UInt8) ++ (bstr [(uw8 (iw ((iw (UInt8.toNat x553 : Int)) + 1)))]))))))
def qFinal (N : Nat) (t : TTest) (s : (List UInt8)) : Option Bool :=
 (((if (t.Kind : Int) = 1 then
  (idx s (List.length t.Text : Int)).bind fun x377 =>
  some (decide (((UInt8.toNat x377 : Int) : Int) = 1))
 else
  (((idx s 0).bind fun x541 =>
  (if ((UInt8.toNat x541 : Int) : Int) = 61 then
   (idx s 1).bind fun x547 =>
   some (decide (((iw (UInt8.toNat x547 : Int)) : Int) = (List.length t.Text : Int)))
  else
   some false) : Option Bool)).bind fun ss =>
   match ss with
   | equal538 =>
    (((idx s 0).bind fun x715 =>
    (if ((UInt8.toNat x715 : Int) : Int) = 60 then
     some true
    else
     (idx s 0).bind fun x721 =>
     (if ((UInt8.toNat x721 : Int) : Int) = 61 then
      some (!equal538)
     else
      some false)) : Option Bool)).bind fun ss =>
     match ss with
     | less712 =>
      (if (t.Kind : Int) = 0 then
       (if equal538 = true then
        some true
       else
        (if (t.Kind : Int) = 2 then
         (if less712 = true then
          some true
         else
          (if (t.Kind : Int) = 3 then
           some equal538
          else
           some false))
        else
         (if (t.Kind : Int) = 3 then
          (if less712 = true then
           some true
          else
           some equal538)
         else
          some false)))
      else
       (if (t.Kind : Int) = 2 then
        (if less712 = true then
         some true
        else
         (if (t.Kind : Int) = 3 then
          some equal538
         else
          some false))
       else
        (if (t.Kind : Int) = 3 then
         (if less712 = true then
          some true
         else
          some equal538)
        else
         some false)))) : Option Bool)).bind fun ss =>
  match ss with
  | ok373 =>
   some (!(ok373 == t.Negated))
def qPasses_b1 (N : Nat) (t : TTest) (text : (List UInt8)) : ((List UInt8) × Int) → Option (Stp ((List UInt8) × Int) (List UInt8))
 | (s134, i135) =>
  (if (i135 : Int) < (List.length text : Int) then
   (idx text i135).bind fun x146 =>
   (qStep N t s134 (UInt8.toNat x146 : Int)).bind fun r193 =>
   some (Stp.next (r193, (iw (i135 + 1))))
  else
   some (Stp.done s134))
def qPasses (N : Nat) (t : TTest) (text : (List UInt8)) : Option Bool :=
 (qStart N t).bind fun r6 =>
 (loopM (qPasses_b1 N t text) N (r6, 0)).bind fun ss =>
  match ss with
  | s137 =>
   (qFinal N t s137).bind fun r203 =>
   some r203
def rPairs_b1 (N : Nat) (l : (List Arr2Int)) (n : Int) : Int → Option (Stp Int (Sum Unit Bool))
 | i262 =>
  (if (i262 : Int) < (List.length l : Int) then
   (((idx l i262).bind fun x334 =>
   (if (x334.e0 : Int) < 0 then
    some true
   else
    (idx l i262).bind fun x349 =>
    (if (x349.e0 : Int) ≥ n then
     some true
    else
     (idx l i262).bind fun x364 =>
     (if (x364.e1 : Int) < 0 then
      some true
     else
      (idx l i262).bind fun x379 =>
      some (decide ((x379.e1 : Int) ≥ n))))) : Option Bool)).bind fun ss =>
    match ss with
    | x331 =>
     (if x331 = true then
      some (Stp.done (Sum.inr false))
     else
      some (Stp.next (iw (i262 + 1))))
  else
   some (Stp.done (Sum.inl ())))
def rPairs (N : Nat) (l : (List Arr2Int)) (n : Int) : Option Bool :=
 (loopM (rPairs_b1 N l n) N 0).bind fun ss =>
  match ss with
  | (Sum.inl _) =>
   some true
  | (Sum.inr z400) => some z400
def rSizes_b1 (N : Nat) (l : (List Int)) : Int → Option (Stp Int (Sum Unit Bool))
 | i134 =>
  (if (i134 : Int) < (List.length l : Int) then
   (((idx l i134).bind fun x174 =>
   (if (x174 : Int) < 0 then
    some true
   else
    (idx l i134).bind fun x188 =>
    some (decide ((x188 : Int) > 16))) : Option Bool)).bind fun ss =>
    match ss with
    | x171 =>
     (if x171 = true then
      some (Stp.done (Sum.inr false))
     else
      some (Stp.next (iw (i134 + 1))))
  else
   some (Stp.done (Sum.inl ())))
def rSizes (N : Nat) (l : (List Int)) : Option Bool :=
 (loopM (rSizes_b1 N l) N 0).bind fun ss =>
  match ss with
  | (Sum.inl _) =>
   some true
  | (Sum.inr z208) => some z208
def rValid_b1 (N : Nat) (p : TProb) : Int → Option (Stp Int (Sum Unit Bool))
 | i241 =>
  (if (i241 : Int) < (List.length p.Tests : Int) then
   (((idx p.Tests i241).bind fun x307 =>
   (qValid N x307).bind fun r320 =>
   (if (!r320) = true then
    some true
   else
    (idx p.Tests i241).bind fun x328 =>
    (if (x328.Var : Int) < 0 then
     some true
    else
     (idx p.Tests i241).bind fun x344 =>
     some (decide ((x344.Var : Int) ≥ (List.length p.Max : Int))))) : Option Bool)).bind fun ss =>
    match ss with
    | x304 =>
     (if x304 = true then
      some (Stp.done (Sum.inr false))
     else
      some (Stp.next (iw (i241 + 1))))
  else
   some (Stp.done (Sum.inl ())))
def rValid (N : Nat) (p : TProb) : Option Bool :=
 (loopM (rValid_b1 N p) N 0).bind fun ss =>
  match ss with
  | (Sum.inl _) =>
   (if ((List.length p.Min : Int) : Int) = (List.length p.Max : Int) then
    (if ((List.length p.Max : Int) : Int) ≤ 128 then
     (rSizes N p.Min).bind fun r368 =>
     (if r368 = true then
      (rSizes N p.Max).bind fun r376 =>
      (if r376 = true then
       (rPairs N p.Same (List.length p.Max : Int)).bind fun r385 =>
       (if r385 = true then
        (rPairs N p.Different (List.length p.Max : Int)).bind fun r394 =>
        some r394
       else
        some false)
      else
       some false)
     else
      some false)
    else
     some false)
   else
    some false)
  | (Sum.inr z402) => some z402
def rSatisfies_b1 (N : Nat) (p : TProb) (texts : (List (List UInt8))) : Int → Option (Stp Int (Sum Unit Bool))
 | i2435 =>
  (if (i2435 : Int) < (List.length texts : Int) then
   (((idx texts i2435).bind fun x3049 =>
   (idx p.Min i2435).bind fun x3062 =>
   (if ((List.length x3049 : Int) : Int) < x3062 then
    some true
   else
    (idx texts i2435).bind fun x3251 =>
    (idx p.Max i2435).bind fun x3264 =>
    (if ((List.length x3251 : Int) : Int) > x3264 then
     some true
    else
     (idx texts i2435).bind fun x3627 =>
     (qPrintable N x3627).bind fun r3641 =>
     some (!r3641))) : Option Bool)).bind fun ss =>
    match ss with
    | x3046 =>
     (if x3046 = true then
      some (Stp.done (Sum.inr false))
     else
      some (Stp.next (iw (i2435 + 1))))
  else
   some (Stp.done (Sum.inl ())))
def rSatisfies_b2 (N : Nat) (p : TProb) (texts : (List (List UInt8))) : Int → Option (Stp Int (Sum Unit Bool))
 | i3959 =>
  (if (i3959 : Int) < (List.length p.Tests : Int) then
   (idx p.Tests i3959).bind fun x3970 =>
   (idx p.Tests i3959).bind fun x3983 =>
   (idx texts x3983.Var).bind fun x3997 =>
   (qPasses N x3970 x3997).bind fun r4107 =>
   (if (!r4107) = true then
    some (Stp.done (Sum.inr false))
   else
    some (Stp.next (iw (i3959 + 1))))
  else
   some (Stp.done (Sum.inl ())))
def rSatisfies_b3 (N : Nat) (p : TProb) (texts : (List (List UInt8))) : Int → Option (Stp Int (Sum Unit Bool))
 | i4484 =>
  (if (i4484 : Int) < (List.length p.Same : Int) then
   (idx p.Same i4484).bind fun x4495 =>
   (idx texts x4495.e0).bind fun x4509 =>
   (idx p.Same i4484).bind fun x4523 =>
   (idx texts x4523.e1).bind fun x4537 =>
   (if ¬ x4509 = x4537 then
    some (Stp.done (Sum.inr false))
   else
    some (Stp.next (iw (i4484 + 1))))
  else
   some (Stp.done (Sum.inl ())))
def rSatisfies_b4 (N : Nat) (p : TProb) (texts : (List (List UInt8))) : Int → Option (Stp Int (Sum Unit Bool))
 | i5040 =>
  (if (i5040 : Int) < (List.length p.Different : Int) then
   (idx p.Different i5040).bind fun x5050 =>
   (idx texts x5050.e0).bind fun x5064 =>
   (idx p.Different i5040).bind fun x5078 =>
   (idx texts x5078.e1).bind fun x5092 =>
   (if x5064 = x5092 then
    some (Stp.done (Sum.inr false))
   else
    some (Stp.next (iw (i5040 + 1))))
  else
   some (Stp.done (Sum.inl ())))
def rSatisfies (N : Nat) (p : TProb) (texts : (List (List UInt8))) : Option Bool :=
 (if ((List.length texts : Int) : Int) ≠ (List.length p.Max : Int) then
  some false
 else
  (loopM (rSatisfies_b1 N p texts) N 0).bind fun ss =>
   match ss with
   | (Sum.inl _) =>
    (loopM (rSatisfies_b2 N p texts) N 0).bind fun ss =>
     match ss with
     | (Sum.inl _) =>
      (loopM (rSatisfies_b3 N p texts) N 0).bind fun ss =>
       match ss with
       | (Sum.inl _) =>
        (loopM (rSatisfies_b4 N p texts) N 0).bind fun ss =>
         match ss with
         | (Sum.inl _) =>
          some true
         | (Sum.inr z5232) => some z5232
       | (Sum.inr z5233) => some z5233
     | (Sum.inr z5234) => some z5234
   | (Sum.inr z5235) => some z5235)
def rSmall (N : Nat) (p : TProb) : Option Bool :=
 (if ((List.length p.Max : Int) : Int) ≤ 6 then
  (if ((List.length p.Min : Int) : Int) ≤ 6 then
   (if ((List.length p.Tests : Int) : Int) ≤ 8 then
    (if ((List.length p.Same : Int) : Int) ≤ 8 then
     (if ((List.length p.Different : Int) : Int) ≤ 8 then
      (rValid N p).bind fun r16 =>
      some r16
     else
      some false)
    else
     some false)
   else
    some false)
  else
   some false)
 else
  some false)
end Go.D

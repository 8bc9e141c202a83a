/- Plain counterparts, written by a program of mine (wip/tool). -/
import Derived.Test.YtaakoedphmeenaaT22
import Derived.Test.YtaakoedphmeenaaPA
set_option linter.unusedVariables false
set_option linter.unusedSimpArgs false
namespace Go.D
open Go Go.X
def qPrintable_b1 (N : Nat) (s : (List UInt8)) : Int → Option (Stp Int (Sum Unit Bool))
 | v0 =>
  (if (v0 : Int) < (List.length s : Int) then
   (((idx s v0).bind fun v1 =>
   (if ((UInt8.toNat v1 : Int) : Int) < 32 then
    some true
   else
    (idx s v0).bind fun v2 =>
    some (decide (((UInt8.toNat v2 : Int) : Int) > 126))) : Option Bool)).bind fun ss =>
    match ss with
    | v3 =>
     (if v3 = true then
      some (Stp.done (Sum.inr false))
     else
      some (Stp.next (iw (v0 + 1))))
  else
   some (Stp.done (Sum.inl ())))
def qPrintable (N : Nat) (s : (List UInt8)) : Option Bool :=
 (loopM (qPrintable_b1 N s) N 0).bind fun ss =>
  match ss with
  | (Sum.inl _) =>
   some true
  | (Sum.inr v0) => some v0
def qValid (N : Nat) (t : TTest) : Option Bool :=
 (if (t.Kind : Int) ≥ 0 then
  (if (t.Kind : Int) ≤ 3 then
   (if ((List.length t.Text : Int) : Int) ≤ 16 then
    (qPrintable N t.Text).bind fun r9 =>
    some r9
   else
    some false)
  else
   some false)
 else
  some false)
def rPairs_b1 (N : Nat) (l : (List Arr2Int)) (n : Int) : Int → Option (Stp Int (Sum Unit Bool))
 | v0 =>
  (if (v0 : Int) < (List.length l : Int) then
   (((idx l v0).bind fun v1 =>
   (if (v1.e0 : Int) < 0 then
    some true
   else
    (idx l v0).bind fun v2 =>
    (if (v2.e0 : Int) ≥ n then
     some true
    else
     (idx l v0).bind fun v3 =>
     (if (v3.e1 : Int) < 0 then
      some true
     else
      (idx l v0).bind fun v4 =>
      some (decide ((v4.e1 : Int) ≥ n))))) : Option Bool)).bind fun ss =>
    match ss with
    | v5 =>
     (if v5 = true then
      some (Stp.done (Sum.inr false))
     else
      some (Stp.next (iw (v0 + 1))))
  else
   some (Stp.done (Sum.inl ())))
def rPairs (N : Nat) (l : (List Arr2Int)) (n : Int) : Option Bool :=
 (loopM (rPairs_b1 N l n) N 0).bind fun ss =>
  match ss with
  | (Sum.inl _) =>
   some true
  | (Sum.inr v0) => some v0
def rSizes_b1 (N : Nat) (l : (List Int)) : Int → Option (Stp Int (Sum Unit Bool))
 | v0 =>
  (if (v0 : Int) < (List.length l : Int) then
   (((idx l v0).bind fun v1 =>
   (if (v1 : Int) < 0 then
    some true
   else
    (idx l v0).bind fun v2 =>
    some (decide ((v2 : Int) > 16))) : Option Bool)).bind fun ss =>
    match ss with
    | v3 =>
     (if v3 = true then
      some (Stp.done (Sum.inr false))
     else
      some (Stp.next (iw (v0 + 1))))
  else
   some (Stp.done (Sum.inl ())))
def rSizes (N : Nat) (l : (List Int)) : Option Bool :=
 (loopM (rSizes_b1 N l) N 0).bind fun ss =>
  match ss with
  | (Sum.inl _) =>
   some true
  | (Sum.inr v0) => some v0
def rValid_b1 (N : Nat) (p : TProb) : Int → Option (Stp Int (Sum Unit Bool))
 | v0 =>
  (if (v0 : Int) < (List.length p.Tests : Int) then
   (((idx p.Tests v0).bind fun v1 =>
   (qValid N v1).bind fun v2 =>
   (if (!v2) = true then
    some true
   else
    (idx p.Tests v0).bind fun v3 =>
    (if (v3.Var : Int) < 0 then
     some true
    else
     (idx p.Tests v0).bind fun v4 =>
     some (decide ((v4.Var : Int) ≥ (List.length p.Max : Int))))) : Option Bool)).bind fun ss =>
    match ss with
    | v5 =>
     (if v5 = true then
      some (Stp.done (Sum.inr false))
     else
      some (Stp.next (iw (v0 + 1))))
  else
   some (Stp.done (Sum.inl ())))
def rValid (N : Nat) (p : TProb) : Option Bool :=
 (loopM (rValid_b1 N p) N 0).bind fun ss =>
  match ss with
  | (Sum.inl _) =>
   (if ((List.length p.Min : Int) : Int) = (List.length p.Max : Int) then
    (if ((List.length p.Max : Int) : Int) ≤ 128 then
     (rSizes N p.Min).bind fun v0 =>
     (if v0 = true then
      (rSizes N p.Max).bind fun v1 =>
      (if v1 = true then
       (rPairs N p.Same (List.length p.Max : Int)).bind fun v2 =>
       (if v2 = true then
        (rPairs N p.Different (List.length p.Max : Int)).bind fun v3 =>
        some v3
       else
        some false)
      else
       some false)
     else
      some false)
    else
     some false)
   else
    some false)
  | (Sum.inr v4) => some v4
end Go.D

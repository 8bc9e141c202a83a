/- Plain counterparts, written by a program of mine (wip/tool). -/
import Derived.Test.YtakkacdhlocckaaT18
import Derived.Test.YtakkacdhlocckaaPA
import Derived.Test.YtakkacdhlocckaaPR
import Derived.Test.YtakkacdhlocckaaPB
import Derived.Test.YtakkacdhlocckaaPC
set_option linter.unusedVariables false
namespace Go.D
open Go Go.X
def rSize_b1 (N : Nat) (self : Proof → Option Int) (p : Proof) : (Int × Int) → Option (Stp (Int × Int) Int)
  | (n88, i89) =>
    (if (i89 : Int) < (List.length p.Children : Int) then
      (idx p.Children i89).bind fun x100 =>
      (self x100).bind fun r121 =>
      some (Stp.next ((iw (n88 + r121)), (iw (i89 + 1))))
    else
      some (Stp.done n88))
def rSize_step (N : Nat) (self : Proof → Option Int) (p : Proof) : Option Int :=
  (((if ((List.length p.Children : Int) : Int) > 0 then
    some (iw ((List.length p.Steps : Int) + 1))
  else
    some (List.length p.Steps : Int)) : Option Int)).bind fun ss =>
    match ss with
    | n10 =>
      (loopM (rSize_b1 N self p) N (n10, 0)).bind fun ss =>
        match ss with
        | n90 =>
          some n90
def rSize : Nat → Proof → Option Int
  | 0 => fun _ => none
  | N + 1 => rSize_step N (rSize N)
def rbigs_b1 (N : Nat) (l : (List Big)) : Int → Option (Stp Int (Sum Unit Bool))
  | i46 =>
    (if (i46 : Int) < (List.length l : Int) then
      (idx l i46).bind fun x56 =>
      (if ((List.length x56.Digits : Int) : Int) > 4 then
        some (Stp.done (Sum.inr false))
      else
        some (Stp.next (iw (i46 + 1))))
    else
      some (Stp.done (Sum.inl ())))
def rbigs (N : Nat) (l : (List Big)) : Option Bool :=
  (loopM (rbigs_b1 N l) N 0).bind fun ss =>
    match ss with
    | (Sum.inl _) =>
      some (decide (((List.length l : Int) : Int) ≤ 6))
    | (Sum.inr z77) => some z77
def rSmallStep_b1 (N : Nat) (s : Step) : Int → Option (Stp Int (Sum Unit Bool))
  | i56 =>
    (if (i56 : Int) < (List.length s.Uses : Int) then
      (idx s.Uses i56).bind fun x67 =>
      (if ((List.length x67.N.Digits : Int) : Int) > 4 then
        some (Stp.done (Sum.inr false))
      else
        some (Stp.next (iw (i56 + 1))))
    else
      some (Stp.done (Sum.inl ())))
def rSmallStep (N : Nat) (s : Step) : Option Bool :=
  (loopM (rSmallStep_b1 N s) N 0).bind fun ss =>
    match ss with
    | (Sum.inl _) =>
      (if ((List.length s.Uses : Int) : Int) ≤ 12 then
        some (decide (((List.length s.Divisor.Digits : Int) : Int) ≤ 4))
      else
        some false)
    | (Sum.inr z91) => some z91
def rweight_b1 (N : Nat) (p : Proof) : Int → Option (Stp Int (Sum Unit Int))
  | i121 =>
    (((if (i121 : Int) < (List.length p.Steps : Int) then
      some (decide (((iw (1 + (List.length p.Steps : Int))) : Int) ≤ 100))
    else
      some false) : Option Bool)).bind fun ss =>
      match ss with
      | x133 =>
        (if x133 = true then
          (idx p.Steps i121).bind fun x142 =>
          (rSmallStep N x142).bind fun r160 =>
          (if (!r160) = true then
            some (Stp.done (Sum.inr 101))
          else
            some (Stp.next (iw (i121 + 1))))
        else
          some (Stp.done (Sum.inl ())))
def rweight_b2 (N : Nat) (self : Proof → Option Int) (p : Proof) : (Int × Int) → Option (Stp (Int × Int) Int)
  | (n264, i265) =>
    (((if (i265 : Int) < (List.length p.Children : Int) then
      some (decide ((n264 : Int) ≤ 100))
    else
      some false) : Option Bool)).bind fun ss =>
      match ss with
      | x277 =>
        (if x277 = true then
          (idx p.Children i265).bind fun x286 =>
          (self x286).bind fun r308 =>
          some (Stp.next ((iw (n264 + r308)), (iw (i265 + 1))))
        else
          some (Stp.done n264))
def rweight_step (N : Nat) (self : Proof → Option Int) (p : Proof) : Option Int :=
  (((rbigs N p.Form).bind fun r21 =>
  (if (!r21) = true then
    some true
  else
    some (decide (((List.length p.Bound.Digits : Int) : Int) > 4))) : Option Bool)).bind fun ss =>
    match ss with
    | x18 =>
      (if x18 = true then
        some 101
      else
        (loopM (rweight_b1 N p) N 0).bind fun ss =>
          match ss with
          | (Sum.inl _) =>
            (loopM (rweight_b2 N self p) N ((iw (1 + (List.length p.Steps : Int))), 0)).bind fun ss =>
              match ss with
              | n266 =>
                some n266
          | (Sum.inr z321) => some z321)
def rweight : Nat → Proof → Option Int
  | 0 => fun _ => none
  | N + 1 => rweight_step N (rweight N)
def rSmallProof (N : Nat) (p : Proof) : Option Bool :=
  (rweight N p).bind fun r6 =>
  some (decide ((r6 : Int) ≤ 40))
end Go.D

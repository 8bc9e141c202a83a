/- Plain counterparts, written by a program of mine (wip/tool). -/
import Derived.Test.YtcakdidcpoolcaaGreatDoorT25
import Derived.Test.YtcakdidcpoolcaaGreatDoorFD25
import Derived.Test.YtcakdidcpoolcaaGreatDoorPA
import Derived.Test.YtcakdidcpoolcaaGreatDoorPR
import Derived.Test.YtcakdidcpoolcaaGreatDoorPB
import Derived.Test.YtcakdidcpoolcaaGreatDoorPC
set_option linter.unusedVariables false
set_option linter.unusedSimpArgs false
namespace Go.D
open Go Go.X
def rSize_b1 (N : Nat) (self : Proof → Option Int) (p : Proof) : (Int × Int) → Option (Stp (Int × Int) Int)
 | (v0, v1) =>
  (if (v1 : Int) < (List.length p.Children : Int) then
   (idx p.Children v1).bind fun v2 =>
   (self v2).bind fun v3 =>
   some (Stp.next ((iw (v0 + v3)), (iw (v1 + 1))))
  else
   some (Stp.done v0))
def rSize_step (N : Nat) (self : Proof → Option Int) (p : Proof) : Option Int :=
 (((if ((List.length p.Children : Int) : Int) > 0 then
  some (iw ((List.length p.Steps : Int) + 1))
 else
  some (List.length p.Steps : Int)) : Option Int)).bind fun ss =>
  match ss with
  | v0 =>
   (loopM (rSize_b1 N self p) N (v0, 0)).bind fun ss =>
    match ss with
    | v1 =>
     some v1
def rSize : Nat → Proof → Option Int
 | 0 => fun _ => none
 | N + 1 => rSize_step N (rSize N)
def rbigs_b1 (N : Nat) (l : (List Big)) : Int → Option (Stp Int (Sum Unit Bool))
 | v0 =>
  (if (v0 : Int) < (List.length l : Int) then
   (idx l v0).bind fun v1 =>
   (if ((List.length v1.Digits : Int) : Int) > 4 then
    some (Stp.done (Sum.inr false))
   else
    some (Stp.next (iw (v0 + 1))))
  else
   some (Stp.done (Sum.inl ())))
def rbigs (N : Nat) (l : (List Big)) : Option Bool :=
 (loopM (rbigs_b1 N l) N 0).bind fun ss =>
  match ss with
  | (Sum.inl _) =>
   some (decide (((List.length l : Int) : Int) ≤ 6))
  | (Sum.inr v0) => some v0
def rSmallStep_b1 (N : Nat) (s : Step) : Int → Option (Stp Int (Sum Unit Bool))
 | v0 =>
  (if (v0 : Int) < (List.length s.Uses : Int) then
   (idx s.Uses v0).bind fun v1 =>
   (if ((List.length v1.N.Digits : Int) : Int) > 4 then
    some (Stp.done (Sum.inr false))
   else
    some (Stp.next (iw (v0 + 1))))
  else
   some (Stp.done (Sum.inl ())))
def rSmallStep (N : Nat) (s : Step) : Option Bool :=
 (loopM (rSmallStep_b1 N s) N 0).bind fun ss =>
  match ss with
  | (Sum.inl _) =>
   (if ((List.length s.Uses : Int) : Int) ≤ 12 then
    some (decide (((List.length s.Divisor.Digits : Int) : Int) ≤ 4))
   else
    some false)
  | (Sum.inr v0) => some v0
def rweight_b1 (N : Nat) (p : Proof) : Int → Option (Stp Int (Sum Unit Int))
 | v0 =>
  (((if (v0 : Int) < (List.length p.Steps : Int) then
   some (decide (((iw (1 + (List.length p.Steps : Int))) : Int) ≤ 100))
  else
   some false) : Option Bool)).bind fun ss =>
   match ss with
   | v1 =>
    (if v1 = true then
     (idx p.Steps v0).bind fun v2 =>
     (rSmallStep N v2).bind fun v3 =>
     (if (!v3) = true then
      some (Stp.done (Sum.inr 101))
     else
      some (Stp.next (iw (v0 + 1))))
    else
     some (Stp.done (Sum.inl ())))
def rweight_b2 (N : Nat) (self : Proof → Option Int) (p : Proof) : (Int × Int) → Option (Stp (Int × Int) Int)
 | (v0, v1) =>
  (((if (v1 : Int) < (List.length p.Children : Int) then
   some (decide ((v0 : Int) ≤ 100))
  else
   some false) : Option Bool)).bind fun ss =>
   match ss with
   | v2 =>
    (if v2 = true then
     (idx p.Children v1).bind fun v3 =>
     (self v3).bind fun v4 =>
     some (Stp.next ((iw (v0 + v4)), (iw (v1 + 1))))
    else
     some (Stp.done v0))
def rweight_step (N : Nat) (self : Proof → Option Int) (p : Proof) : Option Int :=
 (((rbigs N p.Form).bind fun v0 =>
 (if (!v0) = true then
  some true
 else
  some (decide (((List.length p.Bound.Digits : Int) : Int) > 4))) : Option Bool)).bind fun ss =>
  match ss with
  | v1 =>
   (if v1 = true then
    some 101
   else
    (loopM (rweight_b1 N p) N 0).bind fun ss =>
     match ss with
     | (Sum.inl _) =>
      (loopM (rweight_b2 N self p) N ((iw (1 + (List.length p.Steps : Int))), 0)).bind fun ss =>
       match ss with
       | v2 =>
        some v2
     | (Sum.inr v3) => some v3)
def rweight : Nat → Proof → Option Int
 | 0 => fun _ => none
 | N + 1 => rweight_step N (rweight N)
def rSmallProof (N : Nat) (p : Proof) : Option Bool :=
 (rweight N p).bind fun r6 =>
 some (decide ((r6 : Int) ≤ 40))
end Go.D

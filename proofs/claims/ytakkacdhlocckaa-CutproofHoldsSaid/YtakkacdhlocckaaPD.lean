/- Plain counterparts, written by a program of mine (wip/tool). -/
import Derived.Test.YtakkacdhlocckaaT18
import Derived.Test.YtakkacdhlocckaaPA
import Derived.Test.YtakkacdhlocckaaPR
import Derived.Test.YtakkacdhlocckaaPB
import Derived.Test.YtakkacdhlocckaaPC
set_option linter.unusedVariables false
namespace Go.D
open Go Go.X
/- disjoint/disjointref18.zero -/
def rzero (N : Nat) (n : Int) : Option Ineq :=
  (mk1 (α := Big) 32 (Big.mk false []) n).bind fun x7 =>
  some (Ineq.mk x7 (Big.mk false ([] : (List Int))))
/- disjoint/disjointref18.Right -/
def rRight_b1 (N : Nat) (c : Constraint) (n : Int) : Int → Option (Stp Int (Sum Unit Bool))
  | i132 =>
    (if (i132 : Int) < (List.length c.Linear.Coefs : Int) then
      (idx c.Linear.Coefs i132).bind fun x142 =>
      (((if (x142.Var : Int) < 0 then
        some true
      else
        (if (x142.Var : Int) ≥ n then
          some true
        else
          (if (i132 : Int) > 0 then
            (idx c.Linear.Coefs (iw (i132 - 1))).bind fun x180 =>
            some (decide ((x142.Var : Int) ≤ x180.Var))
          else
            some false))) : Option Bool)).bind fun ss =>
        match ss with
        | x174 =>
          (if x174 = true then
            some (Stp.done (Sum.inr false))
          else
            some (Stp.next (iw (i132 + 1))))
    else
      some (Stp.done (Sum.inl ())))
def rRight (N : Nat) (c : Constraint) (n : Int) : Option Bool :=
  (loopM (rRight_b1 N c n) N 0).bind fun ss =>
    match ss with
    | (Sum.inl _) =>
      (if (n : Int) ≥ 0 then
        some (decide ((n : Int) ≤ 512))
      else
        some false)
    | (Sum.inr z205) => some z205
/- disjoint/disjointref18.flip -/
def rflip_b1 (N : Nat) (q : Ineq) : ((List Big) × Int) → Option (Stp ((List Big) × Int) (List Big))
  | (coefs321, i325) =>
    (if (i325 : Int) < (List.length q.Coefs : Int) then
      (idx q.Coefs i325).bind fun x354 =>
      (rNeg N x354).bind fun r369 =>
      (apnd 32 coefs321 [r369]).bind fun x456 =>
      some (Stp.next (x456, (iw (i325 + 1))))
    else
      some (Stp.done coefs321))
def rflip (N : Nat) (q : Ineq) (bound : Big) : Option Ineq :=
  (rNormal N bound).bind fun r16 =>
  (loopM (rflip_b1 N q) N (([] : (List Big)), 0)).bind fun ss =>
    match ss with
    | coefs333 =>
      some (Ineq.mk coefs333 r16)
/- disjoint/disjointref18.Of -/
def rIOf_b1 (N : Nat) (c : Constraint) : ((List Big) × Int) → Option (Stp ((List Big) × Int) (List Big))
  | (coefs425, i430) =>
    (if (i430 : Int) < (List.length c.Linear.Coefs : Int) then
      (idx c.Linear.Coefs i430).bind fun x453 =>
      (idx c.Linear.Coefs i430).bind fun x467 =>
      (rOf N x467.N).bind fun r481 =>
      (idx coefs425 x453.Var).bind fun x602 =>
      (upd1 coefs425 x453.Var r481).bind fun x611 =>
      some (Stp.next (x611, (iw (i430 + 1))))
    else
      some (Stp.done coefs425))
def rIOf (N : Nat) (c : Constraint) (n : Int) : Option (List Ineq) :=
  (rRight N c n).bind fun r6 =>
  (if (!r6) = true then
    some ([] : (List Ineq))
  else
    (rzero N n).bind fun r20 =>
    (loopM (rIOf_b1 N c) N (r20.Coefs, 0)).bind fun ss =>
      match ss with
      | coefs435 =>
        (rOf N c.Linear.Const).bind fun r630 =>
        (rNeg N r630).bind fun r649 =>
        (if (!c.Equal) = true then
          some [(Ineq.mk coefs435 r649)]
        else
          (rflip N (Ineq.mk coefs435 r649) r630).bind fun r679 =>
          some [(Ineq.mk coefs435 r649), r679]))
/- disjoint/disjointref18.System -/
def rSystem_b1 (N : Nat) (l : (List Constraint)) (n : Int) : ((List Ineq) × Int) → Option (Stp ((List Ineq) × Int) (Sum (List Ineq) (List Ineq)))
  | (out188, i192) =>
    (if (i192 : Int) < (List.length l : Int) then
      (idx l i192).bind fun x212 =>
      (rRight N x212 n).bind fun r227 =>
      (if (!r227) = true then
        some (Stp.done (Sum.inr ([] : (List Ineq))))
      else
        (idx l i192).bind fun x240 =>
        (rIOf N x240 n).bind fun r256 =>
        (apnd 56 out188 r256).bind fun x271 =>
        some (Stp.next (x271, (iw (i192 + 1)))))
    else
      some (Stp.done (Sum.inl out188)))
def rSystem (N : Nat) (l : (List Constraint)) (n : Int) : Option (List Ineq) :=
  (loopM (rSystem_b1 N l n) N (([] : (List Ineq)), 0)).bind fun ss =>
    match ss with
    | (Sum.inl out198) =>
      some out198
    | (Sum.inr z295) => some z295
/- disjoint/disjointref18.Even -/
def rEven_b1 (N : Nat) (l : (List Ineq)) : Int → Option (Stp Int (Sum Unit Bool))
  | i242 =>
    (if (i242 : Int) < (List.length l : Int) then
      (idx l i242).bind fun x252 =>
      (idx l 0).bind fun x270 =>
      (if ((List.length x252.Coefs : Int) : Int) ≠ (List.length x270.Coefs : Int) then
        some (Stp.done (Sum.inr false))
      else
        some (Stp.next (iw (i242 + 1))))
    else
      some (Stp.done (Sum.inl ())))
def rEven (N : Nat) (l : (List Ineq)) : Option Bool :=
  (loopM (rEven_b1 N l) N 0).bind fun ss =>
    match ss with
    | (Sum.inl _) =>
      some true
    | (Sum.inr z370) => some z370
/- disjoint/disjointref18.Bad -/
def rBad_b1 (N : Nat) (q : Ineq) : Int → Option (Stp Int (Sum Unit Bool))
  | i66 =>
    (if (i66 : Int) < (List.length q.Coefs : Int) then
      (idx q.Coefs i66).bind fun x77 =>
      (rSign N x77).bind fun r92 =>
      (if (r92 : Int) ≠ 0 then
        some (Stp.done (Sum.inr false))
      else
        some (Stp.next (iw (i66 + 1))))
    else
      some (Stp.done (Sum.inl ())))
def rBad (N : Nat) (q : Ineq) : Option Bool :=
  (loopM (rBad_b1 N q) N 0).bind fun ss =>
    match ss with
    | (Sum.inl _) =>
      (rSign N q.Bound).bind fun r103 =>
      some (decide ((r103 : Int) < 0))
    | (Sum.inr z111) => some z111
/- disjoint/disjointref18.Holds -/
def rHolds_b1 (N : Nat) (q : Ineq) (x : (List Big)) : (Bool × (List Int) × Int) → Option (Stp (Bool × (List Int) × Int) (Bool × (List Int)))
  | (negative298, digits299, i302) =>
    (if (i302 : Int) < (List.length x : Int) then
      (idx q.Coefs i302).bind fun x321 =>
      (idx x i302).bind fun x337 =>
      (rMul N x321 x337).bind fun r352 =>
      (rAdd N (Big.mk negative298 digits299) r352).bind fun r437 =>
      some (Stp.next (r437.Negative, r437.Digits, (iw (i302 + 1))))
    else
      some (Stp.done (negative298, digits299)))
def rHolds (N : Nat) (q : Ineq) (x : (List Big)) : Option Bool :=
  (if ((List.length q.Coefs : Int) : Int) ≠ (List.length x : Int) then
    some false
  else
    (loopM (rHolds_b1 N q x) N (false, [], 0)).bind fun ss =>
      match ss with
      | (negative305, digits306) =>
        (rCompare N (Big.mk negative305 digits306) q.Bound).bind fun r455 =>
        some (decide ((r455 : Int) ≤ 0)))
/- disjoint/disjointref18.All -/
def rAll_b1 (N : Nat) (l : (List Ineq)) (x : (List Big)) : Int → Option (Stp Int (Sum Unit Bool))
  | i64 =>
    (if (i64 : Int) < (List.length l : Int) then
      (idx l i64).bind fun x74 =>
      (rHolds N x74 x).bind fun r91 =>
      (if (!r91) = true then
        some (Stp.done (Sum.inr false))
      else
        some (Stp.next (iw (i64 + 1))))
    else
      some (Stp.done (Sum.inl ())))
def rAll (N : Nat) (l : (List Ineq)) (x : (List Big)) : Option Bool :=
  (loopM (rAll_b1 N l x) N 0).bind fun ss =>
    match ss with
    | (Sum.inl _) =>
      some true
    | (Sum.inr z103) => some z103
/- disjoint/disjointref18.Size -/
def rSize_b1 (N : Nat) (self : Proof → Option Int) (p : Proof) : (Int × Int) → Option (Stp (Int × Int) Int)
  | (n88, i89) =>
    (if (i89 : Int) < (List.length p.Children : Int) then
      (idx p.Children i89).bind fun x100 =>
      (self x100).bind fun r121 =>
      some (Stp.next ((iw (n88 + r121)), (iw (i89 + 1))))
    else
      some (Stp.done n88))
def rSize_step (N : Nat) (self : Proof → Option Int) (p : Proof) : Option Int :=
  (((if ((List.length p.Children : Int) : Int) > 0 then
    some (iw ((List.length p.Steps : Int) + 1))
  else
    some (List.length p.Steps : Int)) : Option Int)).bind fun ss =>
    match ss with
    | n10 =>
      (loopM (rSize_b1 N self p) N (n10, 0)).bind fun ss =>
        match ss with
        | n90 =>
          some n90
def rSize : Nat → Proof → Option Int
  | 0 => fun _ => none
  | N + 1 => rSize_step N (rSize N)
/- disjoint/disjointref18.Same -/
def rSame1_b1 (N : Nat) (a : Ineq) (b : Ineq) : Int → Option (Stp Int (Sum Unit Bool))
  | i293 =>
    (if (i293 : Int) < (List.length a.Coefs : Int) then
      (idx a.Coefs i293).bind fun x303 =>
      (idx b.Coefs i293).bind fun x318 =>
      (rSame N x303 x318).bind fun r406 =>
      (if (!r406) = true then
        some (Stp.done (Sum.inr false))
      else
        some (Stp.next (iw (i293 + 1))))
    else
      some (Stp.done (Sum.inl ())))
def rSame1 (N : Nat) (a : Ineq) (b : Ineq) : Option Bool :=
  (((if ((List.length a.Coefs : Int) : Int) ≠ (List.length b.Coefs : Int) then
    some true
  else
    (rSame N a.Bound b.Bound).bind fun r34 =>
    some (!r34)) : Option Bool)).bind fun ss =>
    match ss with
    | x25 =>
      (if x25 = true then
        some false
      else
        (loopM (rSame1_b1 N a b) N 0).bind fun ss =>
          match ss with
          | (Sum.inl _) =>
            some true
          | (Sum.inr z422) => some z422)
/- disjoint/disjointref18.Sames -/
def rSames_b1 (N : Nat) (a : (List Ineq)) (b : (List Ineq)) : Int → Option (Stp Int (Sum Unit Bool))
  | i227 =>
    (if (i227 : Int) < (List.length a : Int) then
      (idx a i227).bind fun x237 =>
      (idx b i227).bind fun x254 =>
      (rSame1 N x237 x254).bind fun r332 =>
      (if (!r332) = true then
        some (Stp.done (Sum.inr false))
      else
        some (Stp.next (iw (i227 + 1))))
    else
      some (Stp.done (Sum.inl ())))
def rSames (N : Nat) (a : (List Ineq)) (b : (List Ineq)) : Option Bool :=
  (if ((List.length a : Int) : Int) ≠ (List.length b : Int) then
    some false
  else
    (loopM (rSames_b1 N a b) N 0).bind fun ss =>
      match ss with
      | (Sum.inl _) =>
        some true
      | (Sum.inr z347) => some z347)
/- disjoint/disjointref18.bigs -/
def rbigs_b1 (N : Nat) (l : (List Big)) : Int → Option (Stp Int (Sum Unit Bool))
  | i46 =>
    (if (i46 : Int) < (List.length l : Int) then
      (idx l i46).bind fun x56 =>
      (if ((List.length x56.Digits : Int) : Int) > 4 then
        some (Stp.done (Sum.inr false))
      else
        some (Stp.next (iw (i46 + 1))))
    else
      some (Stp.done (Sum.inl ())))
def rbigs (N : Nat) (l : (List Big)) : Option Bool :=
  (loopM (rbigs_b1 N l) N 0).bind fun ss =>
    match ss with
    | (Sum.inl _) =>
      some (decide (((List.length l : Int) : Int) ≤ 6))
    | (Sum.inr z77) => some z77
/- disjoint/disjointref18.Small -/
def rSmall_b1 (N : Nat) (l : (List Ineq)) : Int → Option (Stp Int (Sum Unit Bool))
  | i210 =>
    (if (i210 : Int) < (List.length l : Int) then
      (((idx l i210).bind fun x269 =>
      (rbigs N x269.Coefs).bind fun r287 =>
      (if (!r287) = true then
        some true
      else
        (idx l i210).bind fun x295 =>
        some (decide (((List.length x295.Bound.Digits : Int) : Int) > 4))) : Option Bool)).bind fun ss =>
        match ss with
        | x266 =>
          (if x266 = true then
            some (Stp.done (Sum.inr false))
          else
            some (Stp.next (iw (i210 + 1))))
    else
      some (Stp.done (Sum.inl ())))
def rSmall (N : Nat) (l : (List Ineq)) : Option Bool :=
  (loopM (rSmall_b1 N l) N 0).bind fun ss =>
    match ss with
    | (Sum.inl _) =>
      some (decide (((List.length l : Int) : Int) ≤ 12))
    | (Sum.inr z323) => some z323
/- disjoint/disjointref18.SmallStep -/
def rSmallStep_b1 (N : Nat) (s : Step) : Int → Option (Stp Int (Sum Unit Bool))
  | i56 =>
    (if (i56 : Int) < (List.length s.Uses : Int) then
      (idx s.Uses i56).bind fun x67 =>
      (if ((List.length x67.N.Digits : Int) : Int) > 4 then
        some (Stp.done (Sum.inr false))
      else
        some (Stp.next (iw (i56 + 1))))
    else
      some (Stp.done (Sum.inl ())))
def rSmallStep (N : Nat) (s : Step) : Option Bool :=
  (loopM (rSmallStep_b1 N s) N 0).bind fun ss =>
    match ss with
    | (Sum.inl _) =>
      (if ((List.length s.Uses : Int) : Int) ≤ 12 then
        some (decide (((List.length s.Divisor.Digits : Int) : Int) ≤ 4))
      else
        some false)
    | (Sum.inr z91) => some z91
/- disjoint/disjointref18.weight -/
def rweight_b1 (N : Nat) (p : Proof) : Int → Option (Stp Int (Sum Unit Int))
  | i121 =>
    (((if (i121 : Int) < (List.length p.Steps : Int) then
      some (decide (((iw (1 + (List.length p.Steps : Int))) : Int) ≤ 100))
    else
      some false) : Option Bool)).bind fun ss =>
      match ss with
      | x133 =>
        (if x133 = true then
          (idx p.Steps i121).bind fun x142 =>
          (rSmallStep N x142).bind fun r160 =>
          (if (!r160) = true then
            some (Stp.done (Sum.inr 101))
          else
            some (Stp.next (iw (i121 + 1))))
        else
          some (Stp.done (Sum.inl ())))
def rweight_b2 (N : Nat) (self : Proof → Option Int) (p : Proof) : (Int × Int) → Option (Stp (Int × Int) Int)
  | (n264, i265) =>
    (((if (i265 : Int) < (List.length p.Children : Int) then
      some (decide ((n264 : Int) ≤ 100))
    else
      some false) : Option Bool)).bind fun ss =>
      match ss with
      | x277 =>
        (if x277 = true then
          (idx p.Children i265).bind fun x286 =>
          (self x286).bind fun r308 =>
          some (Stp.next ((iw (n264 + r308)), (iw (i265 + 1))))
        else
          some (Stp.done n264))
def rweight_step (N : Nat) (self : Proof → Option Int) (p : Proof) : Option Int :=
  (((rbigs N p.Form).bind fun r21 =>
  (if (!r21) = true then
    some true
  else
    some (decide (((List.length p.Bound.Digits : Int) : Int) > 4))) : Option Bool)).bind fun ss =>
    match ss with
    | x18 =>
      (if x18 = true then
        some 101
      else
        (loopM (rweight_b1 N p) N 0).bind fun ss =>
          match ss with
          | (Sum.inl _) =>
            (loopM (rweight_b2 N self p) N ((iw (1 + (List.length p.Steps : Int))), 0)).bind fun ss =>
              match ss with
              | n266 =>
                some n266
          | (Sum.inr z321) => some z321)
def rweight : Nat → Proof → Option Int
  | 0 => fun _ => none
  | N + 1 => rweight_step N (rweight N)
/- disjoint/disjointref18.SmallProof -/
def rSmallProof (N : Nat) (p : Proof) : Option Bool :=
  (rweight N p).bind fun r6 =>
  some (decide ((r6 : Int) ≤ 40))
end Go.D

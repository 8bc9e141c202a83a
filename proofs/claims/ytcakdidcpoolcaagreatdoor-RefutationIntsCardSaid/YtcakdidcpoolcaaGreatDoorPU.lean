/- Plain counterparts, written by a program of mine (wip/tool). -/
import Derived.Test.YtcakdidcpoolcaaGreatDoorT25
import Derived.Test.YtcakdidcpoolcaaGreatDoorFD25
import Derived.Test.YtcakdidcpoolcaaGreatDoorPA
import Derived.Test.YtcakdidcpoolcaaGreatDoorPR
import Derived.Test.YtcakdidcpoolcaaGreatDoorPB
import Derived.Test.YtcakdidcpoolcaaGreatDoorPC
import Derived.Test.YtcakdidcpoolcaaGreatDoorPD
import Derived.Test.YtcakdidcpoolcaaGreatDoorPI
import Derived.Test.YtcakdidcpoolcaaGreatDoorPH
import Derived.Test.YtcakdidcpoolcaaGreatDoorPS
import Derived.Test.YtcakdidcpoolcaaGreatDoorPV
set_option linter.unusedVariables false
set_option linter.unusedSimpArgs false
namespace Go.D
open Go Go.X
def watMost (N : Nat) (pa : Int) (n : Int) (c : Int) : Option Constraint :=
 some (Constraint.mk (Linear.mk c [(Coef.mk pa n)]) false)
def wscaled_b1 (N : Nat) (f : Linear) (n : Int) : ((List Coef) × Int) → Option (Stp ((List Coef) × Int) (List Coef))
 | (v0, v1) =>
  (if (v1 : Int) < (List.length f.Coefs : Int) then
   (idx f.Coefs v1).bind fun v2 =>
   (idx f.Coefs v1).bind fun v3 =>
   (apnd 16 v0 [(Coef.mk v2.Var (iw (n * v3.N)))]).bind fun v4 =>
   some (Stp.next (v4, (iw (v1 + 1))))
  else
   some (Stp.done v0))
def wscaled (N : Nat) (f : Linear) (n : Int) (more : Coef) : Option (List Coef) :=
 (loopM (wscaled_b1 N f n) N (([] : (List Coef)), 0)).bind fun ss =>
  match ss with
  | v0 =>
   (apnd 16 v0 [more]).bind fun v1 =>
   some v1
def whigh (N : Nat) (l : (List RVar)) (ranges : (List Arr2Int)) (pc : Int) : Option Int :=
 (idx ranges pc).bind fun x1 =>
 (idx l pc).bind fun v0 =>
 (if (x1.e1 : Int) < v0.Max then
  (idx ranges pc).bind fun v1 =>
  some v1.e1
 else
  (idx l pc).bind fun v2 =>
  some v2.Max)
def wInts_b1 (N : Nat) (c : RClause) (l : (List RVar)) : ((List Constraint) × Int) → Option (Stp ((List Constraint) × Int) (List Constraint))
 | (v0, v1) =>
  (if (v1 : Int) < (List.length c.NotNull : Int) then
   (idx c.NotNull v1).bind fun v2 =>
   (idx l v2).bind fun v3 =>
   (if (v3.Ty : Int) = 1 then
    (idx l v2).bind fun v4 =>
    (watMost N v2 (-1) v4.Low).bind fun v5 =>
    (idx l v2).bind fun v6 =>
    (watMost N v2 1 (iw (0 - v6.High))).bind fun v7 =>
    (apnd 40 v0 [v5, v7]).bind fun v8 =>
    some (Stp.next (v8, (iw (v1 + 1))))
   else
    some (Stp.next (v0, (iw (v1 + 1)))))
  else
   some (Stp.done v0))
def wInts_b2 (N : Nat) (c : RClause) (l : (List RVar)) (ranges : (List Arr2Int)) : ((List Constraint) × Int) → Option (Stp ((List Constraint) × Int) (List Constraint))
 | (v0, v1) =>
  (if (v1 : Int) < (List.length c.Auxiliary : Int) then
   (idx c.Auxiliary v1).bind fun v2 =>
   (if (v2.By : Int) = 0 then
    (idx ranges v2.Text).bind fun v3 =>
    (watMost N (iw ((List.length l : Int) + v1)) (-1) v3.e0).bind fun v4 =>
    (whigh N l ranges v2.Text).bind fun v5 =>
    (watMost N (iw ((List.length l : Int) + v1)) 1 (iw (0 - v5))).bind fun v6 =>
    (apnd 40 v0 [v4, v6]).bind fun v7 =>
    some (Stp.next (v7, (iw (v1 + 1))))
   else
    (wscaled N v2.Of (-1) (Coef.mk (iw ((List.length l : Int) + v1)) v2.By)).bind fun v8 =>
    (apnd 40 v0 [(Constraint.mk (Linear.mk (iw (0 - v2.Of.Const)) v8) false)]).bind fun v9 =>
    (wscaled N v2.Of 1 (Coef.mk (iw ((List.length l : Int) + v1)) (iw (0 - v2.By)))).bind fun v10 =>
    (apnd 40 v9 [(Constraint.mk (Linear.mk (iw ((iw (v2.Of.Const - v2.By)) + 1)) v10) false)]).bind fun v11 =>
    some (Stp.next (v11, (iw (v1 + 1)))))
  else
   some (Stp.done v0))
def wInts (N : Nat) (l : (List RVar)) (c : RClause) (ranges : (List Arr2Int)) : Option (List Constraint) :=
 (loopM (wInts_b1 N c l) N (([] : (List Constraint)), 0)).bind fun ss =>
  match ss with
  | v0 =>
   (loopM (wInts_b2 N c l ranges) N (v0, 0)).bind fun ss =>
    match ss with
    | v1 =>
     (apnd 40 v1 c.Ints).bind fun v2 =>
     some v2
def wRight_b1 (N : Nat) (ranges : (List Arr2Int)) : Int → Option (Stp Int (Sum Unit Bool))
 | v0 =>
  (if (v0 : Int) < (List.length ranges : Int) then
   (((idx ranges v0).bind fun v1 =>
   (if (v1.e0 : Int) < 0 then
    some true
   else
    (idx ranges v0).bind fun v2 =>
    (if (v2.e0 : Int) > 16 then
     some true
    else
     (idx ranges v0).bind fun v3 =>
     (if (v3.e1 : Int) < 0 then
      some true
     else
      (idx ranges v0).bind fun v4 =>
      some (decide ((v4.e1 : Int) > 16))))) : Option Bool)).bind fun ss =>
    match ss with
    | v5 =>
     (if v5 = true then
      some (Stp.done (Sum.inr false))
     else
      some (Stp.next (iw (v0 + 1))))
  else
   some (Stp.done (Sum.inl ())))
def wRight (N : Nat) (l : (List RVar)) (ranges : (List Arr2Int)) : Option Bool :=
 (if ((List.length ranges : Int) : Int) ≠ (List.length l : Int) then
  some false
 else
  (loopM (wRight_b1 N ranges) N 0).bind fun ss =>
   match ss with
   | (Sum.inl _) =>
    some true
   | (Sum.inr v0) => some v0)
def wSame_b2 (N : Nat) (v0 : Linear) (v1 : Linear) : Int → Option (Stp Int (Sum Unit Bool))
 | v2 =>
  (if (v2 : Int) < (List.length v0.Coefs : Int) then
   (idx v0.Coefs v2).bind fun v3 =>
   (idx v1.Coefs v2).bind fun v4 =>
   (if ¬ ((v3.Var : Int) = v4.Var ∧ (v3.N : Int) = v4.N) then
    some (Stp.done (Sum.inr false))
   else
    some (Stp.next (iw (v2 + 1))))
  else
   some (Stp.done (Sum.inl ())))
def wSame_b1 (N : Nat) (a : (List Constraint)) (b : (List Constraint)) : Int → Option (Stp Int (Sum Unit Bool))
 | v0 =>
  (if (v0 : Int) < (List.length a : Int) then
   (((idx a v0).bind fun v1 =>
   (idx b v0).bind fun v2 =>
   some (v1.Linear, v2.Linear) : Option (Linear × Linear))).bind fun ss =>
    match ss with
    | (v3, v4) =>
     (((idx a v0).bind fun v5 =>
     (idx b v0).bind fun v6 =>
     (if (!(v5.Equal == v6.Equal)) = true then
      some true
     else
      (if (v3.Const : Int) ≠ v4.Const then
       some true
      else
       some (decide (((List.length v3.Coefs : Int) : Int) ≠ (List.length v4.Coefs : Int))))) : Option Bool)).bind fun ss =>
      match ss with
      | v7 =>
       (if v7 = true then
        some (Stp.done (Sum.inr false))
       else
        (loopM (wSame_b2 N v3 v4) N 0).bind fun ss =>
         match ss with
         | (Sum.inl _) =>
          some (Stp.next (iw (v0 + 1)))
         | (Sum.inr v8) => some (Stp.done (Sum.inr v8)))
  else
   some (Stp.done (Sum.inl ())))
def wSame (N : Nat) (a : (List Constraint)) (b : (List Constraint)) : Option Bool :=
 (if ((List.length a : Int) : Int) ≠ (List.length b : Int) then
  some false
 else
  (loopM (wSame_b1 N a b) N 0).bind fun ss =>
   match ss with
   | (Sum.inl _) =>
    some true
   | (Sum.inr v0) => some v0)
def wDomains_b1 (N : Nat) (l : (List RVar)) : Int → Option (Stp Int (Sum Unit Bool))
 | v0 =>
  (if (v0 : Int) < (List.length l : Int) then
   (idx l v0).bind fun v1 =>
   (((if (v1.Ty : Int) = 1 then
    (if (v1.Low : Int) < (-2147483648) then
     some true
    else
     (if (v1.Low : Int) > 2147483647 then
      some true
     else
      (if (v1.High : Int) < (-2147483648) then
       some true
      else
       some (decide ((v1.High : Int) > 2147483647)))))
   else
    some false) : Option Bool)).bind fun ss =>
    match ss with
    | v2 =>
     (if v2 = true then
      some (Stp.done (Sum.inr false))
     else
      (((if (v1.Ty : Int) = 2 then
       (if (v1.Max : Int) < 0 then
        some true
       else
        (if (v1.Max : Int) > 16 then
         some true
        else
         (if (v1.Ty : Int) ≠ 1 then
          some (decide ((v1.Ty : Int) ≠ 2))
         else
          some false)))
      else
       (if (v1.Ty : Int) ≠ 1 then
        some (decide ((v1.Ty : Int) ≠ 2))
       else
        some false)) : Option Bool)).bind fun ss =>
       match ss with
       | v3 =>
        (if v3 = true then
         some (Stp.done (Sum.inr false))
        else
         some (Stp.next (iw (v0 + 1)))))
  else
   some (Stp.done (Sum.inl ())))
def wDomains (N : Nat) (l : (List RVar)) : Option Bool :=
 (loopM (wDomains_b1 N l) N 0).bind fun ss =>
  match ss with
  | (Sum.inl _) =>
   some (decide (((List.length l : Int) : Int) ≤ 10))
  | (Sum.inr v0) => some v0
end Go.D

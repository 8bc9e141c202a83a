/- Plain counterparts, written by a program of mine (wip/tool). -/
import Derived.Test.YtcakdidcpoolcaaGreatDoorT25
import Derived.Test.YtcakdidcpoolcaaGreatDoorFD25
import Derived.Test.YtcakdidcpoolcaaGreatDoorPA
import Derived.Test.YtcakdidcpoolcaaGreatDoorPR
import Derived.Test.YtcakdidcpoolcaaGreatDoorPB
import Derived.Test.YtcakdidcpoolcaaGreatDoorPC
import Derived.Test.YtcakdidcpoolcaaGreatDoorPD
import Derived.Test.YtcakdidcpoolcaaGreatDoorPI
import Derived.Test.YtcakdidcpoolcaaGreatDoorPH
import Derived.Test.YtcakdidcpoolcaaGreatDoorPS
import Derived.Test.YtcakdidcpoolcaaGreatDoorPV
set_option linter.unusedVariables false
set_option linter.unusedSimpArgs false
namespace Go.D
open Go Go.X
def whigh (N : Nat) (l : (List RVar)) (ranges : (List Arr2Int)) (pc : Int) : Option Int :=
 (idx ranges pc).bind fun x1 =>
 (idx l pc).bind fun v0 =>
 (if (x1.e1 : Int) < v0.Max then
  (idx ranges pc).bind fun v1 =>
  some v1.e1
 else
  (idx l pc).bind fun v2 =>
  some v2.Max)
def wplace_b1 (N : Nat) (l : (List Int)) (n : Int) : Int → Option (Stp Int (Sum Unit Int))
 | v0 =>
  (if (v0 : Int) < (List.length l : Int) then
   (idx l v0).bind fun v1 =>
   (if (v1 : Int) = n then
    some (Stp.done (Sum.inr v0))
   else
    some (Stp.next (iw (v0 + 1))))
  else
   some (Stp.done (Sum.inl ())))
def wplace (N : Nat) (l : (List Int)) (n : Int) : Option Int :=
 (loopM (wplace_b1 N l n) N 0).bind fun ss =>
  match ss with
  | (Sum.inl _) =>
   some (-1)
  | (Sum.inr v0) => some v0
def wpairs_b1 (N : Nat) (p : (List Arr2Int)) (vars : (List Int)) : ((List Arr2Int) × Int) → Option (Stp ((List Arr2Int) × Int) (List Arr2Int))
 | (v0, v1) =>
  (if (v1 : Int) < (List.length p : Int) then
   (idx p v1).bind fun v2 =>
   (wplace N vars v2.e0).bind fun v3 =>
   (idx p v1).bind fun v4 =>
   (wplace N vars v4.e1).bind fun v5 =>
   (apnd 16 v0 [(Arr2Int.mk v3 v5)]).bind fun v6 =>
   some (Stp.next (v6, (iw (v1 + 1))))
  else
   some (Stp.done v0))
def wpairs (N : Nat) (p : (List Arr2Int)) (vars : (List Int)) : Option (List Arr2Int) :=
 (loopM (wpairs_b1 N p vars) N (([] : (List Arr2Int)), 0)).bind fun ss =>
  match ss with
  | v0 =>
   some v0
def wTexts_b1 (N : Nat) (c : RClause) (l : (List RVar)) (ranges : (List Arr2Int)) : ((List Int) × (List Int) × (List Int) × Int) → Option (Stp ((List Int) × (List Int) × (List Int) × Int) ((List Int) × (List Int) × (List Int)))
 | (v0, v1, v2, v3) =>
  (if (v3 : Int) < (List.length c.NotNull : Int) then
   (idx c.NotNull v3).bind fun v4 =>
   (idx l v4).bind fun v5 =>
   (if (v5.Ty : Int) = 2 then
    (apnd 8 v2 [v4]).bind fun v6 =>
    (idx ranges v4).bind fun v7 =>
    (apnd 8 v0 [v7.e0]).bind fun v8 =>
    (whigh N l ranges v4).bind fun v9 =>
    (apnd 8 v1 [v9]).bind fun v10 =>
    some (Stp.next (v8, v10, v6, (iw (v3 + 1))))
   else
    some (Stp.next (v0, v1, v2, (iw (v3 + 1)))))
  else
   some (Stp.done (v0, v1, v2)))
def wTexts_b2 (N : Nat) (c : RClause) (v0 : (List Int)) : ((List TTest) × Int) → Option (Stp ((List TTest) × Int) (List TTest))
 | (v1, v2) =>
  (if (v2 : Int) < (List.length c.Tests : Int) then
   (idx c.Tests v2).bind fun v3 =>
   (wplace N v0 v3.Var).bind fun v4 =>
   (apnd 40 v1 [(TTest.mk v4 v3.Kind v3.Negated v3.Text)]).bind fun v5 =>
   some (Stp.next (v5, (iw (v2 + 1))))
  else
   some (Stp.done v1))
def wTexts (N : Nat) (l : (List RVar)) (c : RClause) (ranges : (List Arr2Int)) : Option (TProb × (List Int)) :=
 (loopM (wTexts_b1 N c l ranges) N (([] : (List Int)), ([] : (List Int)), ([] : (List Int)), 0)).bind fun ss =>
  match ss with
  | (v0, v1, v2) =>
   (loopM (wTexts_b2 N c v2) N (([] : (List TTest)), 0)).bind fun ss =>
    match ss with
    | v3 =>
     (wpairs N c.Same v2).bind fun v4 =>
     (wpairs N c.Different v2).bind fun v5 =>
     some ((TProb.mk v0 v1 v3 v4 v5), v2)
def wRight_b1 (N : Nat) (ranges : (List Arr2Int)) : Int → Option (Stp Int (Sum Unit Bool))
 | v0 =>
  (if (v0 : Int) < (List.length ranges : Int) then
   (((idx ranges v0).bind fun v1 =>
   (if (v1.e0 : Int) < 0 then
    some true
   else
    (idx ranges v0).bind fun v2 =>
    (if (v2.e0 : Int) > 16 then
     some true
    else
     (idx ranges v0).bind fun v3 =>
     (if (v3.e1 : Int) < 0 then
      some true
     else
      (idx ranges v0).bind fun v4 =>
      some (decide ((v4.e1 : Int) > 16))))) : Option Bool)).bind fun ss =>
    match ss with
    | v5 =>
     (if v5 = true then
      some (Stp.done (Sum.inr false))
     else
      some (Stp.next (iw (v0 + 1))))
  else
   some (Stp.done (Sum.inl ())))
def wRight (N : Nat) (l : (List RVar)) (ranges : (List Arr2Int)) : Option Bool :=
 (if ((List.length ranges : Int) : Int) ≠ (List.length l : Int) then
  some false
 else
  (loopM (wRight_b1 N ranges) N 0).bind fun ss =>
   match ss with
   | (Sum.inl _) =>
    some true
   | (Sum.inr v0) => some v0)
def wDomains_b1 (N : Nat) (l : (List RVar)) : Int → Option (Stp Int (Sum Unit Bool))
 | v0 =>
  (if (v0 : Int) < (List.length l : Int) then
   (idx l v0).bind fun v1 =>
   (((if (v1.Ty : Int) = 1 then
    (if (v1.Low : Int) < (-2147483648) then
     some true
    else
     (if (v1.Low : Int) > 2147483647 then
      some true
     else
      (if (v1.High : Int) < (-2147483648) then
       some true
      else
       some (decide ((v1.High : Int) > 2147483647)))))
   else
    some false) : Option Bool)).bind fun ss =>
    match ss with
    | v2 =>
     (if v2 = true then
      some (Stp.done (Sum.inr false))
     else
      (((if (v1.Ty : Int) = 2 then
       (if (v1.Max : Int) < 0 then
        some true
       else
        (if (v1.Max : Int) > 16 then
         some true
        else
         (if (v1.Ty : Int) ≠ 1 then
          some (decide ((v1.Ty : Int) ≠ 2))
         else
          some false)))
      else
       (if (v1.Ty : Int) ≠ 1 then
        some (decide ((v1.Ty : Int) ≠ 2))
       else
        some false)) : Option Bool)).bind fun ss =>
       match ss with
       | v3 =>
        (if v3 = true then
         some (Stp.done (Sum.inr false))
        else
         some (Stp.next (iw (v0 + 1)))))
  else
   some (Stp.done (Sum.inl ())))
def wDomains (N : Nat) (l : (List RVar)) : Option Bool :=
 (loopM (wDomains_b1 N l) N 0).bind fun ss =>
  match ss with
  | (Sum.inl _) =>
   some (decide (((List.length l : Int) : Int) ≤ 10))
  | (Sum.inr v0) => some v0
end Go.D

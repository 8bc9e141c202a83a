/- Plain counterparts, written by a program of mine (wip/tool). -/
import Derived.Test.YtcakdidcpoolcaaGreatDoorT25
import Derived.Test.YtcakdidcpoolcaaGreatDoorFD25
import Derived.Test.YtcakdidcpoolcaaGreatDoorPA
import Derived.Test.YtcakdidcpoolcaaGreatDoorPR
import Derived.Test.YtcakdidcpoolcaaGreatDoorPB
import Derived.Test.YtcakdidcpoolcaaGreatDoorPC
import Derived.Test.YtcakdidcpoolcaaGreatDoorPD
import Derived.Test.YtcakdidcpoolcaaGreatDoorPI
import Derived.Test.YtcakdidcpoolcaaGreatDoorPH
import Derived.Test.YtcakdidcpoolcaaGreatDoorPS
import Derived.Test.YtcakdidcpoolcaaGreatDoorPV
import Derived.Test.YtcakdidcpoolcaaGreatDoorPU
set_option linter.unusedVariables false
set_option linter.unusedSimpArgs false
namespace Go.D
open Go Go.X
def lbig (N : Nat) (n : Int) : Option Big :=
 (rOf N n).bind fun r6 =>
 some r6
def awake (N : Nat)  : Option Bool :=
 (lbig N 1).bind fun v0 =>
 (lbig N 2).bind fun v1 =>
 (lbig N 1).bind fun v2 =>
 (lbig N 2).bind fun v3 =>
 (lbig N 1).bind fun v4 =>
 (lbig N 1).bind fun v5 =>
 (lbig N 1).bind fun v6 =>
 (vCheck N [(RVar.mk 1 (-9) 9 0 false)] (RClause.mk [] [0] [] [(Constraint.mk (Linear.mk (-5) [(Coef.mk 0 2)]) true)] [] [] []) (Refut.mk 2 0 0 (Proof.mk [(Step.mk [(Use.mk 2 v0)] v1), (Step.mk [(Use.mk 3 v2)] v3), (Step.mk [(Use.mk 4 v4), (Use.mk 5 v5)] v6)] [] (Big.mk false []) []) [])).bind fun v7 =>
 (if v7 = true then
  (vFormat N (Refut.mk 2 0 0 (Proof.mk [(Step.mk [(Use.mk 2 v0)] v1), (Step.mk [(Use.mk 3 v2)] v3), (Step.mk [(Use.mk 4 v4), (Use.mk 5 v5)] v6)] [] (Big.mk false []) []) [])).bind fun v8 =>
  (if v8 = ([105, 110, 116, 101, 103, 101, 114, 115, 32, 51] : List UInt8) then
   (vCheck N [(RVar.mk 1 (-9) 9 0 false)] (RClause.mk [0] [] [] [] [] [] []) (Refut.mk 0 0 0 (Proof.mk [] [] (Big.mk false []) []) [])).bind fun v9 =>
   (if v9 = true then
    (vCheck N [(RVar.mk 1 (-9) 9 0 false)] (RClause.mk [] [0] [] [] [] [] []) (Refut.mk 0 0 0 (Proof.mk [] [] (Big.mk false []) []) [])).bind fun v10 =>
    some (!v10)
   else
    some false)
  else
   some false)
 else
  some false)
def lright (N : Nat) (x : RCase) : Option Bool :=
 (wDomains N x.L).bind fun r6 =>
 (if r6 = true then
  (sFew N x.C).bind fun v0 =>
  (if v0 = true then
   (sValid N x.C x.L).bind fun v1 =>
   (if v1 = true then
    (wRight N x.L x.Ranges).bind fun v2 =>
    some v2
   else
    some false)
  else
   some false)
 else
  some false)
def lints_b1 (N : Nat) (a : (List Int)) (b : (List Int)) : Int → Option (Stp Int (Sum Unit Bool))
 | v0 =>
  (if (v0 : Int) < (List.length a : Int) then
   (idx a v0).bind fun v1 =>
   (idx b v0).bind fun v2 =>
   (if (v1 : Int) ≠ v2 then
    some (Stp.done (Sum.inr false))
   else
    some (Stp.next (iw (v0 + 1))))
  else
   some (Stp.done (Sum.inl ())))
def lints (N : Nat) (a : (List Int)) (b : (List Int)) : Option Bool :=
 (if ((List.length a : Int) : Int) ≠ (List.length b : Int) then
  some false
 else
  (loopM (lints_b1 N a b) N 0).bind fun ss =>
   match ss with
   | (Sum.inl _) =>
    some true
   | (Sum.inr v0) => some v0)
def ltwos_b1 (N : Nat) (a : (List Arr2Int)) (b : (List Arr2Int)) : Int → Option (Stp Int (Sum Unit Bool))
 | v0 =>
  (if (v0 : Int) < (List.length a : Int) then
   (idx a v0).bind fun v1 =>
   (idx b v0).bind fun v2 =>
   (if ¬ ((v1.e0 : Int) = v2.e0 ∧ (v1.e1 : Int) = v2.e1) then
    some (Stp.done (Sum.inr false))
   else
    some (Stp.next (iw (v0 + 1))))
  else
   some (Stp.done (Sum.inl ())))
def ltwos (N : Nat) (a : (List Arr2Int)) (b : (List Arr2Int)) : Option Bool :=
 (if ((List.length a : Int) : Int) ≠ (List.length b : Int) then
  some false
 else
  (loopM (ltwos_b1 N a b) N 0).bind fun ss =>
   match ss with
   | (Sum.inl _) =>
    some true
   | (Sum.inr v0) => some v0)
def lproblem_b1 (N : Nat) (p : TProb) (x : TProb) : Int → Option (Stp Int (Sum Unit Bool))
 | v0 =>
  (if (v0 : Int) < (List.length p.Tests : Int) then
   (idx p.Tests v0).bind fun v1 =>
   (idx x.Tests v0).bind fun v2 =>
   (if (!(decide ((v1.Var : Int) = v2.Var) && (decide ((v1.Kind : Int) = v2.Kind) && ((v1.Negated == v2.Negated) && (decide (v1.Text = v2.Text) && true))))) = true then
    some (Stp.done (Sum.inr false))
   else
    some (Stp.next (iw (v0 + 1))))
  else
   some (Stp.done (Sum.inl ())))
def lproblem (N : Nat) (p : TProb) (x : TProb) : Option Bool :=
 (((lints N p.Min x.Min).bind fun v0 =>
 (if (!v0) = true then
  some true
 else
  (lints N p.Max x.Max).bind fun v1 =>
  (if (!v1) = true then
   some true
  else
   (ltwos N p.Same x.Same).bind fun v2 =>
   (if (!v2) = true then
    some true
   else
    (ltwos N p.Different x.Different).bind fun v3 =>
    (if (!v3) = true then
     some true
    else
     some (decide (((List.length p.Tests : Int) : Int) ≠ (List.length x.Tests : Int))))))) : Option Bool)).bind fun ss =>
  match ss with
  | v4 =>
   (if v4 = true then
    some false
   else
    (loopM (lproblem_b1 N p x) N 0).bind fun ss =>
     match ss with
     | (Sum.inl _) =>
      some true
     | (Sum.inr v5) => some v5)
def lawTexts (N : Nat) (x : RCase) : Option Bool :=
 (((awake N ).bind fun v0 =>
 (if (!v0) = true then
  some true
 else
  (lright N x).bind fun v1 =>
  some (!v1)) : Option Bool)).bind fun ss =>
  match ss with
  | v2 =>
   (if v2 = true then
    (awake N ).bind fun v3 =>
    some v3
   else
    (vTexts N x.L x.C x.Ranges).bind fun v4 =>
    (wTexts N x.L x.C x.Ranges).bind fun v5 =>
    (lproblem N v4.1 v5.1).bind fun v6 =>
    (if v6 = true then
     (lints N v4.2 v5.2).bind fun v7 =>
     some v7
    else
     some false))
end Go.D

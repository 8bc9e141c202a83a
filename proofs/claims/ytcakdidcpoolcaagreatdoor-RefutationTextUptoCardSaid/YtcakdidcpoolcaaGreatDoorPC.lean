/- Plain counterparts, written by a program of mine (wip/tool). -/
import Derived.Test.YtcakdidcpoolcaaGreatDoorT25
import Derived.Test.YtcakdidcpoolcaaGreatDoorFD25
import Derived.Test.YtcakdidcpoolcaaGreatDoorPA
import Derived.Test.YtcakdidcpoolcaaGreatDoorPR
import Derived.Test.YtcakdidcpoolcaaGreatDoorPB
set_option linter.unusedVariables false
set_option linter.unusedSimpArgs false
namespace Go.D
open Go Go.X
def cvalid_b1 (N : Nat) (c : Constraint) (n : Int) : (Int × Int) → Option (Stp (Int × Int) (Sum Unit Bool))
 | (v0, v1) =>
  (if (v1 : Int) < (List.length c.Linear.Coefs : Int) then
   (idx c.Linear.Coefs v1).bind fun v2 =>
   (((if (v2.Var : Int) ≤ v0 then
    some true
   else
    some (decide ((v2.Var : Int) ≥ n))) : Option Bool)).bind fun ss =>
    match ss with
    | v3 =>
     (if v3 = true then
      some (Stp.done (Sum.inr false))
     else
      some (Stp.next (v2.Var, (iw (v1 + 1)))))
  else
   some (Stp.done (Sum.inl ())))
def cvalid (N : Nat) (c : Constraint) (n : Int) : Option Bool :=
 (loopM (cvalid_b1 N c n) N ((-1), 0)).bind fun ss =>
  match ss with
  | (Sum.inl _) =>
   (if (n : Int) ≥ 0 then
    some (decide ((n : Int) ≤ 512))
   else
    some false)
  | (Sum.inr v0) => some v0
def negated_b1 (N : Nat) (l : (List Big)) : ((List Big) × Int) → Option (Stp ((List Big) × Int) (List Big))
 | (v0, v1) =>
  (if (v1 : Int) < (List.length l : Int) then
   (idx l v1).bind fun v2 =>
   (bNeg N v2).bind fun v3 =>
   (apnd 32 v0 [v3]).bind fun v4 =>
   some (Stp.next (v4, (iw (v1 + 1))))
  else
   some (Stp.done v0))
def negated (N : Nat) (l : (List Big)) (bound : Big) : Option Ineq :=
 (bNormal N bound).bind fun v0 =>
 (loopM (negated_b1 N l) N (([] : (List Big)), 0)).bind fun ss =>
  match ss with
  | v1 =>
   some (Ineq.mk v1 v0)
def cOf_b1 (N : Nat) (c : Constraint) : ((List Big) × Int) → Option (Stp ((List Big) × Int) (List Big))
 | (v0, v1) =>
  (if (v1 : Int) < (List.length c.Linear.Coefs : Int) then
   (idx c.Linear.Coefs v1).bind fun v2 =>
   (bOf N v2.N).bind fun v3 =>
   (idx v0 v2.Var).bind fun v4 =>
   (upd1 v0 v2.Var v3).bind fun v5 =>
   some (Stp.next (v5, (iw (v1 + 1))))
  else
   some (Stp.done v0))
def cOf (N : Nat) (c : Constraint) (n : Int) : Option (List Ineq) :=
 (cvalid N c n).bind fun r6 =>
 (if (!r6) = true then
  some ([] : (List Ineq))
 else
  (mk1 (α := Big) 32 (Big.mk false []) n).bind fun v0 =>
  (bOf N c.Linear.Const).bind fun v1 =>
  (bNeg N v1).bind fun v2 =>
  (loopM (cOf_b1 N c) N (v0, 0)).bind fun ss =>
   match ss with
   | v3 =>
    (if (!c.Equal) = true then
     some [(Ineq.mk v3 v2)]
    else
     (bOf N c.Linear.Const).bind fun v4 =>
     (negated N v3 v4).bind fun v5 =>
     some [(Ineq.mk v3 v2), v5]))
def cSystem_b1 (N : Nat) (l : (List Constraint)) (n : Int) : ((List Ineq) × Int) → Option (Stp ((List Ineq) × Int) (Sum (List Ineq) (List Ineq)))
 | (v0, v1) =>
  (if (v1 : Int) < (List.length l : Int) then
   (idx l v1).bind fun v2 =>
   (cvalid N v2 n).bind fun v3 =>
   (if (!v3) = true then
    some (Stp.done (Sum.inr ([] : (List Ineq))))
   else
    (cOf N v2 n).bind fun v4 =>
    (apnd 56 v0 v4).bind fun v5 =>
    some (Stp.next (v5, (iw (v1 + 1)))))
  else
   some (Stp.done (Sum.inl v0)))
def cSystem (N : Nat) (l : (List Constraint)) (n : Int) : Option (List Ineq) :=
 (loopM (cSystem_b1 N l n) N (([] : (List Ineq)), 0)).bind fun ss =>
  match ss with
  | (Sum.inl v0) =>
   some v0
  | (Sum.inr v1) => some v1
def cloneIneq (N : Nat) (s : (List Ineq)) : Option (List Ineq) :=
 (apnd 56 ([] : (List Ineq)) s).bind fun v0 =>
 some v0
def indexIneq_b1 (N : Nat) (f : (Ineq → Option Bool)) (s : (List Ineq)) : Int → Option (Stp Int (Sum Unit Int))
 | v0 =>
  (if (v0 : Int) < (List.length s : Int) then
   (idx s v0).bind fun v1 =>
   (f v1).bind fun v2 =>
   (if v2 = true then
    some (Stp.done (Sum.inr v0))
   else
    some (Stp.next (iw (v0 + 1))))
  else
   some (Stp.done (Sum.inl ())))
def indexIneq (N : Nat) (s : (List Ineq)) (f : (Ineq → Option Bool)) : Option Int :=
 (loopM (indexIneq_b1 N f s) N 0).bind fun ss =>
  match ss with
  | (Sum.inl _) =>
   some (-1)
  | (Sum.inr v0) => some v0
def containsIneq (N : Nat) (s : (List Ineq)) (f : (Ineq → Option Bool)) : Option Bool :=
 (indexIneq N s f).bind fun r1 =>
 some (decide ((r1 : Int) ≥ 0))
def width1 (N : Nat) (q : Ineq) (ca : Int) : Option Bool :=
 some (decide (((List.length q.Coefs : Int) : Int) ≠ ca))
def cwidth (N : Nat) (l : (List Ineq)) : Option (Int × Bool) :=
 (if ((List.length l : Int) : Int) = 0 then
  some (0, true)
 else
  (idx l 0).bind fun x2 =>
  (containsIneq N l (fun v0 => width1 N v0 (List.length x2.Coefs : Int))).bind fun v1 =>
  some ((List.length x2.Coefs : Int), (!v1)))
def cApply_b2 (N : Nat) (v0 : Use) (v1 : Ineq) : ((List Big) × Int) → Option (Stp ((List Big) × Int) (List Big))
 | (v2, v3) =>
  (if (v3 : Int) < (List.length v1.Coefs : Int) then
   (idx v1.Coefs v3).bind fun v4 =>
   (idx v2 v3).bind fun v5 =>
   (bMul N v0.N v4).bind fun v6 =>
   (bAdd N v5 v6).bind fun v7 =>
   (idx v2 v3).bind fun v8 =>
   (upd1 v2 v3 v7).bind fun v9 =>
   some (Stp.next (v9, (iw (v3 + 1))))
  else
   some (Stp.done v2))
def cApply_b1 (N : Nat) (l : (List Ineq)) (s : Step) : ((List Big) × Bool × (List Int) × Int) → Option (Stp ((List Big) × Bool × (List Int) × Int) (Sum ((List Big) × Bool × (List Int)) (Ineq × Bool)))
 | (v0, v1, v2, v3) =>
  (if (v3 : Int) < (List.length s.Uses : Int) then
   (idx s.Uses v3).bind fun v4 =>
   (((if (v4.Index : Int) < 0 then
    some true
   else
    (if (v4.Index : Int) ≥ (List.length l : Int) then
     some true
    else
     (bSign N v4.N).bind fun v5 =>
     some (decide ((v5 : Int) < 0)))) : Option Bool)).bind fun ss =>
    match ss with
    | v6 =>
     (if v6 = true then
      some (Stp.done (Sum.inr ((Ineq.mk [] (Big.mk false [])), false)))
     else
      (idx l v4.Index).bind fun v7 =>
      (loopM (cApply_b2 N v4 v7) N (v0, 0)).bind fun ss =>
       match ss with
       | v8 =>
        (bMul N v4.N v7.Bound).bind fun v9 =>
        (bAdd N (Big.mk v1 v2) v9).bind fun v10 =>
        some (Stp.next (v8, v10.Negative, v10.Digits, (iw (v3 + 1)))))
  else
   some (Stp.done (Sum.inl (v0, v1, v2))))
def cApply_b3 (N : Nat) (s : Step) (v0 : (List Big)) : ((List Big) × Int) → Option (Stp ((List Big) × Int) (Sum (List Big) (Ineq × Bool)))
 | (v1, v2) =>
  (if (v2 : Int) < (List.length v0 : Int) then
   (idx v1 v2).bind fun v3 =>
   (bDivFloor N v3 s.Divisor).bind fun v4 =>
   (bSign N v4.2.1).bind fun v5 =>
   (if (v5 : Int) ≠ 0 then
    some (Stp.done (Sum.inr ((Ineq.mk [] (Big.mk false [])), false)))
   else
    (idx v1 v2).bind fun v6 =>
    (upd1 v1 v2 v4.1).bind fun v7 =>
    some (Stp.next (v7, (iw (v2 + 1)))))
  else
   some (Stp.done (Sum.inl v1)))
def cApply (N : Nat) (l : (List Ineq)) (s : Step) : Option (Ineq × Bool) :=
 (cwidth N l).bind fun v0 =>
 (((if (!v0.2) = true then
  some true
 else
  (bSign N s.Divisor).bind fun v1 =>
  some (decide ((v1 : Int) < 1))) : Option Bool)).bind fun ss =>
  match ss with
  | v2 =>
   (if v2 = true then
    some ((Ineq.mk [] (Big.mk false [])), false)
   else
    (mk1 (α := Big) 32 (Big.mk false []) v0.1).bind fun v3 =>
    (loopM (cApply_b1 N l s) N (v3, false, [], 0)).bind fun ss =>
     match ss with
     | (Sum.inl (v4, v5, v6)) =>
      (loopM (cApply_b3 N s v4) N (v4, 0)).bind fun ss =>
       match ss with
       | (Sum.inl v7) =>
        (bDivFloor N (Big.mk v5 v6) s.Divisor).bind fun v8 =>
        some ((Ineq.mk v7 v8.1), true)
       | (Sum.inr v9) => some v9
     | (Sum.inr v10) => some v10)
def cContradictory_b1 (N : Nat) (q : Ineq) : Int → Option (Stp Int (Sum Unit Bool))
 | v0 =>
  (if (v0 : Int) < (List.length q.Coefs : Int) then
   (idx q.Coefs v0).bind fun v1 =>
   (bSign N v1).bind fun v2 =>
   (if (v2 : Int) ≠ 0 then
    some (Stp.done (Sum.inr false))
   else
    some (Stp.next (iw (v0 + 1))))
  else
   some (Stp.done (Sum.inl ())))
def cContradictory (N : Nat) (q : Ineq) : Option Bool :=
 (loopM (cContradictory_b1 N q) N 0).bind fun ss =>
  match ss with
  | (Sum.inl _) =>
   (bSign N q.Bound).bind fun v0 =>
   some (decide ((v0 : Int) < 0))
  | (Sum.inr v1) => some v1
def cCheck_b1 (N : Nat) (p : Proof) : ((List Ineq) × Int) → Option (Stp ((List Ineq) × Int) (Sum (List Ineq) Bool))
 | (v0, v1) =>
  (if (v1 : Int) < (List.length p.Steps : Int) then
   (idx p.Steps v1).bind fun v2 =>
   (cApply N v0 v2).bind fun v3 =>
   (if (!v3.2) = true then
    some (Stp.done (Sum.inr false))
   else
    (apnd 56 v0 [v3.1]).bind fun v4 =>
    some (Stp.next (v4, (iw (v1 + 1)))))
  else
   some (Stp.done (Sum.inl v0)))
def cCheck_step (N : Nat) (self : (List Ineq) → Proof → Option Bool) (l : (List Ineq)) (p : Proof) : Option Bool :=
 (cwidth N l).bind fun r6 =>
 (if (!r6.2) = true then
  some false
 else
  (cloneIneq N l).bind fun v0 =>
  (loopM (cCheck_b1 N p) N (v0, 0)).bind fun ss =>
   match ss with
   | (Sum.inl v1) =>
    (if ((List.length p.Children : Int) : Int) = 0 then
     (containsIneq N v1 (fun v2 => cContradictory N v2)).bind fun v3 =>
     some v3
    else
     (if ((List.length p.Children : Int) : Int) = 2 then
      (cwidth N v1).bind fun v4 =>
      (((if ((List.length v1 : Int) : Int) > 0 then
       some (decide (((List.length p.Form : Int) : Int) ≠ v4.1))
      else
       some false) : Option Bool)).bind fun ss =>
       match ss with
       | v5 =>
        (if v5 = true then
         some false
        else
         (bNeg N p.Bound).bind fun v6 =>
         (bOf N 1).bind fun v7 =>
         (bSub N v6 v7).bind fun v8 =>
         (negated N p.Form v8).bind fun v9 =>
         none)
     else
      some false))
   | (Sum.inr v10) => some v10)
def cCheck : Nat → (List Ineq) → Proof → Option Bool
 | 0 => fun _ _ => none
 | N + 1 => cCheck_step N (cCheck N)
def cSize_b1 (N : Nat) (self : Proof → Option Int) (p : Proof) : (Int × Int) → Option (Stp (Int × Int) Int)
 | (v0, v1) =>
  (if (v1 : Int) < (List.length p.Children : Int) then
   (idx p.Children v1).bind fun v2 =>
   (self v2).bind fun v3 =>
   some (Stp.next ((iw (v0 + v3)), (iw (v1 + 1))))
  else
   some (Stp.done v0))
def cSize_step (N : Nat) (self : Proof → Option Int) (p : Proof) : Option Int :=
 (((if ((List.length p.Children : Int) : Int) > 0 then
  some (iw ((List.length p.Steps : Int) + 1))
 else
  some (List.length p.Steps : Int)) : Option Int)).bind fun ss =>
  match ss with
  | v0 =>
   (loopM (cSize_b1 N self p) N (v0, 0)).bind fun ss =>
    match ss with
    | v1 =>
     some v1
def cSize : Nat → Proof → Option Int
 | 0 => fun _ => none
 | N + 1 => cSize_step N (cSize N)
end Go.D

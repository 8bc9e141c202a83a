/- Plain counterparts, written by a program of mine (wip/tool). -/
import Derived.Test.YtcakdidcpoolcaaGreatDoorT25
import Derived.Test.YtcakdidcpoolcaaGreatDoorFD25
import Derived.Test.YtcakdidcpoolcaaGreatDoorPA
import Derived.Test.YtcakdidcpoolcaaGreatDoorPR
import Derived.Test.YtcakdidcpoolcaaGreatDoorPB
import Derived.Test.YtcakdidcpoolcaaGreatDoorPC
import Derived.Test.YtcakdidcpoolcaaGreatDoorPD
import Derived.Test.YtcakdidcpoolcaaGreatDoorPI
import Derived.Test.YtcakdidcpoolcaaGreatDoorPH
set_option linter.unusedVariables false
set_option linter.unusedSimpArgs false
namespace Go.D
open Go Go.X
def sAbs (N : Nat) (n : Int) : Option Int :=
 (if (n : Int) < 0 then
  some (iw (0 - n))
 else
  some n)
def sWithin (N : Nat) (n : Int) (low : Int) (high : Int) : Option Bool :=
 (if (n : Int) ≥ low then
  some (decide ((n : Int) ≤ high))
 else
  some false)
def sHas_b1 (N : Nat) (l : (List Int)) (n : Int) : Int → Option (Stp Int (Sum Unit Bool))
 | v0 =>
  (if (v0 : Int) < (List.length l : Int) then
   (idx l v0).bind fun v1 =>
   (if (v1 : Int) = n then
    some (Stp.done (Sum.inr true))
   else
    some (Stp.next (iw (v0 + 1))))
  else
   some (Stp.done (Sum.inl ())))
def sHas (N : Nat) (l : (List Int)) (n : Int) : Option Bool :=
 (loopM (sHas_b1 N l n) N 0).bind fun ss =>
  match ss with
  | (Sum.inl _) =>
   some false
  | (Sum.inr v0) => some v0
def sForm_b1 (N : Nat) (bounds : (List Int)) (c : RClause) (f : Linear) (l : (List RVar)) : (Int × Int) → Option (Stp (Int × Int) (Sum Int Int))
 | (v0, v1) =>
  (if (v1 : Int) < (List.length f.Coefs : Int) then
   (idx f.Coefs v1).bind fun v2 =>
   (((if (v2.Var : Int) < 0 then
    some true
   else
    (if (v2.Var : Int) ≥ (iw ((List.length l : Int) + (List.length bounds : Int))) then
     some true
    else
     (if (v1 : Int) > 0 then
      (idx f.Coefs (iw (v1 - 1))).bind fun v3 =>
      (if (v3.Var : Int) ≥ v2.Var then
       some true
      else
       (if (v2.N : Int) = 0 then
        some true
       else
        (sWithin N v2.N (-1048576) 1048576).bind fun v4 =>
        some (!v4)))
     else
      (if (v2.N : Int) = 0 then
       some true
      else
       (sWithin N v2.N (-1048576) 1048576).bind fun v5 =>
       some (!v5))))) : Option Bool)).bind fun ss =>
    match ss with
    | v6 =>
     (if v6 = true then
      some (Stp.done (Sum.inr (-1)))
     else
      (((if (v2.Var : Int) ≥ (List.length l : Int) then
       (idx bounds (iw (v2.Var - (List.length l : Int)))).bind fun v7 =>
       some (Sum.inl v7)
      else
       (((idx l v2.Var).bind fun v8 =>
       (if (v8.Ty : Int) ≠ 1 then
        some true
       else
        (sHas N c.NotNull v2.Var).bind fun v9 =>
        some (!v9)) : Option Bool)).bind fun ss =>
        match ss with
        | v10 =>
         (if v10 = true then
          some (Sum.inr (-1))
         else
          some (Sum.inl 2147483648))) : Option (Sum Int Int))).bind fun ss =>
       match ss with
       | (Sum.inl v11) =>
        (sAbs N v2.N).bind fun v12 =>
        (sdiv .i64 1152921504606846977 v12).bind fun v13 =>
        (if (v11 : Int) > v13 then
         some (Stp.done (Sum.inr (-1)))
        else
         (sAbs N v2.N).bind fun v14 =>
         (if ((iw (v0 + (iw (v14 * v11)))) : Int) > 1152921504606846977 then
          some (Stp.done (Sum.inr (-1)))
         else
          some (Stp.next ((iw (v0 + (iw (v14 * v11)))), (iw (v1 + 1))))))
       | (Sum.inr v15) => some (Stp.done (Sum.inr v15)))
  else
   some (Stp.done (Sum.inl v0)))
def sForm (N : Nat) (f : Linear) (c : RClause) (l : (List RVar)) (bounds : (List Int)) : Option Int :=
 (sWithin N f.Const (-1099511627777) 1099511627777).bind fun v0 =>
 (if (!v0) = true then
  some (-1)
 else
  (sAbs N f.Const).bind fun v1 =>
  (loopM (sForm_b1 N bounds c f l) N (v1, 0)).bind fun ss =>
   match ss with
   | (Sum.inl v2) =>
    some v2
   | (Sum.inr v3) => some v3)
def sAscending_b1 (N : Nat) (l : (List Int)) (n : Int) : Int → Option (Stp Int (Sum Unit Bool))
 | v0 =>
  (if (v0 : Int) < (List.length l : Int) then
   (((idx l v0).bind fun v1 =>
   (if (v1 : Int) < 0 then
    some true
   else
    (idx l v0).bind fun v2 =>
    (if (v2 : Int) ≥ n then
     some true
    else
     (if (v0 : Int) > 0 then
      (idx l (iw (v0 - 1))).bind fun v3 =>
      (idx l v0).bind fun v4 =>
      some (decide ((v3 : Int) ≥ v4))
     else
      some false))) : Option Bool)).bind fun ss =>
    match ss with
    | v5 =>
     (if v5 = true then
      some (Stp.done (Sum.inr false))
     else
      some (Stp.next (iw (v0 + 1))))
  else
   some (Stp.done (Sum.inl ())))
def sAscending (N : Nat) (l : (List Int)) (n : Int) : Option Bool :=
 (loopM (sAscending_b1 N l n) N 0).bind fun ss =>
  match ss with
  | (Sum.inl _) =>
   some true
  | (Sum.inr v0) => some v0
def sText (N : Nat) (pa : Int) (c : RClause) (l : (List RVar)) : Option Bool :=
 (if (pa : Int) ≥ 0 then
  (if (pa : Int) < (List.length l : Int) then
   (idx l pa).bind fun x9 =>
   (if (x9.Ty : Int) = 2 then
    (sHas N c.NotNull pa).bind fun v0 =>
    some v0
   else
    some false)
  else
   some false)
 else
  some false)
def sPairs_b1 (N : Nat) (c : RClause) (l : (List RVar)) (p : (List Arr2Int)) : Int → Option (Stp Int (Sum Unit Bool))
 | v0 =>
  (if (v0 : Int) < (List.length p : Int) then
   (((idx p v0).bind fun v1 =>
   (sText N v1.e0 c l).bind fun v2 =>
   (if (!v2) = true then
    some true
   else
    (idx p v0).bind fun v3 =>
    (sText N v3.e1 c l).bind fun v4 =>
    (if (!v4) = true then
     some true
    else
     (idx p v0).bind fun v5 =>
     (idx p v0).bind fun v6 =>
     some (decide ((v5.e0 : Int) ≥ v6.e1)))) : Option Bool)).bind fun ss =>
    match ss with
    | v7 =>
     (if v7 = true then
      some (Stp.done (Sum.inr false))
     else
      some (Stp.next (iw (v0 + 1))))
  else
   some (Stp.done (Sum.inl ())))
def sPairs (N : Nat) (p : (List Arr2Int)) (c : RClause) (l : (List RVar)) : Option Bool :=
 (loopM (sPairs_b1 N c l p) N 0).bind fun ss =>
  match ss with
  | (Sum.inl _) =>
   some true
  | (Sum.inr v0) => some v0
def sTested_b1 (N : Nat) (t : TTest) : Int → Option (Stp Int (Sum Unit Bool))
 | v0 =>
  (if (v0 : Int) < (List.length t.Text : Int) then
   (((idx t.Text v0).bind fun v1 =>
   (if ((UInt8.toNat v1 : Int) : Int) < 32 then
    some true
   else
    (idx t.Text v0).bind fun v2 =>
    some (decide (((UInt8.toNat v2 : Int) : Int) > 126))) : Option Bool)).bind fun ss =>
    match ss with
    | v3 =>
     (if v3 = true then
      some (Stp.done (Sum.inr false))
     else
      some (Stp.next (iw (v0 + 1))))
  else
   some (Stp.done (Sum.inl ())))
def sTested (N : Nat) (t : TTest) : Option Bool :=
 (loopM (sTested_b1 N t) N 0).bind fun ss =>
  match ss with
  | (Sum.inl _) =>
   (if (t.Kind : Int) ≥ 0 then
    (if (t.Kind : Int) ≤ 3 then
     some (decide (((List.length t.Text : Int) : Int) ≤ 16))
    else
     some false)
   else
    some false)
  | (Sum.inr v0) => some v0
def sValid_b1 (N : Nat) (c : RClause) (l : (List RVar)) : ((List Int) × Int) → Option (Stp ((List Int) × Int) (Sum (List Int) Bool))
 | (v0, v1) =>
  (if (v1 : Int) < (List.length c.Auxiliary : Int) then
   (idx c.Auxiliary v1).bind fun v2 =>
   (if (v2.By : Int) = 0 then
    (((if ((List.length v2.Of.Coefs : Int) : Int) > 0 then
     some true
    else
     (if (v2.Of.Const : Int) ≠ 0 then
      some true
     else
      (sText N v2.Text c l).bind fun v3 =>
      some (!v3))) : Option Bool)).bind fun ss =>
     match ss with
     | v4 =>
      (if v4 = true then
       some (Stp.done (Sum.inr false))
      else
       (apnd 8 v0 [16]).bind fun v5 =>
       some (Stp.next (v5, (iw (v1 + 1)))))
   else
    (sForm N v2.Of c l v0).bind fun v6 =>
    (((sWithin N v2.By 1 1000).bind fun v7 =>
    (if (!v7) = true then
     some true
    else
     (if (v2.Text : Int) ≠ 0 then
      some true
     else
      some (decide ((v6 : Int) < 0)))) : Option Bool)).bind fun ss =>
     match ss with
     | v8 =>
      (if v8 = true then
       some (Stp.done (Sum.inr false))
      else
       (sdiv .i64 v6 v2.By).bind fun v9 =>
       (apnd 8 v0 [(iw (v9 + 1))]).bind fun v10 =>
       some (Stp.next (v10, (iw (v1 + 1))))))
  else
   some (Stp.done (Sum.inl v0)))
def sValid_b2 (N : Nat) (c : RClause) (l : (List RVar)) (v0 : (List Int)) : Int → Option (Stp Int (Sum Unit Bool))
 | v1 =>
  (if (v1 : Int) < (List.length c.Ints : Int) then
   (idx c.Ints v1).bind fun v2 =>
   (sForm N v2.Linear c l v0).bind fun v3 =>
   (if (v3 : Int) < 0 then
    some (Stp.done (Sum.inr false))
   else
    some (Stp.next (iw (v1 + 1))))
  else
   some (Stp.done (Sum.inl ())))
def sValid_b3 (N : Nat) (c : RClause) (l : (List RVar)) : Int → Option (Stp Int (Sum Unit Bool))
 | v0 =>
  (if (v0 : Int) < (List.length c.Tests : Int) then
   (((idx c.Tests v0).bind fun v1 =>
   (sTested N v1).bind fun v2 =>
   (if (!v2) = true then
    some true
   else
    (idx c.Tests v0).bind fun v3 =>
    (sText N v3.Var c l).bind fun v4 =>
    some (!v4)) : Option Bool)).bind fun ss =>
    match ss with
    | v5 =>
     (if v5 = true then
      some (Stp.done (Sum.inr false))
     else
      some (Stp.next (iw (v0 + 1))))
  else
   some (Stp.done (Sum.inl ())))
def sValid (N : Nat) (c : RClause) (l : (List RVar)) : Option Bool :=
 (((sAscending N c.Null (List.length l : Int)).bind fun v0 =>
 (if (!v0) = true then
  some true
 else
  (sAscending N c.NotNull (List.length l : Int)).bind fun v1 =>
  some (!v1)) : Option Bool)).bind fun ss =>
  match ss with
  | v2 =>
   (if v2 = true then
    some false
   else
    (loopM (sValid_b1 N c l) N (([] : (List Int)), 0)).bind fun ss =>
     match ss with
     | (Sum.inl v3) =>
      (loopM (sValid_b2 N c l v3) N 0).bind fun ss =>
       match ss with
       | (Sum.inl _) =>
        (loopM (sValid_b3 N c l) N 0).bind fun ss =>
         match ss with
         | (Sum.inl _) =>
          (sPairs N c.Same c l).bind fun v4 =>
          (if v4 = true then
           (sPairs N c.Different c l).bind fun v5 =>
           some v5
          else
           some false)
         | (Sum.inr v6) => some v6
       | (Sum.inr v7) => some v7
     | (Sum.inr v8) => some v8)
def sFew_b1 (N : Nat) (c : RClause) : (Int × Int) → Option (Stp (Int × Int) Int)
 | (v0, i64) =>
  (if (i64 : Int) < (List.length c.Auxiliary : Int) then
   (idx c.Auxiliary i64).bind fun v1 =>
   some (Stp.next ((iw (v0 + (List.length v1.Of.Coefs : Int))), (iw (i64 + 1))))
  else
   some (Stp.done v0))
def sFew_b2 (N : Nat) (c : RClause) : (Int × Int) → Option (Stp (Int × Int) Int)
 | (v0, v1) =>
  (if (v1 : Int) < (List.length c.Ints : Int) then
   (idx c.Ints v1).bind fun v2 =>
   some (Stp.next ((iw (v0 + (List.length v2.Linear.Coefs : Int))), (iw (v1 + 1))))
  else
   some (Stp.done v0))
def sFew_b3 (N : Nat) (c : RClause) : Int → Option (Stp Int (Sum Unit Bool))
 | v0 =>
  (if (v0 : Int) < (List.length c.Tests : Int) then
   (idx c.Tests v0).bind fun v1 =>
   (if ((List.length v1.Text : Int) : Int) > 40 then
    some (Stp.done (Sum.inr false))
   else
    some (Stp.next (iw (v0 + 1))))
  else
   some (Stp.done (Sum.inl ())))
def sFew (N : Nat) (c : RClause) : Option Bool :=
 (if ((iw ((iw ((iw ((iw ((iw ((iw ((List.length c.Null : Int) + (List.length c.NotNull : Int))) + (List.length c.Auxiliary : Int))) + (List.length c.Ints : Int))) + (List.length c.Tests : Int))) + (List.length c.Same : Int))) + (List.length c.Different : Int))) : Int) > 80 then
  some false
 else
  (loopM (sFew_b1 N c) N ((iw ((iw ((iw ((iw ((iw ((iw ((List.length c.Null : Int) + (List.length c.NotNull : Int))) + (List.length c.Auxiliary : Int))) + (List.length c.Ints : Int))) + (List.length c.Tests : Int))) + (List.length c.Same : Int))) + (List.length c.Different : Int))), 0)).bind fun ss =>
   match ss with
   | v0 =>
    (loopM (sFew_b2 N c) N (v0, 0)).bind fun ss =>
     match ss with
     | v1 =>
      (loopM (sFew_b3 N c) N 0).bind fun ss =>
       match ss with
       | (Sum.inl _) =>
        some (decide ((v1 : Int) ≤ 400))
       | (Sum.inr v2) => some v2)
end Go.D

/- Plain counterparts, written by a program of mine (wip/tool). -/
import Derived.Test.YtcakdidcpoolcaaGreatDoorT25
import Derived.Test.YtcakdidcpoolcaaGreatDoorFD25
import Derived.Test.YtcakdidcpoolcaaGreatDoorPA
import Derived.Test.YtcakdidcpoolcaaGreatDoorPR
import Derived.Test.YtcakdidcpoolcaaGreatDoorPB
import Derived.Test.YtcakdidcpoolcaaGreatDoorPC
import Derived.Test.YtcakdidcpoolcaaGreatDoorPD
import Derived.Test.YtcakdidcpoolcaaGreatDoorPI
import Derived.Test.YtcakdidcpoolcaaGreatDoorPH
import Derived.Test.YtcakdidcpoolcaaGreatDoorPS
set_option linter.unusedVariables false
set_option linter.unusedSimpArgs false
namespace Go.D
open Go Go.X
def cloneCoef (N : Nat) (s : (List Coef)) : Option (List Coef) :=
 (apnd 16 ([] : (List Coef)) s).bind fun v0 =>
 some v0
def vfirst_b1 (N : Nat) (l : (List RVar)) : ((List Arr2Int) × Int) → Option (Stp ((List Arr2Int) × Int) (List Arr2Int))
 | (v0, v1) =>
  (if (v1 : Int) < (List.length l : Int) then
   (idx l v1).bind fun v2 =>
   (if (v2.Ty : Int) = 2 then
    (idx v0 v1).bind fun v3 =>
    (upd1 v0 v1 (Arr2Int.mk v3.e0 v2.Max)).bind fun v4 =>
    some (Stp.next (v4, (iw (v1 + 1))))
   else
    some (Stp.next (v0, (iw (v1 + 1)))))
  else
   some (Stp.done v0))
def vfirst (N : Nat) (l : (List RVar)) : Option (List Arr2Int) :=
 (mk1 (α := Arr2Int) 16 (Arr2Int.mk 0 0) (List.length l : Int)).bind fun x2 =>
 (loopM (vfirst_b1 N l) N (x2, 0)).bind fun ss =>
  match ss with
  | v0 =>
   some v0
def vhigh (N : Nat) (l : (List RVar)) (ranges : (List Arr2Int)) (pc : Int) : Option Int :=
 (idx ranges pc).bind fun x1 =>
 (idx l pc).bind fun v0 =>
 some (imin x1.e1 v0.Max)
def vbounds (N : Nat) (pa : Int) (low : Int) (high : Int) : Option (List Constraint) :=
 some [(Constraint.mk (Linear.mk low [(Coef.mk pa (-1))]) false), (Constraint.mk (Linear.mk (iw (0 - high)) [(Coef.mk pa 1)]) false)]
def vquotient_b1 (N : Nat) (pb : Linear) : ((List Coef) × (List Coef) × Int) → Option (Stp ((List Coef) × (List Coef) × Int) ((List Coef) × (List Coef)))
 | (v0, v1, v2) =>
  (if (v2 : Int) < (List.length pb.Coefs : Int) then
   (idx pb.Coefs v2).bind fun v3 =>
   (apnd 16 v0 [(Coef.mk v3.Var (iw (0 - v3.N)))]).bind fun v4 =>
   (apnd 16 v1 [v3]).bind fun v5 =>
   some (Stp.next (v4, v5, (iw (v2 + 1))))
  else
   some (Stp.done (v0, v1)))
def vquotient (N : Nat) (q : Int) (pb : Linear) (pc : Int) : Option (List Constraint) :=
 (loopM (vquotient_b1 N pb) N (([] : (List Coef)), ([] : (List Coef)), 0)).bind fun ss =>
  match ss with
  | (v0, v1) =>
   (apnd 16 v0 [(Coef.mk q pc)]).bind fun v2 =>
   (apnd 16 v1 [(Coef.mk q (iw (0 - pc)))]).bind fun v3 =>
   some [(Constraint.mk (Linear.mk (iw (0 - pb.Const)) v2) false), (Constraint.mk (Linear.mk (iw (pb.Const - (iw (pc - 1)))) v3) false)]
def vInts_b1 (N : Nat) (c : RClause) (l : (List RVar)) : ((List Constraint) × Int) → Option (Stp ((List Constraint) × Int) (List Constraint))
 | (v0, v1) =>
  (if (v1 : Int) < (List.length c.NotNull : Int) then
   (idx c.NotNull v1).bind fun v2 =>
   (idx l v2).bind fun v3 =>
   (if (v3.Ty : Int) = 1 then
    (idx l v2).bind fun v4 =>
    (idx l v2).bind fun v5 =>
    (vbounds N v2 v4.Low v5.High).bind fun v6 =>
    (apnd 40 v0 v6).bind fun v7 =>
    some (Stp.next (v7, (iw (v1 + 1))))
   else
    some (Stp.next (v0, (iw (v1 + 1)))))
  else
   some (Stp.done v0))
def vInts_b2 (N : Nat) (c : RClause) (l : (List RVar)) (ranges : (List Arr2Int)) : ((List Constraint) × Int) → Option (Stp ((List Constraint) × Int) (List Constraint))
 | (v0, v1) =>
  (if (v1 : Int) < (List.length c.Auxiliary : Int) then
   (idx c.Auxiliary v1).bind fun v2 =>
   (if (v2.By : Int) = 0 then
    (idx ranges v2.Text).bind fun v3 =>
    (vhigh N l ranges v2.Text).bind fun v4 =>
    (vbounds N (iw ((List.length l : Int) + v1)) v3.e0 v4).bind fun v5 =>
    (apnd 40 v0 v5).bind fun v6 =>
    some (Stp.next (v6, (iw (v1 + 1))))
   else
    (vquotient N (iw ((List.length l : Int) + v1)) v2.Of v2.By).bind fun v7 =>
    (apnd 40 v0 v7).bind fun v8 =>
    some (Stp.next (v8, (iw (v1 + 1)))))
  else
   some (Stp.done v0))
def vInts_b3 (N : Nat) (c : RClause) : ((List Constraint) × Int) → Option (Stp ((List Constraint) × Int) (List Constraint))
 | (v0, v1) =>
  (if (v1 : Int) < (List.length c.Ints : Int) then
   (idx c.Ints v1).bind fun v2 =>
   (cloneCoef N v2.Linear.Coefs).bind fun v3 =>
   (apnd 40 v0 [(Constraint.mk (Linear.mk v2.Linear.Const v3) v2.Equal)]).bind fun v4 =>
   some (Stp.next (v4, (iw (v1 + 1))))
  else
   some (Stp.done v0))
def vInts (N : Nat) (l : (List RVar)) (c : RClause) (ranges : (List Arr2Int)) : Option (Int × (List Constraint)) :=
 (loopM (vInts_b1 N c l) N (([] : (List Constraint)), 0)).bind fun ss =>
  match ss with
  | v0 =>
   (loopM (vInts_b2 N c l ranges) N (v0, 0)).bind fun ss =>
    match ss with
    | v1 =>
     (loopM (vInts_b3 N c) N (v1, 0)).bind fun ss =>
      match ss with
      | v2 =>
       some ((iw ((List.length l : Int) + (List.length c.Auxiliary : Int))), v2)
def vcheck_step (N : Nat) (self : (List RVar) → RClause → Refut → (List Arr2Int) → Option Bool) (l : (List RVar)) (c : RClause) (pc : Refut) (ranges : (List Arr2Int)) : Option Bool :=
 (if (pc.Kind : Int) = 0 then
  (containsOf N c.Null pc.Var).bind fun v0 =>
  (if v0 = true then
   (containsOf N c.NotNull pc.Var).bind fun v1 =>
   (if v1 = true then
    some true
   else
    (idx l pc.Var).bind fun v2 =>
    some (!v2.Nullable))
  else
   some false)
 else
  (if (pc.Kind : Int) = 1 then
   none
  else
   (if (pc.Kind : Int) = 2 then
    (vInts N l c ranges).bind fun v3 =>
    (cSystem N v3.2 v3.1).bind fun v4 =>
    (cCheck N v4 pc.Proof).bind fun v5 =>
    some v5
   else
    (if (pc.Kind : Int) = 3 then
     (((containsOf N c.NotNull pc.Var).bind fun v6 =>
     (if (!v6) = true then
      some true
     else
      (idx l pc.Var).bind fun v7 =>
      (if (v7.Ty : Int) ≠ 2 then
       some true
      else
       (idx ranges pc.Var).bind fun v8 =>
       (if (pc.At : Int) < v8.e0 then
        some true
       else
        (idx ranges pc.Var).bind fun v9 =>
        (if (pc.At : Int) ≥ v9.e1 then
         some true
        else
         some (decide (((List.length pc.Children : Int) : Int) ≠ 2)))))) : Option Bool)).bind fun ss =>
      match ss with
      | v10 =>
       (if v10 = true then
        some false
       else
        none)
    else
     some false))))
def vcheck : Nat → (List RVar) → RClause → Refut → (List Arr2Int) → Option Bool
 | 0 => fun _ _ _ _ => none
 | N + 1 => vcheck_step N (vcheck N)
def vCheck (N : Nat) (l : (List RVar)) (c : RClause) (pc : Refut) : Option Bool :=
 (vfirst N l).bind fun v0 =>
 (vcheck N l c pc v0).bind fun v1 =>
 some v1
def vSize_b1 (N : Nat) (self : Refut → Option Int) (pa : Refut) : (Int × Int) → Option (Stp (Int × Int) Int)
 | (v0, v1) =>
  (if (v1 : Int) < (List.length pa.Children : Int) then
   (idx pa.Children v1).bind fun v2 =>
   (self v2).bind fun v3 =>
   some (Stp.next ((iw (v0 + v3)), (iw (v1 + 1))))
  else
   some (Stp.done v0))
def vSize_step (N : Nat) (self : Refut → Option Int) (pa : Refut) : Option Int :=
 (if (pa.Kind : Int) = 2 then
  (cSize N pa.Proof).bind fun r7 =>
  some (iw (1 + r7))
 else
  (if (pa.Kind : Int) = 3 then
   (loopM (vSize_b1 N self pa) N (1, 0)).bind fun ss =>
    match ss with
    | v0 =>
     some v0
  else
   some 1))
def vSize : Nat → Refut → Option Int
 | 0 => fun _ => none
 | N + 1 => vSize_step N (vSize N)
def vFormat_b1 (N : Nat) (self : Refut → Option (List UInt8)) (pa : Refut) : (List UInt8 × Int) → Option (Stp (List UInt8 × Int) (List UInt8))
 | (z, x) =>
  (if (x : Int) < (List.length pa.Children : Int) then
   (idx pa.Children x).bind fun y =>
   (self y).bind fun t =>
   (chk ((List.length ([32, 40] : List UInt8) : Int) + List.length t ≤ 9223372036854775807)).bind fun _ =>
   (chk ((List.length (([32, 40] : List UInt8) ++ t) : Int) + List.length ([41] : List UInt8) ≤ 9223372036854775807)).bind fun _ =>
   (wr z ((([32, 40] : List UInt8) ++ t) ++ ([41] : List UInt8))).bind fun z =>
   some (Stp.next (z, (iw (x + 1))))
  else
   some (Stp.done z))
def vFormat_step (N : Nat) (self : Refut → Option (List UInt8)) (pa : Refut) : Option (List UInt8) :=
 (if (pa.Kind : Int) = 0 then
  (fmtI N pa.Var).bind fun r7 =>
  (chk ((List.length ([110, 117, 108, 108, 32, 120] : List UInt8) : Int) + List.length r7 ≤ 9223372036854775807)).bind fun _ =>
  some (([110, 117, 108, 108, 32, 120] : List UInt8) ++ r7)
 else
  (if (pa.Kind : Int) = 1 then
   some ([116, 101, 120, 116] : List UInt8)
  else
   (if (pa.Kind : Int) = 2 then
    (cSize N pa.Proof).bind fun v0 =>
    (fmtI N v0).bind fun v1 =>
    (chk ((List.length ([105, 110, 116, 101, 103, 101, 114, 115, 32] : List UInt8) : Int) + List.length v1 ≤ 9223372036854775807)).bind fun _ =>
    some (([105, 110, 116, 101, 103, 101, 114, 115, 32] : List UInt8) ++ v1)
   else
    (if (pa.Kind : Int) = 3 then
     (fmtI N pa.Var).bind fun v2 =>
     (chk ((List.length ([108, 101, 110, 103, 116, 104, 32, 120] : List UInt8) : Int) + List.length v2 ≤ 9223372036854775807)).bind fun _ =>
     (chk ((List.length (([108, 101, 110, 103, 116, 104, 32, 120] : List UInt8) ++ v2) : Int) + List.length ([32, 60, 61, 32] : List UInt8) ≤ 9223372036854775807)).bind fun _ =>
     (fmtI N pa.At).bind fun v3 =>
     (chk ((List.length ((([108, 101, 110, 103, 116, 104, 32, 120] : List UInt8) ++ v2) ++ ([32, 60, 61, 32] : List UInt8)) : Int) + List.length v3 ≤ 9223372036854775807)).bind fun _ =>
     (wr [] (((([108, 101, 110, 103, 116, 104, 32, 120] : List UInt8) ++ v2) ++ ([32, 60, 61, 32] : List UInt8)) ++ v3)).bind fun z0 =>
     (loopM (vFormat_b1 N self pa) N (z0, 0)).bind fun z =>
     some z
    else
     some ([105, 110, 118, 97, 108, 105, 100] : List UInt8)))))
def vFormat : Nat → Refut → Option (List UInt8)
 | 0 => fun _ => none
 | N + 1 => vFormat_step N (vFormat N)
end Go.D

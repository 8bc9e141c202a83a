/- Plain counterparts, written by a program of mine (wip/tool). -/
import Derived.Test.YtaakoedphmeenaaT22
import Derived.Test.YtaakoedphmeenaaPA
import Derived.Test.YtaakoedphmeenaaPR
import Derived.Test.YtaakoedphmeenaaPT
set_option linter.unusedVariables false
set_option linter.unusedSimpArgs false
namespace Go.D
open Go Go.X
def lof (N : Nat) (p : TProb) : Option TProb :=
 (apnd 8 ([] : (List Int)) p.Min).bind fun v0 =>
 (apnd 8 ([] : (List Int)) p.Max).bind fun v1 =>
 (apnd 40 ([] : (List TTest)) p.Tests).bind fun v2 =>
 (apnd 16 ([] : (List Arr2Int)) p.Same).bind fun v3 =>
 (apnd 16 ([] : (List Arr2Int)) p.Different).bind fun v4 =>
 some (TProb.mk v0 v1 v2 v3 v4)
def lequal_b1 (N : Nat) (a : (List (List UInt8))) (b : (List (List UInt8))) : Int → Option (Stp Int (Sum Unit Bool))
 | v0 =>
  (if (v0 : Int) < (List.length a : Int) then
   (idx a v0).bind fun v1 =>
   (idx b v0).bind fun v2 =>
   (if ¬ v1 = v2 then
    some (Stp.done (Sum.inr false))
   else
    some (Stp.next (iw (v0 + 1))))
  else
   some (Stp.done (Sum.inl ())))
def lequal (N : Nat) (a : (List (List UInt8))) (b : (List (List UInt8))) : Option Bool :=
 (if ((List.length a : Int) : Int) ≠ (List.length b : Int) then
  some false
 else
  (loopM (lequal_b1 N a b) N 0).bind fun ss =>
   match ss with
   | (Sum.inl _) =>
    some true
   | (Sum.inr v0) => some v0)
def lnumbers_b1 (N : Nat) (a : (List Int)) (b : (List Int)) : Int → Option (Stp Int (Sum Unit Bool))
 | v0 =>
  (if (v0 : Int) < (List.length a : Int) then
   (idx a v0).bind fun v1 =>
   (idx b v0).bind fun v2 =>
   (if (v1 : Int) ≠ v2 then
    some (Stp.done (Sum.inr false))
   else
    some (Stp.next (iw (v0 + 1))))
  else
   some (Stp.done (Sum.inl ())))
def lnumbers (N : Nat) (a : (List Int)) (b : (List Int)) : Option Bool :=
 (if ((List.length a : Int) : Int) ≠ (List.length b : Int) then
  some false
 else
  (loopM (lnumbers_b1 N a b) N 0).bind fun ss =>
   match ss with
   | (Sum.inl _) =>
    some true
   | (Sum.inr v0) => some v0)
def lexample (N : Nat)  : Option TProb :=
 some (TProb.mk [0, 0] [1, 2] [(TTest.mk 0 3 false ([98] : List UInt8)), (TTest.mk 0 2 true ([97] : List UInt8)), (TTest.mk 1 1 false ([95] : List UInt8)), (TTest.mk 1 2 false ([99] : List UInt8)), (TTest.mk 1 2 true ([98] : List UInt8))] ([] : (List Arr2Int)) ([] : (List Arr2Int)))
def awake (N : Nat)  : Option Bool :=
 (lexample N ).bind fun r1 =>
 (lexample N ).bind fun v0 =>
 (lexample N ).bind fun v1 =>
 (apnd 8 v1.Min [0]).bind fun v2 =>
 (apnd 8 v1.Max [16]).bind fun v3 =>
 (apnd 40 v1.Tests [(TTest.mk 2 0 true ([97] : List UInt8))]).bind fun v4 =>
 (lof N (TProb.mk r1.Min r1.Max r1.Tests r1.Same [(Arr2Int.mk 0 1)])).bind fun v5 =>
 (tSolve N v5).bind fun v6 =>
 (lof N (TProb.mk v0.Min v0.Max v0.Tests [(Arr2Int.mk 1 0)] v0.Different)).bind fun v7 =>
 (tSolve N v7).bind fun v8 =>
 (lof N (TProb.mk v2 v3 v4 [(Arr2Int.mk 2 0)] [(Arr2Int.mk 2 1)])).bind fun v9 =>
 (tSolve N v9).bind fun v10 =>
 (lof N (TProb.mk v2 v3 v4 [(Arr2Int.mk 2 0)] [(Arr2Int.mk 2 1)])).bind fun v11 =>
 (tClasses N v11).bind fun v12 =>
 (if v6.2 = true then
  (lequal N v6.1 [([97] : List UInt8), ([98] : List UInt8)]).bind fun v13 =>
  (if v13 = true then
   (if v8.2 = true then
    (lequal N v8.1 [([98] : List UInt8), ([98] : List UInt8)]).bind fun v14 =>
    (if v14 = true then
     (if (!v10.2) = true then
      (if ((List.length v12 : Int) : Int) = 2 then
       (idx v12 0).bind fun v15 =>
       (lnumbers N v15 [0, 2]).bind fun v16 =>
       (if v16 = true then
        (idx v12 1).bind fun v17 =>
        (lnumbers N v17 [1]).bind fun v18 =>
        (if v18 = true then
         (lof N (TProb.mk r1.Min r1.Max r1.Tests r1.Same [(Arr2Int.mk 0 1)])).bind fun v19 =>
         (tSatisfies N v19 [([97] : List UInt8), ([98] : List UInt8)]).bind fun v20 =>
         (if v20 = true then
          (lof N (TProb.mk r1.Min r1.Max r1.Tests r1.Same [(Arr2Int.mk 0 1)])).bind fun v21 =>
          (tSatisfies N v21 [([98] : List UInt8), ([98] : List UInt8)]).bind fun v22 =>
          (if (!v22) = true then
           (lof N (TProb.mk r1.Min r1.Max r1.Tests r1.Same [(Arr2Int.mk 0 1)])).bind fun v23 =>
           (tLengths N v23 1).bind fun v24 =>
           (lnumbers N v24 [1]).bind fun v25 =>
           some v25
          else
           some false)
         else
          some false)
        else
         some false)
       else
        some false)
      else
       some false)
     else
      some false)
    else
     some false)
   else
    some false)
  else
   some false)
 else
  some false)
def lawSolve (N : Nat) (p : TProb) : Option Bool :=
 (((awake N ).bind fun v0 =>
 (if (!v0) = true then
  some true
 else
  (rShort N p).bind fun v1 =>
  some (!v1)) : Option Bool)).bind fun ss =>
  match ss with
  | v2 =>
   (if v2 = true then
    (awake N ).bind fun v3 =>
    some v3
   else
    (lof N p).bind fun v4 =>
    (tSolve N v4).bind fun v5 =>
    (rSolvable N p).bind fun v6 =>
    some (v5.2 == v6))
end Go.D

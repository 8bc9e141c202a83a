/- Plain counterparts, written by a program of mine (wip/tool). -/
import Derived.Test.YtaakoedphmeenaaT22
import Derived.Test.YtaakoedphmeenaaPA
import Derived.Test.YtaakoedphmeenaaPR
import Derived.Test.YtaakoedphmeenaaPT
set_option linter.unusedVariables false
set_option linter.unusedSimpArgs false
namespace Go.D
open Go Go.X
def lof (N : Nat) (p : TProb) : Option TProb :=
 (apnd 8 ([] : (List Int)) p.Min).bind fun x18 =>
 (apnd 8 ([] : (List Int)) p.Max).bind fun x38 =>
 (apnd 40 ([] : (List TTest)) p.Tests).bind fun x58 =>
 (apnd 16 ([] : (List Arr2Int)) p.Same).bind fun x78 =>
 (apnd 16 ([] : (List Arr2Int)) p.Different).bind fun x270 =>
 some (TProb.mk x18 x38 x58 x78 x270)
def lequal_b1 (N : Nat) (a : (List (List UInt8))) (b : (List (List UInt8))) : Int → Option (Stp Int (Sum Unit Bool))
 | x189 =>
  (if (x189 : Int) < (List.length a : Int) then
   (idx a x189).bind fun x198 =>
   (idx b x189).bind fun x212 =>
   (if ¬ x198 = x212 then
    some (Stp.done (Sum.inr false))
   else
    some (Stp.next (iw (x189 + 1))))
  else
   some (Stp.done (Sum.inl ())))
def lequal (N : Nat) (a : (List (List UInt8))) (b : (List (List UInt8))) : Option Bool :=
 (if ((List.length a : Int) : Int) ≠ (List.length b : Int) then
  some false
 else
  (loopM (lequal_b1 N a b) N 0).bind fun ss =>
   match ss with
   | (Sum.inl _) =>
    some true
   | (Sum.inr z290) => some z290)
def lnumbers_b1 (N : Nat) (a : (List Int)) (b : (List Int)) : Int → Option (Stp Int (Sum Unit Bool))
 | x189 =>
  (if (x189 : Int) < (List.length a : Int) then
   (idx a x189).bind fun x198 =>
   (idx b x189).bind fun x212 =>
   (if (x198 : Int) ≠ x212 then
    some (Stp.done (Sum.inr false))
   else
    some (Stp.next (iw (x189 + 1))))
  else
   some (Stp.done (Sum.inl ())))
def lnumbers (N : Nat) (a : (List Int)) (b : (List Int)) : Option Bool :=
 (if ((List.length a : Int) : Int) ≠ (List.length b : Int) then
  some false
 else
  (loopM (lnumbers_b1 N a b) N 0).bind fun ss =>
   match ss with
   | (Sum.inl _) =>
    some true
   | (Sum.inr z290) => some z290)
def lexample (N : Nat)  : Option TProb :=
 some (TProb.mk [0, 0] [1, 2] [(TTest.mk 0 3 false ([98] : List UInt8)), (TTest.mk 0 2 true ([97] : List UInt8)), (TTest.mk 1 1 false ([95] : List UInt8)), (TTest.mk 1 2 false ([99] : List UInt8)), (TTest.mk 1 2 true ([98] : List UInt8))] ([] : (List Arr2Int)) ([] : (List Arr2Int)))
def awake (N : Nat)  : Option Bool :=
 (lexample N ).bind fun r1 =>
 (lexample N ).bind fun r44 =>
 (lexample N ).bind fun r87 =>
 (apnd 8 r87.Min [0]).bind fun x204 =>
 (apnd 8 r87.Max [16]).bind fun x235 =>
 (apnd 40 r87.Tests [(TTest.mk 2 0 true ([97] : List UInt8))]).bind fun x327 =>
 (lof N (TProb.mk r1.Min r1.Max r1.Tests r1.Same [(Arr2Int.mk 0 1)])).bind fun r349 =>
 (tSolve N r349).bind fun r371 =>
 (lof N (TProb.mk r44.Min r44.Max r44.Tests [(Arr2Int.mk 1 0)] r44.Different)).bind fun r386 =>
 (tSolve N r386).bind fun r408 =>
 (lof N (TProb.mk x204 x235 x327 [(Arr2Int.mk 2 0)] [(Arr2Int.mk 2 1)])).bind fun r423 =>
 (tSolve N r423).bind fun r445 =>
 (lof N (TProb.mk x204 x235 x327 [(Arr2Int.mk 2 0)] [(Arr2Int.mk 2 1)])).bind fun r460 =>
 (tClasses N r460).bind fun r482 =>
 (if r371.2 = true then
  (lequal N r371.1 [([97] : List UInt8), ([98] : List UInt8)]).bind fun r506 =>
  (if r506 = true then
   (if r408.2 = true then
    (lequal N r408.1 [([98] : List UInt8), ([98] : List UInt8)]).bind fun r525 =>
    (if r525 = true then
     (if (!r445.2) = true then
      (if ((List.length r482 : Int) : Int) = 2 then
       (idx r482 0).bind fun x538 =>
       (lnumbers N x538 [0, 2]).bind fun r560 =>
       (if r560 = true then
        (idx r482 1).bind fun x570 =>
        (lnumbers N x570 [1]).bind fun r591 =>
        (if r591 = true then
         (lof N (TProb.mk r1.Min r1.Max r1.Tests r1.Same [(Arr2Int.mk 0 1)])).bind fun r601 =>
         (tSatisfies N r601 [([97] : List UInt8), ([98] : List UInt8)]).bind fun r631 =>
         (if r631 = true then
          (lof N (TProb.mk r1.Min r1.Max r1.Tests r1.Same [(Arr2Int.mk 0 1)])).bind fun r645 =>
          (tSatisfies N r645 [([98] : List UInt8), ([98] : List UInt8)]).bind fun r675 =>
          (if (!r675) = true then
           (lof N (TProb.mk r1.Min r1.Max r1.Tests r1.Same [(Arr2Int.mk 0 1)])).bind fun r689 =>
           (tLengths N r689 1).bind fun r711 =>
           (lnumbers N r711 [1]).bind fun r734 =>
           some r734
          else
           some false)
         else
          some false)
        else
         some false)
       else
        some false)
      else
       some false)
     else
      some false)
    else
     some false)
   else
    some false)
  else
   some false)
 else
  some false)
def lawSolution (N : Nat) (p : TProb) : Option Bool :=
 (((awake N ).bind fun r30 =>
 (if (!r30) = true then
  some true
 else
  (rSmall N p).bind fun r38 =>
  some (!r38)) : Option Bool)).bind fun ss =>
  match ss with
  | x27 =>
   (if x27 = true then
    (awake N ).bind fun r54 =>
    some r54
   else
    (lof N p).bind fun r61 =>
    (tSolve N r61).bind fun r83 =>
    (if (!r83.2) = true then
     some (decide (((List.length r83.1 : Int) : Int) = 0))
    else
     (rSatisfies N p r83.1).bind fun r99 =>
     (if r99 = true then
      (lof N p).bind fun r112 =>
      (tSatisfies N r112 r83.1).bind fun r134 =>
      some r134
     else
      some false)))
end Go.D

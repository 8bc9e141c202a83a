/- Plain counterparts, written by a program of mine (wip/tool). -/
import Derived.Test.YtaakoedphmeenaaT22
import Derived.Test.YtaakoedphmeenaaPA
import Derived.Test.YtaakoedphmeenaaPR
import Derived.Test.YtaakoedphmeenaaPT
set_option linter.unusedVariables false
set_option linter.unusedSimpArgs false
namespace Go.D
open Go Go.X
def lof (N : Nat) (p : TProb) : Option TProb :=
  (apnd 8 ([] : (List Int)) p.Min).bind fun x18 =>
  (apnd 8 ([] : (List Int)) p.Max).bind fun x38 =>
  (apnd 40 ([] : (List TTest)) p.Tests).bind fun x58 =>
  (apnd 16 ([] : (List Arr2Int)) p.Same).bind fun x78 =>
  (apnd 16 ([] : (List Arr2Int)) p.Different).bind fun x270 =>
  some (TProb.mk x18 x38 x58 x78 x270)
def lequal_b1 (N : Nat) (a : (List (List UInt8))) (b : (List (List UInt8))) : Int → Option (Stp Int (Sum Unit Bool))
  | x189 =>
    (if (x189 : Int) < (List.length a : Int) then
      (idx a x189).bind fun x198 =>
      (idx b x189).bind fun x212 =>
      (if ¬ x198 = x212 then
        some (Stp.done (Sum.inr false))
      else
        some (Stp.next (iw (x189 + 1))))
    else
      some (Stp.done (Sum.inl ())))
def lequal (N : Nat) (a : (List (List UInt8))) (b : (List (List UInt8))) : Option Bool :=
  (if ((List.length a : Int) : Int) ≠ (List.length b : Int) then
    some false
  else
    (loopM (lequal_b1 N a b) N 0).bind fun ss =>
      match ss with
      | (Sum.inl _) =>
        some true
      | (Sum.inr z290) => some z290)
def lnumbers_b1 (N : Nat) (a : (List Int)) (b : (List Int)) : Int → Option (Stp Int (Sum Unit Bool))
  | x189 =>
    (if (x189 : Int) < (List.length a : Int) then
      (idx a x189).bind fun x198 =>
      (idx b x189).bind fun x212 =>
      (if (x198 : Int) ≠ x212 then
        some (Stp.done (Sum.inr false))
      else
        some (Stp.next (iw (x189 + 1))))
    else
      some (Stp.done (Sum.inl ())))
def lnumbers (N : Nat) (a : (List Int)) (b : (List Int)) : Option Bool :=
  (if ((List.length a : Int) : Int) ≠ (List.length b : Int) then
    some false
  else
    (loopM (lnumbers_b1 N a b) N 0).bind fun ss =>
      match ss with
      | (Sum.inl _) =>
        some true
      | (Sum.inr z290) => some z290)
def lexample (N : Nat)  : Option TProb :=
  some (TProb.mk [0, 0] [1, 2] [(TTest.mk 0 3 false ([98] : List UInt8)), (TTest.mk 0 2 true ([97] : List UInt8)), (TTest.mk 1 1 false ([95] : List UInt8)), (TTest.mk 1 2 false ([99] : List UInt8)), (TTest.mk 1 2 true ([98] : List UInt8))] ([] : (List Arr2Int)) ([] : (List Arr2Int)))
def awake (N : Nat)  : Option Bool :=
  (lexample N ).bind fun r1 =>
  (lexample N ).bind fun r44 =>
  (lexample N ).bind fun r87 =>
  (apnd 8 r87.Min [0]).bind fun x204 =>
  (apnd 8 r87.Max [16]).bind fun x235 =>
  (apnd 40 r87.Tests [(TTest.mk 2 0 true ([97] : List UInt8))]).bind fun x327 =>
  (lof N (TProb.mk r1.Min r1.Max r1.Tests r1.Same [(Arr2Int.mk 0 1)])).bind fun r349 =>
  (tSolve N r349).bind fun r371 =>
  (lof N (TProb.mk r44.Min r44.Max r44.Tests [(Arr2Int.mk 1 0)] r44.Different)).bind fun r386 =>
  (tSolve N r386).bind fun r408 =>
  (lof N (TProb.mk x204 x235 x327 [(Arr2Int.mk 2 0)] [(Arr2Int.mk 2 1)])).bind fun r423 =>
  (tSolve N r423).bind fun r445 =>
  (lof N (TProb.mk x204 x235 x327 [(Arr2Int.mk 2 0)] [(Arr2Int.mk 2 1)])).bind fun r460 =>
  (tClasses N r460).bind fun r482 =>
  (if r371.2 = true then
    (lequal N r371.1 [([97] : List UInt8), ([98] : List UInt8)]).bind fun r506 =>
    (if r506 = true then
      (if r408.2 = true then
        (lequal N r408.1 [([98] : List UInt8), ([98] : List UInt8)]).bind fun r525 =>
        (if r525 = true then
          (if (!r445.2) = true then
            (if ((List.length r482 : Int) : Int) = 2 then
              (idx r482 0).bind fun x538 =>
              (lnumbers N x538 [0, 2]).bind fun r560 =>
              (if r560 = true then
                (idx r482 1).bind fun x570 =>
                (lnumbers N x570 [1]).bind fun r591 =>
                (if r591 = true then
                  (lof N (TProb.mk r1.Min r1.Max r1.Tests r1.Same [(Arr2Int.mk 0 1)])).bind fun r601 =>
                  (tSatisfies N r601 [([97] : List UInt8), ([98] : List UInt8)]).bind fun r631 =>
                  (if r631 = true then
                    (lof N (TProb.mk r1.Min r1.Max r1.Tests r1.Same [(Arr2Int.mk 0 1)])).bind fun r645 =>
                    (tSatisfies N r645 [([98] : List UInt8), ([98] : List UInt8)]).bind fun r675 =>
                    (if (!r675) = true then
                      (lof N (TProb.mk r1.Min r1.Max r1.Tests r1.Same [(Arr2Int.mk 0 1)])).bind fun r689 =>
                      (tLengths N r689 1).bind fun r711 =>
                      (lnumbers N r711 [1]).bind fun r734 =>
                      some r734
                    else
                      some false)
                  else
                    some false)
                else
                  some false)
              else
                some false)
            else
              some false)
          else
            some false)
        else
          some false)
      else
        some false)
    else
      some false)
  else
    some false)
def lawMonotone_b1 (N : Nat) (p : TProb) (pair : Arr2Int) (t : TTest) (r101 : ((List (List UInt8)) × Bool)) : Int → Option (Stp Int (Sum Unit Bool))
  | x1746 =>
    (if (x1746 : Int) < 3 then
      (((if (x1746 : Int) = 0 then
        (apnd 40 ([] : (List TTest)) p.Tests).bind fun x2133 =>
        (apnd 40 x2133 [t]).bind fun x2218 =>
        some (x2218, p.Same, p.Different)
      else
        (if (x1746 : Int) = 1 then
          (apnd 16 ([] : (List Arr2Int)) p.Same).bind fun x2257 =>
          (apnd 16 x2257 [pair]).bind fun x2342 =>
          some (p.Tests, x2342, p.Different)
        else
          (apnd 16 ([] : (List Arr2Int)) p.Different).bind fun x2380 =>
          (apnd 16 x2380 [pair]).bind fun x2465 =>
          some (p.Tests, p.Same, x2465))) : Option ((List TTest) × (List Arr2Int) × (List Arr2Int)))).bind fun ss =>
        match ss with
        | (tests2114, same2117, different2120) =>
          (rValid N (TProb.mk p.Min p.Max tests2114 same2117 different2120)).bind fun r2499 =>
          (if (!r2499) = true then
            some (Stp.next (iw (x1746 + 1)))
          else
            (lof N (TProb.mk p.Min p.Max tests2114 same2117 different2120)).bind fun r2512 =>
            (tSolve N r2512).bind fun r2534 =>
            (((if r2534.2 = true then
              some (!r101.2)
            else
              some false) : Option Bool)).bind fun ss =>
              match ss with
              | x2553 =>
                (if x2553 = true then
                  some (Stp.done (Sum.inr false))
                else
                  some (Stp.next (iw (x1746 + 1)))))
    else
      some (Stp.done (Sum.inl ())))
def lawMonotone (N : Nat) (p : TProb) (t : TTest) (pair : Arr2Int) : Option Bool :=
  (((awake N ).bind fun r42 =>
  (if (!r42) = true then
    some true
  else
    (rSmall N p).bind fun r53 =>
    some (!r53)) : Option Bool)).bind fun ss =>
    match ss with
    | x39 =>
      (if x39 = true then
        (awake N ).bind fun r72 =>
        some r72
      else
        (lof N p).bind fun r79 =>
        (tSolve N r79).bind fun r101 =>
        (loopM (lawMonotone_b1 N p pair t r101) N 0).bind fun ss =>
          match ss with
          | (Sum.inl _) =>
            some true
          | (Sum.inr z2573) => some z2573)
end Go.D

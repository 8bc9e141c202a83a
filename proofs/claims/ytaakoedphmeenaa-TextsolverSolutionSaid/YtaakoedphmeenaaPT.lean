/- Plain counterparts, written by a program of mine (wip/tool). -/
import Derived.Test.YtaakoedphmeenaaT22
import Derived.Test.YtaakoedphmeenaaPA
import Derived.Test.YtaakoedphmeenaaPR
set_option linter.unusedVariables false
set_option linter.unusedSimpArgs false
namespace Go.D
open Go Go.X
def indexInt_b1 (N : Nat) (f : (Int → Option Bool)) (s : (List Int)) : Int → Option (Stp Int (Sum Unit Int))
 | x54 =>
  (if (x54 : Int) < (List.length s : Int) then
   (idx s x54).bind fun x63 =>
   (f x63).bind fun r77 =>
   (if r77 = true then
    some (Stp.done (Sum.inr x54))
   else
    some (Stp.next (iw (x54 + 1))))
  else
   some (Stp.done (Sum.inl ())))
def indexInt (N : Nat) (s : (List Int)) (f : (Int → Option Bool)) : Option Int :=
 (loopM (indexInt_b1 N f s) N 0).bind fun ss =>
  match ss with
  | (Sum.inl _) =>
   some (-1)
  | (Sum.inr z88) => some z88
def containsInt (N : Nat) (s : (List Int)) (f : (Int → Option Bool)) : Option Bool :=
 (indexInt N s f).bind fun r1 =>
 some (decide ((r1 : Int) ≥ 0))
def tSatisfies_b2 (N : Nat) (x423 : (List UInt8)) : Int → Option (Stp Int (Sum Unit Bool))
 | x575 =>
  (if (x575 : Int) < (List.length x423 : Int) then
   (((idx x423 x575).bind fun x600 =>
   (if ((UInt8.toNat x600 : Int) : Int) < 32 then
    some true
   else
    (idx x423 x575).bind fun x606 =>
    some (decide (((UInt8.toNat x606 : Int) : Int) > 126))) : Option Bool)).bind fun ss =>
    match ss with
    | x597 =>
     (if x597 = true then
      some (Stp.done (Sum.inr false))
     else
      some (Stp.next (iw (x575 + 1))))
  else
   some (Stp.done (Sum.inl ())))
def tSatisfies_b1 (N : Nat) (p : TProb) (texts : (List (List UInt8))) : Int → Option (Stp Int (Sum Unit Bool))
 | x413 =>
  (if (x413 : Int) < (List.length texts : Int) then
   (idx texts x413).bind fun x423 =>
   (((idx p.Min x413).bind fun x470 =>
   (if ((List.length x423 : Int) : Int) < x470 then
    some true
   else
    (idx p.Max x413).bind fun x485 =>
    some (decide (((List.length x423 : Int) : Int) > x485))) : Option Bool)).bind fun ss =>
    match ss with
    | x467 =>
     (if x467 = true then
      some (Stp.done (Sum.inr false))
     else
      (loopM (tSatisfies_b2 N x423) N 0).bind fun ss =>
       match ss with
       | (Sum.inl _) =>
        some (Stp.next (iw (x413 + 1)))
       | (Sum.inr z618) => some (Stp.done (Sum.inr z618)))
  else
   some (Stp.done (Sum.inl ())))
def tSatisfies_b3 (N : Nat) (p : TProb) (texts : (List (List UInt8))) : Int → Option (Stp Int (Sum Unit Bool))
 | x821 =>
  (if (x821 : Int) < (List.length p.Tests : Int) then
   (idx p.Tests x821).bind fun x831 =>
   (idx texts x831.Var).bind fun x854 =>
   (pPasses N x831 x854).bind fun r916 =>
   (if (!r916) = true then
    some (Stp.done (Sum.inr false))
   else
    some (Stp.next (iw (x821 + 1))))
  else
   some (Stp.done (Sum.inl ())))
def tSatisfies_b4 (N : Nat) (p : TProb) (texts : (List (List UInt8))) : Int → Option (Stp Int (Sum Unit Bool))
 | x1189 =>
  (if (x1189 : Int) < (List.length p.Same : Int) then
   (idx p.Same x1189).bind fun x1199 =>
   (idx texts x1199.e0).bind fun x1222 =>
   (idx texts x1199.e1).bind fun x1236 =>
   (if ¬ x1222 = x1236 then
    some (Stp.done (Sum.inr false))
   else
    some (Stp.next (iw (x1189 + 1))))
  else
   some (Stp.done (Sum.inl ())))
def tSatisfies_b5 (N : Nat) (p : TProb) (texts : (List (List UInt8))) : Int → Option (Stp Int (Sum Unit Bool))
 | x1584 =>
  (if (x1584 : Int) < (List.length p.Different : Int) then
   (idx p.Different x1584).bind fun x1596 =>
   (idx texts x1596.e0).bind fun x1619 =>
   (idx texts x1596.e1).bind fun x1633 =>
   (if x1619 = x1633 then
    some (Stp.done (Sum.inr false))
   else
    some (Stp.next (iw (x1584 + 1))))
  else
   some (Stp.done (Sum.inl ())))
def tSatisfies (N : Nat) (p : TProb) (texts : (List (List UInt8))) : Option Bool :=
 (if ((List.length texts : Int) : Int) ≠ (List.length p.Min : Int) then
  some false
 else
  (loopM (tSatisfies_b1 N p texts) N 0).bind fun ss =>
   match ss with
   | (Sum.inl _) =>
    (loopM (tSatisfies_b3 N p texts) N 0).bind fun ss =>
     match ss with
     | (Sum.inl _) =>
      (loopM (tSatisfies_b4 N p texts) N 0).bind fun ss =>
       match ss with
       | (Sum.inl _) =>
        (loopM (tSatisfies_b5 N p texts) N 0).bind fun ss =>
         match ss with
         | (Sum.inl _) =>
          some true
         | (Sum.inr z1725) => some z1725
       | (Sum.inr z1726) => some z1726
     | (Sum.inr z1727) => some z1727
   | (Sum.inr z1728) => some z1728)
def tclasses_b1 (N : Nat) (x8 : (List Int)) : ((List Int) × Int) → Option (Stp ((List Int) × Int) (List Int))
 | (least88, x92) =>
  (if (x92 : Int) < (List.length x8 : Int) then
   (idx least88 x92).bind fun x112 =>
   (upd1 least88 x92 x92).bind fun x118 =>
   some (Stp.next (x118, (iw (x92 + 1))))
  else
   some (Stp.done least88))
def tclasses_b3 (N : Nat) (p : TProb) : ((List Int) × Bool × Int) → Option (Stp ((List Int) × Bool × Int) ((List Int) × Bool))
 | (least1728, changed1732, x1733) =>
  (if (x1733 : Int) < (List.length p.Same : Int) then
   (idx p.Same x1733).bind fun x1750 =>
   (idx least1728 x1750.e0).bind fun x1773 =>
   (idx least1728 x1750.e1).bind fun x1784 =>
   (if (x1773 : Int) ≠ x1784 then
    (idx least1728 x1750.e0).bind fun x1873 =>
    (idx least1728 x1750.e1).bind fun x1879 =>
    (upd1 least1728 x1750.e0 (imin x1773 x1784)).bind fun x1889 =>
    (idx x1889 x1750.e1).bind fun x1905 =>
    (upd1 x1889 x1750.e1 (imin x1773 x1784)).bind fun x1911 =>
    some (Stp.next (x1911, true, (iw (x1733 + 1))))
   else
    some (Stp.next (least1728, changed1732, (iw (x1733 + 1)))))
  else
   some (Stp.done (least1728, changed1732)))
def tclasses_b2 (N : Nat) (p : TProb) : ((List Int) × Bool) → Option (Stp ((List Int) × Bool) (List Int))
 | (least1332, changed1336) =>
  (if changed1336 = true then
   (loopM (tclasses_b3 N p) N (least1332, false, 0)).bind fun ss =>
    match ss with
    | (least1737, changed1741) =>
     some (Stp.next (least1737, changed1741))
  else
   some (Stp.done least1332))
def tclasses_b4 (N : Nat) (least1339 : (List Int)) : ((List Int) × Int × Int) → Option (Stp ((List Int) × Int × Int) ((List Int) × Int))
 | (number2113, n2117, x2119) =>
  (if (x2119 : Int) < (List.length least1339 : Int) then
   (idx least1339 x2119).bind fun x2136 =>
   (if (x2136 : Int) = x2119 then
    (idx number2113 x2119).bind fun x2148 =>
    (upd1 number2113 x2119 n2117).bind fun x2154 =>
    some (Stp.next (x2154, (iw (n2117 + 1)), (iw (x2119 + 1))))
   else
    (idx number2113 x2136).bind fun x2170 =>
    (idx number2113 x2119).bind fun x2180 =>
    (upd1 number2113 x2119 x2170).bind fun x2186 =>
    some (Stp.next (x2186, n2117, (iw (x2119 + 1)))))
  else
   some (Stp.done (number2113, n2117)))
def tclasses (N : Nat) (p : TProb) : Option ((List Int) × Int) :=
 (mk1 (α := Int) 8 0 (List.length p.Min : Int)).bind fun x8 =>
 (loopM (tclasses_b1 N x8) N (x8, 0)).bind fun ss =>
  match ss with
  | least96 =>
   (loopM (tclasses_b2 N p) N (least96, true)).bind fun ss =>
    match ss with
    | least1339 =>
     (mk1 (α := Int) 8 0 (List.length least1339 : Int)).bind fun x1946 =>
     (loopM (tclasses_b4 N least1339) N (x1946, 0, 0)).bind fun ss =>
      match ss with
      | (number2122, n2126) =>
       some (number2122, n2126)
def tClasses_b1 (N : Nat) (r6 : ((List Int) × Int)) : ((List (List Int)) × Int) → Option (Stp ((List (List Int)) × Int) (List (List Int)))
 | (out234, x239) =>
  (if (x239 : Int) < (List.length r6.1 : Int) then
   (idx r6.1 x239).bind fun x259 =>
   (idx out234 x259).bind fun x272 =>
   (apnd 8 x272 [x239]).bind fun x304 =>
   (idx out234 x259).bind fun x320 =>
   (upd1 out234 x259 x304).bind fun x326 =>
   some (Stp.next (x326, (iw (x239 + 1))))
  else
   some (Stp.done out234))
def tClasses (N : Nat) (p : TProb) : Option (List (List Int)) :=
 (tclasses N p).bind fun r6 =>
 (mk1 (α := (List Int)) 24 [] r6.2).bind fun x27 =>
 (loopM (tClasses_b1 N r6) N (x27, 0)).bind fun ss =>
  match ss with
  | out244 =>
   some out244
def indexOf_b1 (N : Nat) (pb : Int) (s : (List Int)) : Int → Option (Stp Int (Sum Unit Int))
 | x40 =>
  (if (x40 : Int) < (List.length s : Int) then
   (idx s x40).bind fun x49 =>
   (if (pb : Int) = x49 then
    some (Stp.done (Sum.inr x40))
   else
    some (Stp.next (iw (x40 + 1))))
  else
   some (Stp.done (Sum.inl ())))
def indexOf (N : Nat) (s : (List Int)) (pb : Int) : Option Int :=
 (loopM (indexOf_b1 N pb s) N 0).bind fun ss =>
  match ss with
  | (Sum.inl _) =>
   some (-1)
  | (Sum.inr z67) => some z67
def containsOf (N : Nat) (s : (List Int)) (pb : Int) : Option Bool :=
 (indexOf N s pb).bind fun r1 =>
 some (decide ((r1 : Int) ≥ 0))
def cloneTest (N : Nat) (s : (List TTest)) : Option (List TTest) :=
 (apnd 40 ([] : (List TTest)) s).bind fun x16 =>
 some x16
def tgathered_b1 (N : Nat) (x27 : (List TClass)) : ((List TClass) × Int) → Option (Stp ((List TClass) × Int) (List TClass))
 | (l115, x119) =>
  (if (x119 : Int) < (List.length x27 : Int) then
   (idx l115 x119).bind fun x141 =>
   (upd1 l115 x119 (TClass.mk x141.low 16 x141.tests x141.words x141.apart)).bind fun x147 =>
   some (Stp.next (x147, (iw (x119 + 1))))
  else
   some (Stp.done l115))
def tgathered_b2 (N : Nat) (p : TProb) (r6 : ((List Int) × Int)) : ((List TClass) × Int) → Option (Stp ((List TClass) × Int) (List TClass))
 | (l473, x477) =>
  (if (x477 : Int) < (List.length r6.1 : Int) then
   (idx r6.1 x477).bind fun x496 =>
   (idx l473 x496).bind fun x509 =>
   (idx p.Min x477).bind fun x532 =>
   (idx l473 x496).bind fun x546 =>
   (idx p.Max x477).bind fun x569 =>
   (idx l473 x496).bind fun x583 =>
   (idx l473 x496).bind fun x589 =>
   (upd1 l473 x496 (TClass.mk (imax x509.low x532) x583.high x583.tests x583.words x583.apart)).bind fun x599 =>
   (idx x599 x496).bind fun x614 =>
   (upd1 x599 x496 (TClass.mk x614.low (imin x546.high x569) x614.tests x614.words x614.apart)).bind fun x620 =>
   some (Stp.next (x620, (iw (x477 + 1))))
  else
   some (Stp.done l473))
def tgathered_b3 (N : Nat) (p : TProb) (r6 : ((List Int) × Int)) : ((List TClass) × Int) → Option (Stp ((List TClass) × Int) (List TClass))
 | (l910, x914) =>
  (if (x914 : Int) < (List.length p.Tests : Int) then
   (idx p.Tests x914).bind fun x933 =>
   (idx r6.1 x933.Var).bind fun x956 =>
   (idx l910 x956).bind fun x975 =>
   (idx l910 x956).bind fun x1005 =>
   (apnd 40 x975.tests [x933]).bind fun x1023 =>
   (upd1 l910 x956 (TClass.mk x1005.low x1005.high x1023 x1005.words x1005.apart)).bind fun x1039 =>
   some (Stp.next (x1039, (iw (x914 + 1))))
  else
   some (Stp.done l910))
def tgathered_b4 (N : Nat) (p : TProb) (r6 : ((List Int) × Int)) : ((List TClass) × Int) → Option (Stp ((List TClass) × Int) (Sum (List TClass) ((List TClass) × (List Int) × Bool)))
 | (l1829, x1833) =>
  (if (x1833 : Int) < (List.length p.Different : Int) then
   (idx p.Different x1833).bind fun x1854 =>
   (idx r6.1 x1854.e0).bind fun x1877 =>
   (idx r6.1 x1854.e1).bind fun x1890 =>
   (if (x1877 : Int) = x1890 then
    some (Stp.done (Sum.inr (l1829, r6.1, false)))
   else
    (idx l1829 x1877).bind fun x1985 =>
    (containsOf N x1985.apart x1890).bind fun r2015 =>
    (if (!r2015) = true then
     (idx l1829 x1877).bind fun x2029 =>
     (idx l1829 x1890).bind fun x2059 =>
     (apnd 8 x2029.apart [x1890]).bind fun x2104 =>
     (apnd 8 x2059.apart [x1877]).bind fun x2133 =>
     (idx l1829 x1877).bind fun x2151 =>
     (upd1 l1829 x1877 (TClass.mk x2151.low x2151.high x2151.tests x2151.words x2104)).bind fun x2168 =>
     (idx x2168 x1890).bind fun x2183 =>
     (upd1 x2168 x1890 (TClass.mk x2183.low x2183.high x2183.tests x2183.words x2133)).bind fun x2201 =>
     some (Stp.next (x2201, (iw (x1833 + 1))))
    else
     some (Stp.next (l1829, (iw (x1833 + 1))))))
  else
   some (Stp.done (Sum.inl l1829)))
def tgathered (N : Nat) (p : TProb) : Option ((List TClass) × (List Int) × Bool) :=
 (tclasses N p).bind fun r6 =>
 (mk1 (α := TClass) 88 (TClass.mk 0 0 [] [] []) r6.2).bind fun x27 =>
 (loopM (tgathered_b1 N x27) N (x27, 0)).bind fun ss =>
  match ss with
  | l126 =>
   (loopM (tgathered_b2 N p r6) N (l126, 0)).bind fun ss =>
    match ss with
    | l484 =>
     (loopM (tgathered_b3 N p r6) N (l484, 0)).bind fun ss =>
      match ss with
      | l921 =>
       (loopM (tgathered_b4 N p r6) N (l921, 0)).bind fun ss =>
        match ss with
        | (Sum.inl l1839) =>
         some (l1839, r6.1, true)
        | (Sum.inr z2240) => some z2240
def tfirst_b2 (N : Nat) (c : TClass) (most : Int) (n1276 : Int) : ((List (List UInt8)) × (List TTest)) → Option (Stp ((List (List UInt8)) × (List TTest)) (List (List UInt8)))
 | (out1700, tests1709) =>
  (if ((List.length out1700 : Int) : Int) < most then
   (pWords N tests1709 n1276 (imin 100 (iw (most - (List.length out1700 : Int))))).bind fun r1736 =>
   (apnd 16 out1700 r1736).bind fun x1751 =>
   (if ((List.length r1736 : Int) : Int) < 100 then
    some (Stp.done x1751)
   else
    (cloneTest N c.tests).bind fun r1774 =>
    (idx r1736 (iw ((List.length r1736 : Int) - 1))).bind fun x1785 =>
    (apnd 40 r1774 [(TTest.mk 0 3 true x1785)]).bind fun x1891 =>
    some (Stp.next (x1751, x1891)))
  else
   some (Stp.done out1700))
def tfirst_b1 (N : Nat) (c : TClass) (most : Int) : ((List (List UInt8)) × Int) → Option (Stp ((List (List UInt8)) × Int) (List (List UInt8)))
 | (out1272, n1276) =>
  (((if (n1276 : Int) ≤ c.high then
   some (decide (((List.length out1272 : Int) : Int) < most))
  else
   some false) : Option Bool)).bind fun ss =>
   match ss with
   | x1304 =>
    (if x1304 = true then
     (cloneTest N c.tests).bind fun r1312 =>
     (loopM (tfirst_b2 N c most n1276) N (out1272, r1312)).bind fun ss =>
      match ss with
      | out1719 =>
       some (Stp.next (out1719, (iw (n1276 + 1))))
    else
     some (Stp.done out1272))
def tfirst (N : Nat) (c : TClass) (most : Int) : Option (List (List UInt8)) :=
 (loopM (tfirst_b1 N c most) N (([] : (List (List UInt8))), c.low)).bind fun ss =>
  match ss with
  | out1282 =>
   some out1282
def tLengths_b1 (N : Nat) (x62 : TClass) : ((List Int) × Int) → Option (Stp ((List Int) × Int) (List Int))
 | (out208, n212) =>
  (if (n212 : Int) ≤ x62.high then
   (pWords N x62.tests n212 1).bind fun r238 =>
   (if ((List.length r238 : Int) : Int) > 0 then
    (apnd 8 out208 [n212]).bind fun x263 =>
    some (Stp.next (x263, (iw (n212 + 1))))
   else
    some (Stp.next (out208, (iw (n212 + 1)))))
  else
   some (Stp.done out208))
def tLengths (N : Nat) (p : TProb) (pb : Int) : Option (List Int) :=
 (((if (pb : Int) < 0 then
  some true
 else
  some (decide ((pb : Int) ≥ (List.length p.Min : Int)))) : Option Bool)).bind fun ss =>
  match ss with
  | x9 =>
   (if x9 = true then
    some ([] : (List Int))
   else
    (tgathered N p).bind fun r23 =>
    (idx r23.2.1 pb).bind fun x50 =>
    (idx r23.1 x50).bind fun x62 =>
    (loopM (tLengths_b1 N x62) N (([] : (List Int)), x62.low)).bind fun ss =>
     match ss with
     | out218 =>
      some out218)
def revInt_b1 (N : Nat)  : ((List Int) × Int × Int) → Option (Stp ((List Int) × Int × Int) (List Int))
 | (s322, i326, j327) =>
  (if (i326 : Int) < j327 then
   (idx s322 j327).bind fun x342 =>
   (idx s322 i326).bind fun x354 =>
   (idx s322 i326).bind fun x448 =>
   (upd1 s322 i326 x342).bind fun x454 =>
   (idx x454 j327).bind fun x470 =>
   (upd1 x454 j327 x354).bind fun x476 =>
   some (Stp.next (x476, (iw (i326 + 1)), (iw (j327 - 1))))
  else
   some (Stp.done s322))
def revInt (N : Nat) (s : (List Int)) : Option (List Int) :=
 (loopM (revInt_b1 N ) N (s, 0, (iw ((List.length s : Int) - 1)))).bind fun ss =>
  match ss with
  | s330 =>
   some s330
def tchoose1 (N : Nat) (other : Int) (ca : (List Bool)) (cb : (List (List UInt8))) (cc : (List UInt8)) : Option Bool :=
 (idx ca other).bind fun x1 =>
 (if x1 = true then
  (idx cb other).bind fun x15 =>
  some (decide (x15 = cc))
 else
  some false)
def tchoose_b1 (N : Nat) (self : (List TClass) → (List Int) → (List (List UInt8)) → (List Bool) → Option (Bool × Bool × (List (List UInt8)) × (List Bool))) (l : (List TClass)) (order : (List Int)) (words : (List (List UInt8))) (x21 : Int) (x58 : TClass) : ((List (List UInt8)) × (List Bool) × Int) → Option (Stp ((List (List UInt8)) × (List Bool) × Int) (Sum ((List (List UInt8)) × (List Bool)) (Bool × Bool × (List (List UInt8)) × (List Bool))))
 | (words429, known436, x442) =>
  (if (x442 : Int) < (List.length x58.words : Int) then
   (idx x58.words x442).bind fun x471 =>
   (idx l x21).bind fun x494 =>
   (containsInt N x494.apart (fun y515 => tchoose1 N y515 known436 words429 x471)).bind fun r516 =>
   (if r516 = true then
    some (Stp.next (words429, known436, (iw (x442 + 1))))
   else
    (idx words429 x21).bind fun x532 =>
    (upd1 words429 x21 x471).bind fun x541 =>
    (cut order 1 (List.length order : Int)).bind fun x567 =>
    (self l x567 x541 known436).bind fun r593 =>
    (if r593.2.1 = true then
     some (Stp.done (Sum.inr (r593.1, true, r593.2.2.1, r593.2.2.2)))
    else
     some (Stp.next (r593.2.2.1, r593.2.2.2, (iw (x442 + 1))))))
  else
   some (Stp.done (Sum.inl (words429, known436))))
def tchoose_step (N : Nat) (self : (List TClass) → (List Int) → (List (List UInt8)) → (List Bool) → Option (Bool × Bool × (List (List UInt8)) × (List Bool))) (l : (List TClass)) (order : (List Int)) (words : (List (List UInt8))) (known : (List Bool)) : Option (Bool × Bool × (List (List UInt8)) × (List Bool)) :=
 (if ((List.length order : Int) : Int) = 0 then
  some (true, true, words, known)
 else
  (idx order 0).bind fun x21 =>
  (idx known x21).bind fun x34 =>
  (upd1 known x21 true).bind fun x43 =>
  (idx l x21).bind fun x58 =>
  (loopM (tchoose_b1 N self l order words x21 x58) N (words, x43, 0)).bind fun ss =>
   match ss with
   | (Sum.inl (words446, known453)) =>
    (idx known453 x21).bind fun x648 =>
    (upd1 known453 x21 false).bind fun x656 =>
    some (false, false, words446, x656)
   | (Sum.inr z677) => some z677)
def tchoose : Nat → (List TClass) → (List Int) → (List (List UInt8)) → (List Bool) → Option (Bool × Bool × (List (List UInt8)) × (List Bool))
 | 0 => fun _ _ _ _ => none
 | N + 1 => tchoose_step N (tchoose N)
def insSort_b2 (N : Nat) (a : Int) (cmp : (Int → Int → Option Int)) : ((List Int) × Int) → Option (Stp ((List Int) × Int) (List Int))
 | (data4372, j4376) =>
  (((if (j4376 : Int) > a then
   (idx data4372 j4376).bind fun x4617 =>
   (idx data4372 (iw (j4376 - 1))).bind fun x4629 =>
   (cmp x4617 x4629).bind fun r4735 =>
   some (decide ((r4735 : Int) < 0))
  else
   some false) : Option Bool)).bind fun ss =>
   match ss with
   | x4613 =>
    (if x4613 = true then
     (idx data4372 (iw (j4376 - 1))).bind fun x4842 =>
     (idx data4372 j4376).bind fun x4855 =>
     (idx data4372 j4376).bind fun x4865 =>
     (idx data4372 (iw (j4376 - 1))).bind fun x4871 =>
     (upd1 data4372 j4376 x4842).bind fun x4881 =>
     (idx x4881 (iw (j4376 - 1))).bind fun x4897 =>
     (upd1 x4881 (iw (j4376 - 1)) x4855).bind fun x4903 =>
     some (Stp.next (x4903, (iw (j4376 - 1))))
    else
     some (Stp.done data4372))
def insSort_b1 (N : Nat) (a : Int) (b : Int) (cmp : (Int → Int → Option Int)) : ((List Int) × Int) → Option (Stp ((List Int) × Int) (List Int))
 | (data3277, i3281) =>
  (if (i3281 : Int) < b then
   (loopM (insSort_b2 N a cmp) N (data3277, i3281)).bind fun ss =>
    match ss with
    | data4379 =>
     some (Stp.next (data4379, (iw (i3281 + 1))))
  else
   some (Stp.done data3277))
def insSort (N : Nat) (data : (List Int)) (a : Int) (b : Int) (cmp : (Int → Int → Option Int)) : Option (List Int) :=
 (loopM (insSort_b1 N a b cmp) N (data, (iw (a + 1)))).bind fun ss =>
  match ss with
  | data3284 =>
   some data3284
def stableSort_b1 (N : Nat) (cmp : (Int → Int → Option Int)) (n : Int) : ((List Int) × Int × Int) → Option (Stp ((List Int) × Int × Int) ((List Int) × Int))
 | (data56, a60, b61) =>
  (if (b61 : Int) ≤ n then
   (insSort N data56 a60 b61 cmp).bind fun r78 =>
   some (Stp.next (r78, b61, (iw (b61 + 20))))
  else
   some (Stp.done (data56, a60)))
def stableSort_b3 (N : Nat) (n : Int) (blockSize163 : Int) : Unit → Option (Stp Unit Unit)
 | _ =>
  (if ((iw (2 * blockSize163)) : Int) ≤ n then
   none
  else
   some (Stp.done ()))
def stableSort_b2 (N : Nat) (n : Int) : Int → Option (Stp Int Unit)
 | blockSize163 =>
  (if (blockSize163 : Int) < n then
   (loopM (stableSort_b3 N n blockSize163) N ()).bind fun ss =>
    match ss with
    | _ =>
     (if ((iw (0 + blockSize163)) : Int) < n then
      none
     else
      some (Stp.next (iw (blockSize163 * 2))))
  else
   some (Stp.done ()))
def stableSort (N : Nat) (data : (List Int)) (n : Int) (cmp : (Int → Int → Option Int)) : Option (List Int) :=
 (loopM (stableSort_b1 N cmp n) N (data, 0, 20)).bind fun ss =>
  match ss with
  | (data65, a69) =>
   (insSort N data65 a69 n cmp).bind fun r97 =>
   (loopM (stableSort_b2 N n) N 20).bind fun ss =>
    match ss with
    | _ =>
     some r97
def sortStable (N : Nat) (x : (List Int)) (cmp : (Int → Int → Option Int)) : Option (List Int) :=
 (stableSort N x (List.length x : Int) cmp).bind fun r2 =>
 some r2
def tSolve1 (N : Nat) (a : Int) (b : Int) (ca : (List TClass)) : Option Int :=
 (idx ca a).bind fun x1 =>
 (idx ca b).bind fun x21 =>
 some (iw ((List.length x1.words : Int) - (List.length x21.words : Int)))
def tSolve_b1 (N : Nat) (r6 : ((List TClass) × (List Int) × Bool)) : ((List TClass) × Int) → Option (Stp ((List TClass) × Int) (Sum (List TClass) ((List (List UInt8)) × Bool)))
 | (l485, x490) =>
  (if (x490 : Int) < (List.length r6.1 : Int) then
   (idx l485 x490).bind fun x511 =>
   (idx l485 x490).bind fun x529 =>
   (tfirst N x511 (iw ((List.length x529.apart : Int) + 1))).bind fun r546 =>
   (idx l485 x490).bind fun x657 =>
   (upd1 l485 x490 (TClass.mk x657.low x657.high x657.tests r546 x657.apart)).bind fun x678 =>
   (idx x678 x490).bind fun x693 =>
   (if ((List.length x693.words : Int) : Int) = 0 then
    some (Stp.done (Sum.inr (([] : (List (List UInt8))), false)))
   else
    some (Stp.next (x678, (iw (x490 + 1)))))
  else
   some (Stp.done (Sum.inl l485)))
def tSolve_b2 (N : Nat) (l494 : (List TClass)) : ((List Int) × Int) → Option (Stp ((List Int) × Int) (List Int))
 | (left866, x871) =>
  (if (x871 : Int) < (List.length l494 : Int) then
   (idx l494 x871).bind fun x894 =>
   (idx left866 x871).bind fun x914 =>
   (upd1 left866 x871 (List.length x894.apart : Int)).bind fun x920 =>
   some (Stp.next (x920, (iw (x871 + 1))))
  else
   some (Stp.done left866))
def tSolve_b5 (N : Nat) (x8320 : TClass) : ((List Int) × Int) → Option (Stp ((List Int) × Int) (List Int))
 | (left8463, x8468) =>
  (if (x8468 : Int) < (List.length x8320.apart : Int) then
   (idx x8320.apart x8468).bind fun x8492 =>
   (idx left8463 x8492).bind fun x8506 =>
   (idx left8463 x8492).bind fun x8516 =>
   (upd1 left8463 x8492 (iw (x8506 - 1))).bind fun x8522 =>
   some (Stp.next (x8522, (iw (x8468 + 1))))
  else
   some (Stp.done left8463))
def tSolve_b4 (N : Nat) (l494 : (List TClass)) : ((List Int) × (List Int) × (List Bool) × Bool × Int) → Option (Stp ((List Int) × (List Int) × (List Bool) × Bool × Int) ((List Int) × (List Int) × (List Bool) × Bool))
 | (last7694, left7700, removed7706, changed7710, x7711) =>
  (if (x7711 : Int) < (List.length l494 : Int) then
   (((idx removed7706 x7711).bind fun x8011 =>
   (if (!x8011) = true then
    (idx l494 x7711).bind fun x8022 =>
    (idx left7700 x7711).bind fun x8042 =>
    some (decide (((List.length x8022.words : Int) : Int) > x8042))
   else
    some false) : Option Bool)).bind fun ss =>
    match ss with
    | x8008 =>
     (if x8008 = true then
      (idx removed7706 x7711).bind fun x8272 =>
      (upd1 removed7706 x7711 true).bind fun x8278 =>
      (apnd 8 last7694 [x7711]).bind fun x8302 =>
      (idx l494 x7711).bind fun x8320 =>
      (loopM (tSolve_b5 N x8320) N (left7700, 0)).bind fun ss =>
       match ss with
       | left8475 =>
        some (Stp.next (x8302, left8475, x8278, true, (iw (x7711 + 1))))
     else
      some (Stp.next (last7694, left7700, removed7706, changed7710, (iw (x7711 + 1)))))
  else
   some (Stp.done (last7694, left7700, removed7706, changed7710)))
def tSolve_b3 (N : Nat) (l494 : (List TClass)) : ((List Int) × (List Int) × (List Bool) × Bool) → Option (Stp ((List Int) × (List Int) × (List Bool) × Bool) ((List Int) × (List Bool)))
 | (last5996, left6002, removed6008, changed6012) =>
  (if changed6012 = true then
   (loopM (tSolve_b4 N l494) N (last5996, left6002, removed6008, false, 0)).bind fun ss =>
    match ss with
    | (last7720, left7726, removed7732, changed7736) =>
     some (Stp.next (last7720, left7726, removed7732, changed7736))
  else
   some (Stp.done (last5996, removed6008)))
def tSolve_b6 (N : Nat) (l494 : (List TClass)) (removed6027 : (List Bool)) : ((List Int) × Int) → Option (Stp ((List Int) × Int) (List Int))
 | (hard8676, x8680) =>
  (if (x8680 : Int) < (List.length l494 : Int) then
   (idx removed6027 x8680).bind fun x8710 =>
   (if (!x8710) = true then
    (apnd 8 hard8676 [x8680]).bind fun x8730 =>
    some (Stp.next (x8730, (iw (x8680 + 1))))
   else
    some (Stp.next (hard8676, (iw (x8680 + 1)))))
  else
   some (Stp.done hard8676))
def tSolve_b7 (N : Nat) (r6 : ((List TClass) × (List Int) × Bool)) (chosen8933 : (List (List UInt8))) : (Bool × (List (List UInt8)) × Int) → Option (Stp (Bool × (List (List UInt8)) × Int) (List (List UInt8)))
 | (al9224, out9227, x9232) =>
  (if (x9232 : Int) < (List.length r6.2.1 : Int) then
   (idx r6.2.1 x9232).bind fun x9251 =>
   (chk (al9224 = true)).bind fun _ =>
   (idx chosen8933 x9251).bind fun x9266 =>
   (idx out9227 x9232).bind fun x9279 =>
   (upd1 out9227 x9232 x9266).bind fun x9285 =>
   some (Stp.next (al9224, x9285, (iw (x9232 + 1))))
  else
   some (Stp.done out9227))
def tSolve (N : Nat) (p : TProb) : Option ((List (List UInt8)) × Bool) :=
 (tgathered N p).bind fun r6 =>
 (if (!r6.2.2) = true then
  some (([] : (List (List UInt8))), false)
 else
  (loopM (tSolve_b1 N r6) N (r6.1, 0)).bind fun ss =>
   match ss with
   | (Sum.inl l494) =>
    (mk1 (α := Int) 8 0 (List.length l494 : Int)).bind fun x721 =>
    (mk1 (α := Bool) 1 false (List.length l494 : Int)).bind fun x738 =>
    (loopM (tSolve_b2 N l494) N (x721, 0)).bind fun ss =>
     match ss with
     | left877 =>
      (loopM (tSolve_b3 N l494) N (([] : (List Int)), left877, x738, true)).bind fun ss =>
       match ss with
       | (last6021, removed6027) =>
        (loopM (tSolve_b6 N l494 removed6027) N (([] : (List Int)), 0)).bind fun ss =>
         match ss with
         | hard8690 =>
          (sortStable N hard8690 (fun y8759 y8760 => tSolve1 N y8759 y8760 l494)).bind fun r8761 =>
          (revInt N last6021).bind fun r8780 =>
          (((apnd 8 r8761 r8780).bind fun x8941 =>
          (mk1 (α := (List UInt8)) 16 [] (List.length l494 : Int)).bind fun x8954 =>
          (mk1 (α := Bool) 1 false (List.length l494 : Int)).bind fun x8966 =>
          (tchoose N l494 x8941 x8954 x8966).bind fun r9035 =>
          some (r9035.2.2.1, r9035.1, r9035.2.1) : Option ((List (List UInt8)) × Bool × Bool))).bind fun ss =>
           match ss with
           | (chosen8933, al8937, is8938) =>
            (if (!is8938) = true then
             some (([] : (List (List UInt8))), false)
            else
             (mk1 (α := (List UInt8)) 16 [] (List.length r6.2.1 : Int)).bind fun x9086 =>
             (loopM (tSolve_b7 N r6 chosen8933) N (al8937, x9086, 0)).bind fun ss =>
              match ss with
              | out9235 =>
               some (out9235, true))
   | (Sum.inr z9308) => some z9308)
end Go.D

/- Plain counterparts, written by a program of mine (wip/tool). -/
import Derived.Test.YtckhldmpcddjmaaDoorT20
import Derived.Test.YtckhldmpcddjmaaDoorFD20
import Derived.Test.YtckhldmpcddjmaaDoorPA
set_option linter.unusedVariables false
set_option linter.unusedSimpArgs false
namespace Go.D
open Go Go.X
def rValid_b2 (N : Nat) (d : ADfa) (i605 : Int) : (Int × Int) → Option (Stp (Int × Int) (Sum Unit Bool))
  | (last797, k798) =>
    (idx d.Edges i605).bind fun x807 =>
    (if (k798 : Int) < (List.length x807 : Int) then
      (idx d.Edges i605).bind fun x824 =>
      (idx x824 k798).bind fun x839 =>
      (((if ((iw x839.Low) : Int) ≤ last797 then
        some true
      else
        (if (x839.High : Int) < x839.Low then
          some true
        else
          (if (x839.High : Int) > 126 then
            some true
          else
            (if (x839.To : Int) < 0 then
              some true
            else
              some (decide ((x839.To : Int) ≥ (List.length d.Accept : Int))))))) : Option Bool)).bind fun ss =>
        match ss with
        | x867 =>
          (if x867 = true then
            some (Stp.done (Sum.inr false))
          else
            some (Stp.next ((iw x839.High), (iw (k798 + 1)))))
    else
      some (Stp.done (Sum.inl ())))
def rValid_b1 (N : Nat) (d : ADfa) : Int → Option (Stp Int (Sum Unit Bool))
  | i605 =>
    (if (i605 : Int) < (List.length d.Accept : Int) then
      (loopM (rValid_b2 N d i605) N (31, 0)).bind fun ss =>
        match ss with
        | (Sum.inl _) =>
          some (Stp.next (iw (i605 + 1)))
        | (Sum.inr z899) => some (Stp.done (Sum.inr z899))
    else
      some (Stp.done (Sum.inl ())))
def rValid (N : Nat) (d : ADfa) : Option Bool :=
  (((if ((List.length d.Accept : Int) : Int) < 1 then
    some true
  else
    (if ((List.length d.Accept : Int) : Int) > 4096 then
      some true
    else
      some (decide (((List.length d.Edges : Int) : Int) ≠ (List.length d.Accept : Int))))) : Option Bool)).bind fun ss =>
    match ss with
    | x11 =>
      (if x11 = true then
        some false
      else
        (loopM (rValid_b1 N d) N 0).bind fun ss =>
          match ss with
          | (Sum.inl _) =>
            some true
          | (Sum.inr z906) => some z906)
def rStep_b1 (N : Nat) (c : Int) (d : ADfa) (state : Int) : Int → Option (Stp Int (Sum Unit Int))
  | k159 =>
    (idx d.Edges state).bind fun x167 =>
    (if (k159 : Int) < (List.length x167 : Int) then
      (idx d.Edges state).bind fun x184 =>
      (idx x184 k159).bind fun x199 =>
      (((if (x199.Low : Int) ≤ c then
        some (decide ((c : Int) ≤ x199.High))
      else
        some false) : Option Bool)).bind fun ss =>
        match ss with
        | x224 =>
          (if x224 = true then
            some (Stp.done (Sum.inr x199.To))
          else
            some (Stp.next (iw (k159 + 1))))
    else
      some (Stp.done (Sum.inl ())))
def rStep (N : Nat) (d : ADfa) (state : Int) (c : Int) : Option Int :=
  (if (state : Int) < 0 then
    some (-1)
  else
    (loopM (rStep_b1 N c d state) N 0).bind fun ss =>
      match ss with
      | (Sum.inl _) =>
        some (-1)
      | (Sum.inr z247) => some z247)
def rFinal (N : Nat) (d : ADfa) (state : Int) : Option Bool :=
  (if (state : Int) ≥ 0 then
    (idx d.Accept state).bind fun x7 =>
    some x7
  else
    some false)
def rPlace_b1 (N : Nat) (l : (List APair2)) (p : APair2) : Int → Option (Stp Int (Sum Unit Int))
  | i132 =>
    (if (i132 : Int) < (List.length l : Int) then
      (idx l i132).bind fun x142 =>
      (if (x142.A : Int) = p.A ∧ (x142.B : Int) = p.B then
        some (Stp.done (Sum.inr i132))
      else
        some (Stp.next (iw (i132 + 1))))
    else
      some (Stp.done (Sum.inl ())))
def rPlace (N : Nat) (l : (List APair2)) (p : APair2) : Option Int :=
  (loopM (rPlace_b1 N l p) N 0).bind fun ss =>
    match ss with
    | (Sum.inl _) =>
      some (List.length l : Int)
    | (Sum.inr z205) => some z205
def rPairs_b2 (N : Nat) (a : ADfa) (b : ADfa) (i1400 : Int) : ((List APair2) × Int) → Option (Stp ((List APair2) × Int) (List APair2))
  | (l1857, c1861) =>
    (if (c1861 : Int) < 127 then
      (idx l1857 i1400).bind fun x1881 =>
      (rStep N a x1881.A c1861).bind fun r1894 =>
      (idx l1857 i1400).bind fun x1897 =>
      (rStep N b x1897.B c1861).bind fun r1908 =>
      (rPlace N l1857 (APair2.mk r1894 r1908)).bind fun r2047 =>
      (if (r2047 : Int) = (List.length l1857 : Int) then
        (apnd 16 l1857 [(APair2.mk r1894 r1908)]).bind fun x2065 =>
        some (Stp.next (x2065, (uw8 (c1861 + 1))))
      else
        some (Stp.next (l1857, (uw8 (c1861 + 1)))))
    else
      some (Stp.done l1857))
def rPairs_b1 (N : Nat) (a : ADfa) (b : ADfa) : ((List APair2) × Int) → Option (Stp ((List APair2) × Int) (List APair2))
  | (l1396, i1400) =>
    (if (i1400 : Int) < (List.length l1396 : Int) then
      (loopM (rPairs_b2 N a b i1400) N (l1396, 32)).bind fun ss =>
        match ss with
        | l1869 =>
          some (Stp.next (l1869, (iw (i1400 + 1))))
    else
      some (Stp.done l1396))
def rPairs (N : Nat) (a : ADfa) (b : ADfa) : Option (List APair2) :=
  (loopM (rPairs_b1 N a b) N ([(APair2.mk 0 0)], 0)).bind fun ss =>
    match ss with
    | l1406 =>
      some l1406
def rEquivalent_b1 (N : Nat) (a : ADfa) (b : ADfa) (r11 : (List APair2)) : Int → Option (Stp Int (Sum Unit Bool))
  | i308 =>
    (if (i308 : Int) < (List.length r11 : Int) then
      (idx r11 i308).bind fun x321 =>
      (rFinal N a x321.A).bind fun r334 =>
      (idx r11 i308).bind fun x337 =>
      (rFinal N b x337.B).bind fun r440 =>
      (if (!(r334 == r440)) = true then
        some (Stp.done (Sum.inr false))
      else
        some (Stp.next (iw (i308 + 1))))
    else
      some (Stp.done (Sum.inl ())))
def rEquivalent (N : Nat) (a : ADfa) (b : ADfa) : Option Bool :=
  (rPairs N a b).bind fun r11 =>
  (loopM (rEquivalent_b1 N a b r11) N 0).bind fun ss =>
    match ss with
    | (Sum.inl _) =>
      some true
    | (Sum.inr z456) => some z456
def rFew (N : Nat) (d : ADfa) : Option Bool :=
  (if ((List.length d.Accept : Int) : Int) ≤ 8 then
    (rValid N d).bind fun r8 =>
    some r8
  else
    some false)
end Go.D

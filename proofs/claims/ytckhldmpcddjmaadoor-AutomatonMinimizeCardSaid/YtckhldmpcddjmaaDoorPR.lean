/- Plain counterparts, written by a program of mine (wip/tool). -/
import Derived.Test.YtckhldmpcddjmaaDoorT20
import Derived.Test.YtckhldmpcddjmaaDoorFD20
import Derived.Test.YtckhldmpcddjmaaDoorPA
set_option linter.unusedVariables false
set_option linter.unusedSimpArgs false
namespace Go.D
open Go Go.X
def rValid_b2 (N : Nat) (d : ADfa) (i605 : Int) : (Int × Int) → Option (Stp (Int × Int) (Sum Unit Bool))
  | (last797, k798) =>
    (idx d.Edges i605).bind fun x807 =>
    (if (k798 : Int) < (List.length x807 : Int) then
      (idx d.Edges i605).bind fun x824 =>
      (idx x824 k798).bind fun x839 =>
      (((if ((iw x839.Low) : Int) ≤ last797 then
        some true
      else
        (if (x839.High : Int) < x839.Low then
          some true
        else
          (if (x839.High : Int) > 126 then
            some true
          else
            (if (x839.To : Int) < 0 then
              some true
            else
              some (decide ((x839.To : Int) ≥ (List.length d.Accept : Int))))))) : Option Bool)).bind fun ss =>
        match ss with
        | x867 =>
          (if x867 = true then
            some (Stp.done (Sum.inr false))
          else
            some (Stp.next ((iw x839.High), (iw (k798 + 1)))))
    else
      some (Stp.done (Sum.inl ())))
def rValid_b1 (N : Nat) (d : ADfa) : Int → Option (Stp Int (Sum Unit Bool))
  | i605 =>
    (if (i605 : Int) < (List.length d.Accept : Int) then
      (loopM (rValid_b2 N d i605) N (31, 0)).bind fun ss =>
        match ss with
        | (Sum.inl _) =>
          some (Stp.next (iw (i605 + 1)))
        | (Sum.inr z899) => some (Stp.done (Sum.inr z899))
    else
      some (Stp.done (Sum.inl ())))
def rValid (N : Nat) (d : ADfa) : Option Bool :=
  (((if ((List.length d.Accept : Int) : Int) < 1 then
    some true
  else
    (if ((List.length d.Accept : Int) : Int) > 4096 then
      some true
    else
      some (decide (((List.length d.Edges : Int) : Int) ≠ (List.length d.Accept : Int))))) : Option Bool)).bind fun ss =>
    match ss with
    | x11 =>
      (if x11 = true then
        some false
      else
        (loopM (rValid_b1 N d) N 0).bind fun ss =>
          match ss with
          | (Sum.inl _) =>
            some true
          | (Sum.inr z906) => some z906)
def rStep_b1 (N : Nat) (c : Int) (d : ADfa) (state : Int) : Int → Option (Stp Int (Sum Unit Int))
  | k159 =>
    (idx d.Edges state).bind fun x167 =>
    (if (k159 : Int) < (List.length x167 : Int) then
      (idx d.Edges state).bind fun x184 =>
      (idx x184 k159).bind fun x199 =>
      (((if (x199.Low : Int) ≤ c then
        some (decide ((c : Int) ≤ x199.High))
      else
        some false) : Option Bool)).bind fun ss =>
        match ss with
        | x224 =>
          (if x224 = true then
            some (Stp.done (Sum.inr x199.To))
          else
            some (Stp.next (iw (k159 + 1))))
    else
      some (Stp.done (Sum.inl ())))
def rStep (N : Nat) (d : ADfa) (state : Int) (c : Int) : Option Int :=
  (if (state : Int) < 0 then
    some (-1)
  else
    (loopM (rStep_b1 N c d state) N 0).bind fun ss =>
      match ss with
      | (Sum.inl _) =>
        some (-1)
      | (Sum.inr z247) => some z247)
def rFinal (N : Nat) (d : ADfa) (state : Int) : Option Bool :=
  (if (state : Int) ≥ 0 then
    (idx d.Accept state).bind fun x7 =>
    some x7
  else
    some false)
def rPlace_b1 (N : Nat) (l : (List APair2)) (p : APair2) : Int → Option (Stp Int (Sum Unit Int))
  | i132 =>
    (if (i132 : Int) < (List.length l : Int) then
      (idx l i132).bind fun x142 =>
      (if (x142.A : Int) = p.A ∧ (x142.B : Int) = p.B then
        some (Stp.done (Sum.inr i132))
      else
        some (Stp.next (iw (i132 + 1))))
    else
      some (Stp.done (Sum.inl ())))
def rPlace (N : Nat) (l : (List APair2)) (p : APair2) : Option Int :=
  (loopM (rPlace_b1 N l p) N 0).bind fun ss =>
    match ss with
    | (Sum.inl _) =>
      some (List.length l : Int)
    | (Sum.inr z205) => some z205
def rPairs_b2 (N : Nat) (a : ADfa) (b : ADfa) (i1400 : Int) : ((List APair2) × Int) → Option (Stp ((List APair2) × Int) (List APair2))
  | (l1857, c1861) =>
    (if (c1861 : Int) < 127 then
      (idx l1857 i1400).bind fun x1881 =>
      (rStep N a x1881.A c1861).bind fun r1894 =>
      (idx l1857 i1400).bind fun x1897 =>
      (rStep N b x1897.B c1861).bind fun r1908 =>
      (rPlace N l1857 (APair2.mk r1894 r1908)).bind fun r2047 =>
      (if (r2047 : Int) = (List.length l1857 : Int) then
        (apnd 16 l1857 [(APair2.mk r1894 r1908)]).bind fun x2065 =>
        some (Stp.next (x2065, (uw8 (c1861 + 1))))
      else
        some (Stp.next (l1857, (uw8 (c1861 + 1)))))
    else
      some (Stp.done l1857))
def rPairs_b1 (N : Nat) (a : ADfa) (b : ADfa) : ((List APair2) × Int) → Option (Stp ((List APair2) × Int) (List APair2))
  | (l1396, i1400) =>
    (if (i1400 : Int) < (List.length l1396 : Int) then
      (loopM (rPairs_b2 N a b i1400) N (l1396, 32)).bind fun ss =>
        match ss with
        | l1869 =>
          some (Stp.next (l1869, (iw (i1400 + 1))))
    else
      some (Stp.done l1396))
def rPairs (N : Nat) (a : ADfa) (b : ADfa) : Option (List APair2) :=
  (loopM (rPairs_b1 N a b) N ([(APair2.mk 0 0)], 0)).bind fun ss =>
    match ss with
    | l1406 =>
      some l1406
def rEquivalent_b1 (N : Nat) (a : ADfa) (b : ADfa) (r11 : (List APair2)) : Int → Option (Stp Int (Sum Unit Bool))
  | i308 =>
    (if (i308 : Int) < (List.length r11 : Int) then
      (idx r11 i308).bind fun x321 =>
      (rFinal N a x321.A).bind fun r334 =>
      (idx r11 i308).bind fun x337 =>
      (rFinal N b x337.B).bind fun r440 =>
      (if (!(r334 == r440)) = true then
        some (Stp.done (Sum.inr false))
      else
        some (Stp.next (iw (i308 + 1))))
    else
      some (Stp.done (Sum.inl ())))
def rEquivalent (N : Nat) (a : ADfa) (b : ADfa) : Option Bool :=
  (rPairs N a b).bind fun r11 =>
  (loopM (rEquivalent_b1 N a b r11) N 0).bind fun ss =>
    match ss with
    | (Sum.inl _) =>
      some true
    | (Sum.inr z456) => some z456
def rCan_b3 (N : Nat) (d : ADfa) (length : Int) (x2665 : (List Bool)) (i3564 : Int) : ((List Bool) × Int) → Option (Stp ((List Bool) × Int) (List Bool))
  | (next3851, k3855) =>
    (((idx x2665 i3564).bind fun x3907 =>
    (if x3907 = true then
      (idx d.Edges i3564).bind fun x3921 =>
      some (decide ((k3855 : Int) < (List.length x3921 : Int)))
    else
      some false) : Option Bool)).bind fun ss =>
      match ss with
      | x3904 =>
        (if x3904 = true then
          (idx d.Edges i3564).bind fun x3941 =>
          (idx x3941 k3855).bind fun x3957 =>
          (idx next3851 x3957.To).bind fun x3971 =>
          (upd1 next3851 x3957.To true).bind fun x3977 =>
          some (Stp.next (x3977, (iw (k3855 + 1))))
        else
          some (Stp.done next3851))
def rCan_b2 (N : Nat) (d : ADfa) (length : Int) (x2665 : (List Bool)) : ((List Bool) × Int) → Option (Stp ((List Bool) × Int) (List Bool))
  | (next3560, i3564) =>
    (if (i3564 : Int) < (List.length x2665 : Int) then
      (loopM (rCan_b3 N d length x2665 i3564) N (next3560, 0)).bind fun ss =>
        match ss with
        | next3860 =>
          some (Stp.next (next3860, (iw (i3564 + 1))))
    else
      some (Stp.done next3560))
def rCan_b1 (N : Nat) (d : ADfa) (length : Int) : (Int × (List Bool)) → Option (Stp (Int × (List Bool)) (List Bool))
  | (length2659, x2665) =>
    (if (length2659 : Int) > 0 then
      (mk1 (α := Bool) 1 false (List.length d.Accept : Int)).bind fun x2692 =>
      (loopM (rCan_b2 N d length x2665) N (x2692, 0)).bind fun ss =>
        match ss with
        | next3568 =>
          some (Stp.next ((iw (length2659 - 1)), next3568))
    else
      some (Stp.done x2665))
def rCan_b4 (N : Nat) (d : ADfa) (length : Int) (x2674 : (List Bool)) : Int → Option (Stp Int (Sum Unit Bool))
  | i4151 =>
    (if (i4151 : Int) < (List.length x2674 : Int) then
      (((idx x2674 i4151).bind fun x4193 =>
      (if x4193 = true then
        (idx d.Accept i4151).bind fun x4206 =>
        some x4206
      else
        some false) : Option Bool)).bind fun ss =>
        match ss with
        | x4190 =>
          (if x4190 = true then
            some (Stp.done (Sum.inr true))
          else
            some (Stp.next (iw (i4151 + 1))))
    else
      some (Stp.done (Sum.inl ())))
def rCan (N : Nat) (d : ADfa) (state : Int) (length : Int) : Option Bool :=
  (mk1 (α := Bool) 1 false (List.length d.Accept : Int)).bind fun x8 =>
  (idx x8 state).bind fun x23 =>
  (upd1 x8 state true).bind fun x29 =>
  (loopM (rCan_b1 N d length) N (length, x29)).bind fun ss =>
    match ss with
    | x2674 =>
      (loopM (rCan_b4 N d length x2674) N 0).bind fun ss =>
        match ss with
        | (Sum.inl _) =>
          some false
        | (Sum.inr z4230) => some z4230
def rFrom_b1 (N : Nat) (d : ADfa) : ((List Int) × Int) → Option (Stp ((List Int) × Int) (List Int))
  | (swap149, i153) =>
    (if (i153 : Int) < (List.length d.Accept : Int) then
      (apnd 8 swap149 [i153]).bind fun x188 =>
      some (Stp.next (x188, (iw (i153 + 1))))
    else
      some (Stp.done swap149))
def rFrom_b3 (N : Nat) (d : ADfa) (x242 : (List Int)) (i2996 : Int) : ((List AEdge) × Int) → Option (Stp ((List AEdge) × Int) (List AEdge))
  | (l3933, k3937) =>
    (idx x242 i2996).bind fun x3968 =>
    (idx d.Edges x3968).bind fun x3981 =>
    (if (k3937 : Int) < (List.length x3981 : Int) then
      (idx x242 i2996).bind fun x4070 =>
      (idx d.Edges x4070).bind fun x4081 =>
      (idx x4081 k3937).bind fun x4097 =>
      (idx x242 x4097.To).bind fun x4206 =>
      (apnd 16 l3933 [(AEdge.mk x4097.Low x4097.High x4206)]).bind fun x4315 =>
      some (Stp.next (x4315, (iw (k3937 + 1))))
    else
      some (Stp.done l3933))
def rFrom_b2 (N : Nat) (d : ADfa) (x242 : (List Int)) : ((List Bool) × (List (List AEdge)) × Int) → Option (Stp ((List Bool) × (List (List AEdge)) × Int) ((List Bool) × (List (List AEdge))))
  | (accept2982, edges2991, i2996) =>
    (if (i2996 : Int) < (List.length d.Edges : Int) then
      (idx x242 i2996).bind fun x3032 =>
      (idx d.Accept x3032).bind fun x3045 =>
      (idx accept2982 i2996).bind fun x3137 =>
      (upd1 accept2982 i2996 x3045).bind fun x3146 =>
      (loopM (rFrom_b3 N d x242 i2996) N (([] : (List AEdge)), 0)).bind fun ss =>
        match ss with
        | l3949 =>
          (apnd 24 edges2991 [l3949]).bind fun x4352 =>
          some (Stp.next (x3146, x4352, (iw (i2996 + 1))))
    else
      some (Stp.done (accept2982, edges2991)))
def rFrom (N : Nat) (d : ADfa) (state : Int) : Option ADfa :=
  (apnd 1 ([] : (List Bool)) d.Accept).bind fun x20 =>
  (loopM (rFrom_b1 N d) N (([] : (List Int)), 0)).bind fun ss =>
    match ss with
    | swap163 =>
      (idx swap163 0).bind fun x213 =>
      (upd1 swap163 0 state).bind fun x221 =>
      (idx x221 state).bind fun x236 =>
      (upd1 x221 state 0).bind fun x242 =>
      (loopM (rFrom_b2 N d x242) N (x20, ([] : (List (List AEdge))), 0)).bind fun ss =>
        match ss with
        | (accept3001, edges3010) =>
          some (ADfa.mk accept3001 edges3010)
def rReached_b1 (N : Nat) (d : ADfa) (state : Int) : Int → Option (Stp Int (Sum Unit Bool))
  | n148 =>
    (if (n148 : Int) < (List.length d.Accept : Int) then
      (mk1 (α := Bool) 1 false (List.length d.Accept : Int)).bind fun x171 =>
      (idx x171 state).bind fun x190 =>
      (upd1 x171 state true).bind fun x196 =>
      (rCan N (ADfa.mk x196 d.Edges) 0 n148).bind fun r212 =>
      (if r212 = true then
        some (Stp.done (Sum.inr true))
      else
        some (Stp.next (iw (n148 + 1))))
    else
      some (Stp.done (Sum.inl ())))
def rReached (N : Nat) (d : ADfa) (state : Int) : Option Bool :=
  (loopM (rReached_b1 N d state) N 0).bind fun ss =>
    match ss with
    | (Sum.inl _) =>
      some false
    | (Sum.inr z231) => some z231
def rAlive_b1 (N : Nat) (d : ADfa) (state : Int) : Int → Option (Stp Int (Sum Unit Bool))
  | n38 =>
    (if (n38 : Int) < (List.length d.Accept : Int) then
      (rCan N d state n38).bind fun r48 =>
      (if r48 = true then
        some (Stp.done (Sum.inr true))
      else
        some (Stp.next (iw (n38 + 1))))
    else
      some (Stp.done (Sum.inl ())))
def rAlive (N : Nat) (d : ADfa) (state : Int) : Option Bool :=
  (loopM (rAlive_b1 N d state) N 0).bind fun ss =>
    match ss with
    | (Sum.inl _) =>
      some false
    | (Sum.inr z63) => some z63
def rLeast_b2 (N : Nat) (d : ADfa) (l742 : (List Int)) (i746 : Int) : (Bool × Int) → Option (Stp (Bool × Int) Bool)
  | (known1140, k1141) =>
    (if (k1141 : Int) < (List.length l742 : Int) then
      (if known1140 = true then
        some (Stp.next (true, (iw (k1141 + 1))))
      else
        (rFrom N d i746).bind fun r1227 =>
        (idx l742 k1141).bind fun x1234 =>
        (rFrom N d x1234).bind fun r1320 =>
        (rEquivalent N r1227 r1320).bind fun r1333 =>
        some (Stp.next (r1333, (iw (k1141 + 1)))))
    else
      some (Stp.done known1140))
def rLeast_b1 (N : Nat) (d : ADfa) : ((List Int) × Int) → Option (Stp ((List Int) × Int) (List Int))
  | (l742, i746) =>
    (if (i746 : Int) < (List.length d.Accept : Int) then
      (((rReached N d i746).bind fun r796 =>
      (if (!r796) = true then
        some true
      else
        (rAlive N d i746).bind fun r805 =>
        some (!r805)) : Option Bool)).bind fun ss =>
        match ss with
        | x793 =>
          (if x793 = true then
            some (Stp.next (l742, (iw (i746 + 1))))
          else
            (loopM (rLeast_b2 N d l742 i746) N (false, 0)).bind fun ss =>
              match ss with
              | known1144 =>
                (if (!known1144) = true then
                  (apnd 8 l742 [i746]).bind fun x1354 =>
                  some (Stp.next (x1354, (iw (i746 + 1))))
                else
                  some (Stp.next (l742, (iw (i746 + 1))))))
    else
      some (Stp.done l742))
def rLeast (N : Nat) (d : ADfa) : Option Int :=
  (loopM (rLeast_b1 N d) N (([] : (List Int)), 0)).bind fun ss =>
    match ss with
    | l752 =>
      some (imax 1 (List.length l752 : Int))
def rFew (N : Nat) (d : ADfa) : Option Bool :=
  (if ((List.length d.Accept : Int) : Int) ≤ 8 then
    (rValid N d).bind fun r8 =>
    some r8
  else
    some false)
end Go.D

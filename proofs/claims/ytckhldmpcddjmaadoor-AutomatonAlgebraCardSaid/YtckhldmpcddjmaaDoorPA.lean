/- Plain counterparts, written by a program of mine (wip/tool). -/
import Derived.Test.YtckhldmpcddjmaaDoorT20
set_option linter.unusedVariables false
set_option linter.unusedSimpArgs false
namespace Go.D
open Go Go.X
/- disjoint/automaton.Valid -/
def aValid_b2 (N : Nat) (d : ADfa) (x363 : (List AEdge)) : (Int × Int) → Option (Stp (Int × Int) (Sum Unit Bool))
  | (before467, x468) =>
    (if (x468 : Int) < (List.length x363 : Int) then
      (idx x363 x468).bind fun x477 =>
      (((if (x477.Low : Int) ≤ before467 then
        some true
      else
        (if (x477.Low : Int) > x477.High then
          some true
        else
          (if (x477.High : Int) > 126 then
            some true
          else
            (if (x477.To : Int) < 0 then
              some true
            else
              some (decide ((x477.To : Int) ≥ (List.length d.Accept : Int))))))) : Option Bool)).bind fun ss =>
        match ss with
        | x505 =>
          (if x505 = true then
            some (Stp.done (Sum.inr false))
          else
            some (Stp.next (x477.High, (iw (x468 + 1)))))
    else
      some (Stp.done (Sum.inl ())))
def aValid_b1 (N : Nat) (d : ADfa) : Int → Option (Stp Int (Sum Unit Bool))
  | x351 =>
    (if (x351 : Int) < (List.length d.Edges : Int) then
      (idx d.Edges x351).bind fun x363 =>
      (loopM (aValid_b2 N d x363) N (31, 0)).bind fun ss =>
        match ss with
        | (Sum.inl _) =>
          some (Stp.next (iw (x351 + 1)))
        | (Sum.inr z522) => some (Stp.done (Sum.inr z522))
    else
      some (Stp.done (Sum.inl ())))
def aValid (N : Nat) (d : ADfa) : Option Bool :=
  (((if ((List.length d.Accept : Int) : Int) < 1 then
    some true
  else
    (if ((List.length d.Accept : Int) : Int) > 4096 then
      some true
    else
      some (decide (((List.length d.Edges : Int) : Int) ≠ (List.length d.Accept : Int))))) : Option Bool)).bind fun ss =>
    match ss with
    | x11 =>
      (if x11 = true then
        some false
      else
        (loopM (aValid_b1 N d) N 0).bind fun ss =>
          match ss with
          | (Sum.inl _) =>
            some true
          | (Sum.inr z526) => some z526)
/- (*disjoint/automaton.DFA).step -/
def aStep_b1 (N : Nat) (c : Int) (x3 : (List AEdge)) : Int → Option (Stp Int (Sum Unit Int))
  | x93 =>
    (if (x93 : Int) < (List.length x3 : Int) then
      (idx x3 x93).bind fun x102 =>
      (((if (x102.Low : Int) ≤ c then
        some (decide ((c : Int) ≤ x102.High))
      else
        some false) : Option Bool)).bind fun ss =>
        match ss with
        | x127 =>
          (if x127 = true then
            some (Stp.done (Sum.inr x102.To))
          else
            some (Stp.next (iw (x93 + 1))))
    else
      some (Stp.done (Sum.inl ())))
def aStep (N : Nat) (d : ADfa) (state : Int) (c : Int) : Option Int :=
  (if (state : Int) = (-1) then
    some (-1)
  else
    (idx d.Edges state).bind fun x3 =>
    (loopM (aStep_b1 N c x3) N 0).bind fun ss =>
      match ss with
      | (Sum.inl _) =>
        some (-1)
      | (Sum.inr z141) => some z141)
/- (*disjoint/automaton.DFA).final -/
def aFinal (N : Nat) (d : ADfa) (state : Int) : Option Bool :=
  (if (state : Int) ≠ (-1) then
    (idx d.Accept state).bind fun x3 =>
    some x3
  else
    some false)
/- disjoint/automaton.Accepts -/
def aAccepts_b1 (N : Nat) (d : ADfa) (s : (List UInt8)) : (Int × Int) → Option (Stp (Int × Int) Int)
  | (state47, x48) =>
    (if (x48 : Int) < (List.length s : Int) then
      (idx s x48).bind fun x59 =>
      (aStep N d state47 (UInt8.toNat x59 : Int)).bind fun r64 =>
      some (Stp.next (r64, (iw (x48 + 1))))
    else
      some (Stp.done state47))
def aAccepts (N : Nat) (d : ADfa) (s : (List UInt8)) : Option Bool :=
  (loopM (aAccepts_b1 N d s) N (0, 0)).bind fun ss =>
    match ss with
    | state50 =>
      (aFinal N d state50).bind fun r76 =>
      some r76
/- disjoint/automaton.completed -/
def aCompleted_b1 (N : Nat) (l : (List AEdge)) (sink : Int) : ((List AEdge) × Int × Int) → Option (Stp ((List AEdge) × Int × Int) ((List AEdge) × Int))
  | (out285, next289, x290) =>
    (if (x290 : Int) < (List.length l : Int) then
      (idx l x290).bind fun x313 =>
      (((if (next289 : Int) < x313.Low then
        (apnd 16 out285 [(AEdge.mk next289 (uw8 (x313.Low - 1)) sink)]).bind fun x384 =>
        some x384
      else
        some out285) : Option (List AEdge))).bind fun ss =>
        match ss with
        | out368 =>
          (apnd 16 out368 [x313]).bind fun x421 =>
          some (Stp.next (x421, (uw8 (x313.High + 1)), (iw (x290 + 1))))
    else
      some (Stp.done (out285, next289)))
def aCompleted (N : Nat) (l : (List AEdge)) (sink : Int) : Option (List AEdge) :=
  (loopM (aCompleted_b1 N l sink) N (([] : (List AEdge)), 32, 0)).bind fun ss =>
    match ss with
    | (out296, next300) =>
      (if (next300 : Int) ≤ 126 then
        (apnd 16 out296 [(AEdge.mk next300 126 sink)]).bind fun x455 =>
        some x455
      else
        some out296)
/- slices.IndexFunc[[]disjoint/automaton.Edge,disjoint/automaton.Edge] -/
def indexEdge_b1 (N : Nat) (f : (AEdge → Option Bool)) (s : (List AEdge)) : Int → Option (Stp Int (Sum Unit Int))
  | x54 =>
    (if (x54 : Int) < (List.length s : Int) then
      (idx s x54).bind fun x63 =>
      (f x63).bind fun r77 =>
      (if r77 = true then
        some (Stp.done (Sum.inr x54))
      else
        some (Stp.next (iw (x54 + 1))))
    else
      some (Stp.done (Sum.inl ())))
def indexEdge (N : Nat) (s : (List AEdge)) (f : (AEdge → Option Bool)) : Option Int :=
  (loopM (indexEdge_b1 N f s) N 0).bind fun ss =>
    match ss with
    | (Sum.inl _) =>
      some (-1)
    | (Sum.inr z88) => some z88
/- slices.ContainsFunc[[]disjoint/automaton.Edge,disjoint/automaton.Edge] -/
def containsEdge (N : Nat) (s : (List AEdge)) (f : (AEdge → Option Bool)) : Option Bool :=
  (indexEdge N s f).bind fun r1 =>
  some (decide ((r1 : Int) ≥ 0))
/- disjoint/automaton.Not$1 -/
def aNot1 (N : Nat) (pa : AEdge) (ca : Int) : Option Bool :=
  some (decide ((pa.To : Int) = ca))
/- disjoint/automaton.Not -/
def aNot_b1 (N : Nat) (d : ADfa) : ((List Bool) × (List (List AEdge)) × Bool × Int) → Option (Stp ((List Bool) × (List (List AEdge)) × Bool × Int) ((List Bool) × (List (List AEdge)) × Bool))
  | (accept687, edges696, partial700, x701) =>
    (if (x701 : Int) < (List.length d.Edges : Int) then
      (idx d.Edges x701).bind fun x745 =>
      (idx d.Accept x701).bind fun x761 =>
      (((apnd 1 accept687 [(!x761)]).bind fun x869 =>
      (apnd 24 edges696 [[]]).bind fun x899 =>
      some (x869, x899, (iw ((List.length x869 : Int) - 1))) : Option ((List Bool) × (List (List AEdge)) × Int))).bind fun ss =>
        match ss with
        | (accept845, edges854, x858) =>
          (aCompleted N x745 (List.length d.Accept : Int)).bind fun r930 =>
          (idx edges854 x701).bind fun x993 =>
          (upd1 edges854 x701 r930).bind fun x1006 =>
          (if partial700 = true then
            some (Stp.next (accept845, x1006, true, (iw (x701 + 1))))
          else
            (idx x1006 x701).bind fun x1025 =>
            (containsEdge N x1025 (fun y1038 => aNot1 N y1038 (List.length d.Accept : Int))).bind fun r1039 =>
            some (Stp.next (accept845, x1006, r1039, (iw (x701 + 1)))))
    else
      some (Stp.done (accept687, edges696, partial700)))
def aNot (N : Nat) (d : ADfa) : Option (ADfa × Int) :=
  (loopM (aNot_b1 N d) N (([] : (List Bool)), ([] : (List (List AEdge))), false, 0)).bind fun ss =>
    match ss with
    | (accept710, edges719, partial723) =>
      (if (!partial723) = true then
        some ((ADfa.mk accept710 edges719), 0)
      else
        (if ((List.length d.Accept : Int) : Int) = 4096 then
          some ((ADfa.mk [] []), 3)
        else
          (((apnd 1 accept710 [true]).bind fun x1171 =>
          (apnd 24 edges719 [[]]).bind fun x1201 =>
          some (x1171, x1201, (iw ((List.length x1171 : Int) - 1))) : Option ((List Bool) × (List (List AEdge)) × Int))).bind fun ss =>
            match ss with
            | (accept1147, edges1156, x1160) =>
              (aCompleted N [] (List.length d.Accept : Int)).bind fun r1232 =>
              (idx edges1156 (List.length d.Accept : Int)).bind fun x1289 =>
              (upd1 edges1156 (List.length d.Accept : Int) r1232).bind fun x1302 =>
              some ((ADfa.mk accept1147 x1302), 0)))
/- disjoint/automaton.AtMost -/
def aAtMost_b1 (N : Nat) (n : Int) : ((List Bool) × (List (List AEdge)) × Int) → Option (Stp ((List Bool) × (List (List AEdge)) × Int) ((List Bool) × (List (List AEdge))))
  | (accept447, edges456, x460) =>
    (if (x460 : Int) < (imin (imax n 0) 4095) then
      (((apnd 1 accept447 [true]).bind fun x594 =>
      (apnd 24 edges456 [[]]).bind fun x624 =>
      some (x594, x624, (iw ((List.length x594 : Int) - 1))) : Option ((List Bool) × (List (List AEdge)) × Int))).bind fun ss =>
        match ss with
        | (accept570, edges579, x583) =>
          (idx edges579 x460).bind fun x663 =>
          (upd1 edges579 x460 [(AEdge.mk 32 126 (iw (x460 + 1)))]).bind fun x677 =>
          some (Stp.next (accept570, x677, (iw (x460 + 1))))
    else
      some (Stp.done (accept447, edges456)))
def aAtMost (N : Nat) (n : Int) : Option ADfa :=
  (loopM (aAtMost_b1 N n) N (([] : (List Bool)), ([] : (List (List AEdge))), 0)).bind fun ss =>
    match ss with
    | (accept468, edges477) =>
      (((apnd 1 accept468 [true]).bind fun x790 =>
      (apnd 24 edges477 [[]]).bind fun x820 =>
      some (x790, x820, (iw ((List.length x790 : Int) - 1))) : Option ((List Bool) × (List (List AEdge)) × Int))).bind fun ss =>
        match ss with
        | (accept766, edges775, x779) =>
          some (ADfa.mk accept766 edges775)
/- disjoint/automaton.Shortest -/
def aShortest_b2 (N : Nat) (x2446 : AItem) (x2482 : (List AEdge)) : ((List Bool) × (List AItem) × Int) → Option (Stp ((List Bool) × (List AItem) × Int) ((List Bool) × (List AItem)))
  | (seen2739, queue2750, x2756) =>
    (if (x2756 : Int) < (List.length x2482 : Int) then
      (idx x2482 x2756).bind fun x2789 =>
      (idx seen2739 x2789.To).bind fun x2812 =>
      (if (!x2812) = true then
        (idx seen2739 x2789.To).bind fun x2824 =>
        (upd1 seen2739 x2789.To true).bind fun x2830 =>
        (chk ((List.length x2446.text : Int) + List.length (bstr [x2789.Low]) ≤ 9223372036854775807)).bind fun _ =>
        (apnd 24 queue2750 [(AItem.mk x2789.To (x2446.text ++ (bstr [x2789.Low])))]).bind fun x2865 =>
        some (Stp.next (x2830, x2865, (iw (x2756 + 1))))
      else
        some (Stp.next (seen2739, queue2750, (iw (x2756 + 1)))))
    else
      some (Stp.done (seen2739, queue2750)))
def aShortest_b1 (N : Nat) (d : ADfa) : ((List Bool) × (List AItem)) → Option (Stp ((List Bool) × (List AItem)) (Sum Unit ((List UInt8) × Bool)))
  | (seen1938, queue1949) =>
    (if ((List.length queue1949 : Int) : Int) > 0 then
      (((idx queue1949 0).bind fun x2446 =>
      (idx d.Accept x2446.state).bind fun x2467 =>
      (if x2467 = true then
        some (Sum.inr (x2446.text, true))
      else
        (idx d.Edges x2446.state).bind fun x2482 =>
        (loopM (aShortest_b2 N x2446 x2482) N (seen1938, queue1949, 0)).bind fun ss =>
          match ss with
          | (seen2760, queue2771) =>
            some (Sum.inl (seen2760, queue2771))) : Option (Sum ((List Bool) × (List AItem)) ((List UInt8) × Bool)))).bind fun ss =>
        match ss with
        | (Sum.inl (seen2428, queue2439)) =>
          (drp queue2439 1).bind fun x2907 =>
          some (Stp.next (seen2428, x2907))
        | (Sum.inr z2922) => some (Stp.done (Sum.inr z2922))
    else
      some (Stp.done (Sum.inl ())))
def aShortest (N : Nat) (d : ADfa) : Option ((List UInt8) × Bool) :=
  (mk1 (α := Bool) 1 false (List.length d.Accept : Int)).bind fun x8 =>
  (idx x8 0).bind fun x23 =>
  (upd1 x8 0 true).bind fun x29 =>
  (loopM (aShortest_b1 N d) N (x29, [(AItem.mk 0 [])])).bind fun ss =>
    match ss with
    | (Sum.inl _) =>
      some (([] : List UInt8), false)
    | (Sum.inr z2929) => some z2929
/- slices.Clone[[]bool,bool] -/
def cloneBool (N : Nat) (s : (List Bool)) : Option (List Bool) :=
  (apnd 1 ([] : (List Bool)) s).bind fun x16 =>
  some x16
/- (*disjoint/automaton.DFA).useful$1 -/
def aUseful1 (N : Nat) (pa : AEdge) (ca : (List Bool)) : Option Bool :=
  (idx ca pa.To).bind fun x7 =>
  some x7
/- (*disjoint/automaton.DFA).useful -/
def aUseful_b2 (N : Nat) (x2478 : (List AEdge)) : ((List Bool) × (List Int) × Int) → Option (Stp ((List Bool) × (List Int) × Int) ((List Bool) × (List Int)))
  | (reached2784, queue2795, x2800) =>
    (if (x2800 : Int) < (List.length x2478 : Int) then
      (idx x2478 x2800).bind fun x2829 =>
      (idx reached2784 x2829.To).bind fun x2852 =>
      (if (!x2852) = true then
        (idx reached2784 x2829.To).bind fun x2864 =>
        (upd1 reached2784 x2829.To true).bind fun x2870 =>
        (apnd 8 queue2795 [x2829.To]).bind fun x2893 =>
        some (Stp.next (x2870, x2893, (iw (x2800 + 1))))
      else
        some (Stp.next (reached2784, queue2795, (iw (x2800 + 1)))))
    else
      some (Stp.done (reached2784, queue2795)))
def aUseful_b1 (N : Nat) (d : ADfa) : ((List Bool) × (List Int)) → Option (Stp ((List Bool) × (List Int)) (List Bool))
  | (reached1946, queue1957) =>
    (if ((List.length queue1957 : Int) : Int) > 0 then
      (((idx queue1957 0).bind fun x2466 =>
      (idx d.Edges x2466).bind fun x2478 =>
      (loopM (aUseful_b2 N x2478) N (reached1946, queue1957, 0)).bind fun ss =>
        match ss with
        | (reached2803, queue2814) =>
          some (reached2803, queue2814) : Option ((List Bool) × (List Int)))).bind fun ss =>
        match ss with
        | (reached2446, queue2457) =>
          (drp queue2457 1).bind fun x2930 =>
          some (Stp.next (reached2446, x2930))
    else
      some (Stp.done reached1946))
def aUseful_b4 (N : Nat) (d : ADfa) : ((List Bool) × Bool × Int) → Option (Stp ((List Bool) × Bool × Int) ((List Bool) × Bool))
  | (live4077, changed4081, x4082) =>
    (if (x4082 : Int) < (List.length d.Accept : Int) then
      (((idx live4077 x4082).bind fun x4146 =>
      (if (!x4146) = true then
        (idx d.Edges x4082).bind fun x4161 =>
        (containsEdge N x4161 (fun y4177 => aUseful1 N y4177 live4077)).bind fun r4178 =>
        some r4178
      else
        some false) : Option Bool)).bind fun ss =>
        match ss with
        | x4143 =>
          (if x4143 = true then
            (idx live4077 x4082).bind fun x4190 =>
            (upd1 live4077 x4082 true).bind fun x4199 =>
            some (Stp.next (x4199, true, (iw (x4082 + 1))))
          else
            some (Stp.next (live4077, changed4081, (iw (x4082 + 1)))))
    else
      some (Stp.done (live4077, changed4081)))
def aUseful_b3 (N : Nat) (d : ADfa) : ((List Bool) × Bool) → Option (Stp ((List Bool) × Bool) (List Bool))
  | (live3797, changed3801) =>
    (if changed3801 = true then
      (loopM (aUseful_b4 N d) N (live3797, false, 0)).bind fun ss =>
        match ss with
        | (live4087, changed4091) =>
          some (Stp.next (live4087, changed4091))
    else
      some (Stp.done live3797))
def aUseful_b5 (N : Nat) (d : ADfa) (live3806 : (List Bool)) : ((List Bool) × Int) → Option (Stp ((List Bool) × Int) (List Bool))
  | (reached4377, x4383) =>
    (if (x4383 : Int) < (List.length d.Accept : Int) then
      (idx reached4377 x4383).bind fun x4399 =>
      (if x4399 = true then
        (idx live3806 x4383).bind fun x4410 =>
        (idx reached4377 x4383).bind fun x4423 =>
        (upd1 reached4377 x4383 x4410).bind fun x4429 =>
        some (Stp.next (x4429, (iw (x4383 + 1))))
      else
        (idx reached4377 x4383).bind fun x4445 =>
        (upd1 reached4377 x4383 false).bind fun x4451 =>
        some (Stp.next (x4451, (iw (x4383 + 1)))))
    else
      some (Stp.done reached4377))
def aUseful (N : Nat) (d : ADfa) : Option (List Bool) :=
  (mk1 (α := Bool) 1 false (List.length d.Accept : Int)).bind fun x3 =>
  (idx x3 0).bind fun x18 =>
  (upd1 x3 0 true).bind fun x24 =>
  (loopM (aUseful_b1 N d) N (x24, [0])).bind fun ss =>
    match ss with
    | reached1964 =>
      (cloneBool N d.Accept).bind fun r2954 =>
      (loopM (aUseful_b3 N d) N (r2954, true)).bind fun ss =>
        match ss with
        | live3806 =>
          (loopM (aUseful_b5 N d live3806) N (reached1964, 0)).bind fun ss =>
            match ss with
            | reached4386 =>
              some reached4386
/- disjoint/automaton.class -/
def aClass (N : Nat) (classes : (List Int)) (state : Int) : Option Int :=
  (if (state : Int) = (-1) then
    some (-1)
  else
    (idx classes state).bind fun x2 =>
    some x2)
/- disjoint/automaton.Minimize -/
def aMinimize (N : Nat) (d : ADfa) : Option (ADfa × Int) :=
  (aUseful N d).bind fun r11 =>
  (idx r11 0).bind fun x28 =>
  (if (!x28) = true then
    some ((ADfa.mk [false] [[]]), 0)
  else
    none)
/- disjoint/automaton.And -/
def aAnd_b3 (N : Nat) (edges7822 : (List (List AEdge))) (i7826 : Int) (x10699 : AEdge) (x10722 : (List AEdge)) : ((List APair) × (List (APair × Int)) × (List AEdge) × Int) → Option (Stp ((List APair) × (List (APair × Int)) × (List AEdge) × Int) (Sum ((List APair) × (List (APair × Int)) × (List AEdge)) (ADfa × Int)))
  | (pairs11324, number11329, edgesL11339, x11345) =>
    (if (x11345 : Int) < (List.length x10722 : Int) then
      (idx x10722 x11345).bind fun x11387 =>
      (if ((imax x10699.Low x11387.Low) : Int) > (imin x10699.High x11387.High) then
        some (Stp.next (pairs11324, number11329, edgesL11339, (iw (x11345 + 1))))
      else
        (((if (!(mget number11329 (APair.mk x10699.To x11387.To) 0).2) = true then
          (if ((List.length pairs11324 : Int) : Int) = 4096 then
            some (Sum.inr ((ADfa.mk [] []), 3))
          else
            (apnd 16 pairs11324 [(APair.mk x10699.To x11387.To)]).bind fun x11583 =>
            some (Sum.inl (x11583, (mput number11329 (APair.mk x10699.To x11387.To) (List.length pairs11324 : Int)), (List.length pairs11324 : Int))))
        else
          some (Sum.inl (pairs11324, number11329, (mget number11329 (APair.mk x10699.To x11387.To) 0).1))) : Option (Sum ((List APair) × (List (APair × Int)) × Int) (ADfa × Int)))).bind fun ss =>
          match ss with
          | (Sum.inl (pairs11548, number11553, n11561)) =>
            (chk (i7826 = (List.length edges7822 : Int))).bind fun _ =>
            (chk (i7826 = (List.length edges7822 : Int))).bind fun _ =>
            (apnd 16 edgesL11339 [(AEdge.mk (imax x10699.Low x11387.Low) (imin x10699.High x11387.High) n11561)]).bind fun x11632 =>
            some (Stp.next (pairs11548, number11553, x11632, (iw (x11345 + 1))))
          | (Sum.inr z11660) => some (Stp.done (Sum.inr z11660)))
    else
      some (Stp.done (Sum.inl (pairs11324, number11329, edgesL11339))))
def aAnd_b2 (N : Nat) (b : ADfa) (edges7822 : (List (List AEdge))) (i7826 : Int) (x7869 : APair) (x8628 : (List AEdge)) : ((List APair) × (List (APair × Int)) × (List AEdge) × Int) → Option (Stp ((List APair) × (List (APair × Int)) × (List AEdge) × Int) (Sum ((List APair) × (List (APair × Int)) × (List AEdge)) (ADfa × Int)))
  | (pairs10642, number10647, edgesL10657, x10662) =>
    (if (x10662 : Int) < (List.length x8628 : Int) then
      (idx x8628 x10662).bind fun x10699 =>
      (idx b.Edges x7869.b).bind fun x10722 =>
      (loopM (aAnd_b3 N edges7822 i7826 x10699 x10722) N (pairs10642, number10647, edgesL10657, 0)).bind fun ss =>
        match ss with
        | (Sum.inl (pairs11354, number11359, edgesL11369)) =>
          some (Stp.next (pairs11354, number11359, edgesL11369, (iw (x10662 + 1))))
        | (Sum.inr z11669) => some (Stp.done (Sum.inr z11669))
    else
      some (Stp.done (Sum.inl (pairs10642, number10647, edgesL10657))))
def aAnd_b1 (N : Nat) (a : ADfa) (b : ADfa) : ((List APair) × (List (APair × Int)) × (List Bool) × (List (List AEdge)) × Int) → Option (Stp ((List APair) × (List (APair × Int)) × (List Bool) × (List (List AEdge)) × Int) (Sum ((List Bool) × (List (List AEdge))) (ADfa × Int)))
  | (pairs7801, number7806, accept7813, edges7822, i7826) =>
    (if (i7826 : Int) < (List.length pairs7801 : Int) then
      (idx pairs7801 i7826).bind fun x7869 =>
      (((idx a.Accept x7869.a).bind fun x8272 =>
      (if x8272 = true then
        (idx b.Accept x7869.b).bind fun x8287 =>
        (((apnd 1 accept7813 [x8287]).bind fun x8401 =>
        (chk ((List.length edges7822 + 1) * 24 ≤ 140737488355328 ∧ List.length edges7822 + 1 ≤ 9223372036854775807)).bind fun _ =>
        some (x8401, ([] : (List AEdge)), (iw ((List.length x8401 : Int) - 1))) : Option ((List Bool) × (List AEdge) × Int))).bind fun ss =>
          match ss with
          | (accept8374, edgesL8385, x8390) =>
            some (accept8374, edgesL8385)
      else
        (((apnd 1 accept7813 [false]).bind fun x8563 =>
        (chk ((List.length edges7822 + 1) * 24 ≤ 140737488355328 ∧ List.length edges7822 + 1 ≤ 9223372036854775807)).bind fun _ =>
        some (x8563, ([] : (List AEdge)), (iw ((List.length x8563 : Int) - 1))) : Option ((List Bool) × (List AEdge) × Int))).bind fun ss =>
          match ss with
          | (accept8536, edgesL8547, x8552) =>
            some (accept8536, edgesL8547)) : Option ((List Bool) × (List AEdge)))).bind fun ss =>
        match ss with
        | (accept8254, edgesL8265) =>
          (idx a.Edges x7869.a).bind fun x8628 =>
          (loopM (aAnd_b2 N b edges7822 i7826 x7869 x8628) N (pairs7801, number7806, edgesL8265, 0)).bind fun ss =>
            match ss with
            | (Sum.inl (pairs10671, number10676, edgesL10686)) =>
              some (Stp.next (pairs10671, number10676, accept8254, (edges7822 ++ [edgesL10686]), (iw (i7826 + 1))))
            | (Sum.inr z11688) => some (Stp.done (Sum.inr z11688))
    else
      some (Stp.done (Sum.inl (accept7813, edges7822))))
def aAnd (N : Nat) (a : ADfa) (b : ADfa) : Option (ADfa × Int) :=
  (loopM (aAnd_b1 N a b) N ([(APair.mk 0 0)], (mput ([] : (List (APair × Int))) (APair.mk 0 0) 0), ([] : (List Bool)), ([] : (List (List AEdge))), 0)).bind fun ss =>
    match ss with
    | (Sum.inl (accept7834, edges7843)) =>
      some ((ADfa.mk accept7834 edges7843), 0)
    | (Sum.inr z11712) => some z11712
/- disjoint/automaton.Equivalent -/
def aEquivalent_b2 (N : Nat) (a : ADfa) (b : ADfa) (x3122 : APair) : ((List (APair × Bool)) × (List APair) × Int) → Option (Stp ((List (APair × Bool)) × (List APair) × Int) ((List (APair × Bool)) × (List APair)))
  | (seen3525, queue3533, c3539) =>
    (if (c3539 : Int) ≤ 126 then
      (aStep N a x3122.a (uw8 c3539)).bind fun r3568 =>
      (aStep N b x3122.b (uw8 c3539)).bind fun r3571 =>
      (if (!(mget seen3525 (APair.mk r3568 r3571) false).1) = true then
        (apnd 16 queue3533 [(APair.mk r3568 r3571)]).bind fun x3687 =>
        some (Stp.next ((mput seen3525 (APair.mk r3568 r3571) true), x3687, (iw (c3539 + 1))))
      else
        some (Stp.next (seen3525, queue3533, (iw (c3539 + 1)))))
    else
      some (Stp.done (seen3525, queue3533)))
def aEquivalent_b1 (N : Nat) (a : ADfa) (b : ADfa) : ((List (APair × Bool)) × (List APair)) → Option (Stp ((List (APair × Bool)) × (List APair)) (Sum Unit Bool))
  | (seen2478, queue2486) =>
    (if ((List.length queue2486 : Int) : Int) > 0 then
      (((idx queue2486 0).bind fun x3122 =>
      (aFinal N a x3122.a).bind fun r3143 =>
      (aFinal N b x3122.b).bind fun r3190 =>
      (if (!(r3143 == r3190)) = true then
        some (Sum.inr false)
      else
        (loopM (aEquivalent_b2 N a b x3122) N (seen2478, queue2486, 32)).bind fun ss =>
          match ss with
          | (seen3543, queue3551) =>
            some (Sum.inl (seen3543, queue3551))) : Option (Sum ((List (APair × Bool)) × (List APair)) Bool))).bind fun ss =>
        match ss with
        | (Sum.inl (seen3107, queue3115)) =>
          (drp queue3115 1).bind fun x3726 =>
          some (Stp.next (seen3107, x3726))
        | (Sum.inr z3741) => some (Stp.done (Sum.inr z3741))
    else
      some (Stp.done (Sum.inl ())))
def aEquivalent (N : Nat) (a : ADfa) (b : ADfa) : Option Bool :=
  (loopM (aEquivalent_b1 N a b) N ((mput ([] : (List (APair × Bool))) (APair.mk 0 0) true), [(APair.mk 0 0)])).bind fun ss =>
    match ss with
    | (Sum.inl _) =>
      some true
    | (Sum.inr z3748) => some z3748
/- (*disjoint/automaton.finder).find -/
def aFind_b2 (N : Nat) (self : AFinder → Int → (List Int) → Int → Option (List (List UInt8))) (f : AFinder) (left : Int) (text : (List Int)) (x1634 : AEdge) : ((List (List UInt8)) × Int) → Option (Stp ((List (List UInt8)) × Int) (List (List UInt8)))
  | (words1924, c1934) =>
    (if (c1934 : Int) ≤ (iw x1634.High) then
      (apnd 1 text [(uw8 c1934)]).bind fun x1983 =>
      (self (AFinder.mk (ADfa.mk f.d.Accept f.d.Edges) f.can f.most words1924) x1634.To x1983 (iw (left - 1))).bind fun r2049 =>
      some (Stp.next (r2049, (iw (c1934 + 1))))
    else
      some (Stp.done words1924))
def aFind_b1 (N : Nat) (self : AFinder → Int → (List Int) → Int → Option (List (List UInt8))) (f : AFinder) (left : Int) (text : (List Int)) (x635 : (List AEdge)) : ((List (List UInt8)) × Int) → Option (Stp ((List (List UInt8)) × Int) (List (List UInt8)))
  | (words1600, x1609) =>
    (if (x1609 : Int) < (List.length x635 : Int) then
      (idx x635 x1609).bind fun x1634 =>
      (loopM (aFind_b2 N self f left text x1634) N (words1600, (iw x1634.Low))).bind fun ss =>
        match ss with
        | words1941 =>
          some (Stp.next (words1941, (iw (x1609 + 1))))
    else
      some (Stp.done words1600))
def aFind_step (N : Nat) (self : AFinder → Int → (List Int) → Int → Option (List (List UInt8))) (f : AFinder) (state : Int) (text : (List Int)) (left : Int) : Option (List (List UInt8)) :=
  (((if ((List.length f.words : Int) : Int) ≥ f.most then
    some true
  else
    (idx f.can left).bind fun x424 =>
    (idx x424 state).bind fun x565 =>
    some (!x565)) : Option Bool)).bind fun ss =>
    match ss with
    | x293 =>
      (if x293 = true then
        some f.words
      else
        (if (left : Int) = 0 then
          (apnd 16 f.words [(bstr text)]).bind fun x607 =>
          some x607
        else
          (idx f.d.Edges state).bind fun x635 =>
          (loopM (aFind_b1 N self f left text x635) N (f.words, 0)).bind fun ss =>
            match ss with
            | words1616 =>
              some words1616))
def aFind : Nat → AFinder → Int → (List Int) → Int → Option (List (List UInt8))
  | 0 => fun _ _ _ _ => none
  | N + 1 => aFind_step N (aFind N)
/- disjoint/automaton.Words$1 -/
def aWords1 (N : Nat) (pa : AEdge) (ca : AFinder) (cb : Int) : Option Bool :=
  (idx ca.can cb).bind fun x8 =>
  (idx x8 pa.To).bind fun x90 =>
  some x90
/- disjoint/automaton.Words -/
def aWords_b2 (N : Nat) (d : ADfa) (length : Int) (most : Int) (can663 : (List (List Bool))) (x667 : Int) (x702 : (List Bool)) : ((List Bool) × Int) → Option (Stp ((List Bool) × Int) (List Bool))
  | (l849, x853) =>
    (if (x853 : Int) < (List.length x702 : Int) then
      (idx d.Edges x853).bind fun x876 =>
      (containsEdge N x876 (fun y892 => aWords1 N y892 (AFinder.mk d can663 most []) x667)).bind fun r893 =>
      (idx l849 x853).bind fun x903 =>
      (upd1 l849 x853 r893).bind fun x909 =>
      some (Stp.next (x909, (iw (x853 + 1))))
    else
      some (Stp.done l849))
def aWords_b1 (N : Nat) (d : ADfa) (length : Int) (most : Int) : ((List (List Bool)) × Int) → Option (Stp ((List (List Bool)) × Int) (List (List Bool)))
  | (can663, x667) =>
    (if (x667 : Int) < length then
      (mk1 (α := Bool) 1 false (List.length d.Accept : Int)).bind fun x702 =>
      (loopM (aWords_b2 N d length most can663 x667 x702) N (x702, 0)).bind fun ss =>
        match ss with
        | l860 =>
          (apnd 24 can663 [l860]).bind fun x962 =>
          some (Stp.next (x962, (iw (x667 + 1))))
    else
      some (Stp.done can663))
def aWords (N : Nat) (d : ADfa) (length : Int) (most : Int) : Option (List (List UInt8)) :=
  (((if (length : Int) < 0 then
    some true
  else
    some (decide ((most : Int) < 0))) : Option Bool)).bind fun ss =>
    match ss with
    | x8 =>
      (if x8 = true then
        some ([] : (List (List UInt8)))
      else
        (loopM (aWords_b1 N d length most) N ([d.Accept], 0)).bind fun ss =>
          match ss with
          | can675 =>
            (aFind N (AFinder.mk (ADfa.mk d.Accept d.Edges) can675 most ([] : (List (List UInt8)))) 0 ([] : (List Int)) length).bind fun r1010 =>
            some r1010)
end Go.D

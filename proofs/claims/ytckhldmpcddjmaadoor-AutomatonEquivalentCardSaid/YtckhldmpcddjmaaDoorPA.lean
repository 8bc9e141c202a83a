/- Plain counterparts, written by a program of mine (wip/tool). -/
import Derived.Test.YtckhldmpcddjmaaDoorT20
import Derived.Test.YtckhldmpcddjmaaDoorFD20
set_option linter.unusedVariables false
set_option linter.unusedSimpArgs false
namespace Go.D
open Go Go.X
def aStep_b1 (N : Nat) (c : Int) (x3 : (List AEdge)) : Int → Option (Stp Int (Sum Unit Int))
  | x93 =>
    (if (x93 : Int) < (List.length x3 : Int) then
      (idx x3 x93).bind fun x102 =>
      (((if (x102.Low : Int) ≤ c then
        some (decide ((c : Int) ≤ x102.High))
      else
        some false) : Option Bool)).bind fun ss =>
        match ss with
        | x127 =>
          (if x127 = true then
            some (Stp.done (Sum.inr x102.To))
          else
            some (Stp.next (iw (x93 + 1))))
    else
      some (Stp.done (Sum.inl ())))
def aStep (N : Nat) (d : ADfa) (state : Int) (c : Int) : Option Int :=
  (if (state : Int) = (-1) then
    some (-1)
  else
    (idx d.Edges state).bind fun x3 =>
    (loopM (aStep_b1 N c x3) N 0).bind fun ss =>
      match ss with
      | (Sum.inl _) =>
        some (-1)
      | (Sum.inr z141) => some z141)
def aFinal (N : Nat) (d : ADfa) (state : Int) : Option Bool :=
  (if (state : Int) ≠ (-1) then
    (idx d.Accept state).bind fun x3 =>
    some x3
  else
    some false)
def aAccepts_b1 (N : Nat) (d : ADfa) (s : (List UInt8)) : (Int × Int) → Option (Stp (Int × Int) Int)
  | (state47, x48) =>
    (if (x48 : Int) < (List.length s : Int) then
      (idx s x48).bind fun x59 =>
      (aStep N d state47 (UInt8.toNat x59 : Int)).bind fun r64 =>
      some (Stp.next (r64, (iw (x48 + 1))))
    else
      some (Stp.done state47))
def aAccepts (N : Nat) (d : ADfa) (s : (List UInt8)) : Option Bool :=
  (loopM (aAccepts_b1 N d s) N (0, 0)).bind fun ss =>
    match ss with
    | state50 =>
      (aFinal N d state50).bind fun r76 =>
      some r76
def indexEdge_b1 (N : Nat) (f : (AEdge → Option Bool)) (s : (List AEdge)) : Int → Option (Stp Int (Sum Unit Int))
  | x54 =>
    (if (x54 : Int) < (List.length s : Int) then
      (idx s x54).bind fun x63 =>
      (f x63).bind fun r77 =>
      (if r77 = true then
        some (Stp.done (Sum.inr x54))
      else
        some (Stp.next (iw (x54 + 1))))
    else
      some (Stp.done (Sum.inl ())))
def indexEdge (N : Nat) (s : (List AEdge)) (f : (AEdge → Option Bool)) : Option Int :=
  (loopM (indexEdge_b1 N f s) N 0).bind fun ss =>
    match ss with
    | (Sum.inl _) =>
      some (-1)
    | (Sum.inr z88) => some z88
def containsEdge (N : Nat) (s : (List AEdge)) (f : (AEdge → Option Bool)) : Option Bool :=
  (indexEdge N s f).bind fun r1 =>
  some (decide ((r1 : Int) ≥ 0))
def aShortest_b2 (N : Nat) (x2446 : AItem) (x2482 : (List AEdge)) : ((List Bool) × (List AItem) × Int) → Option (Stp ((List Bool) × (List AItem) × Int) ((List Bool) × (List AItem)))
  | (seen2739, queue2750, x2756) =>
    (if (x2756 : Int) < (List.length x2482 : Int) then
      (idx x2482 x2756).bind fun x2789 =>
      (idx seen2739 x2789.To).bind fun x2812 =>
      (if (!x2812) = true then
        (idx seen2739 x2789.To).bind fun x2824 =>
        (upd1 seen2739 x2789.To true).bind fun x2830 =>
        (chk ((List.length x2446.text : Int) + List.length (bstr [x2789.Low]) ≤ 9223372036854775807)).bind fun _ =>
        (apnd 24 queue2750 [(AItem.mk x2789.To (x2446.text ++ (bstr [x2789.Low])))]).bind fun x2865 =>
        some (Stp.next (x2830, x2865, (iw (x2756 + 1))))
      else
        some (Stp.next (seen2739, queue2750, (iw (x2756 + 1)))))
    else
      some (Stp.done (seen2739, queue2750)))
def aShortest_b1 (N : Nat) (d : ADfa) : ((List Bool) × (List AItem)) → Option (Stp ((List Bool) × (List AItem)) (Sum Unit ((List UInt8) × Bool)))
  | (seen1938, queue1949) =>
    (if ((List.length queue1949 : Int) : Int) > 0 then
      (((idx queue1949 0).bind fun x2446 =>
      (idx d.Accept x2446.state).bind fun x2467 =>
      (if x2467 = true then
        some (Sum.inr (x2446.text, true))
      else
        (idx d.Edges x2446.state).bind fun x2482 =>
        (loopM (aShortest_b2 N x2446 x2482) N (seen1938, queue1949, 0)).bind fun ss =>
          match ss with
          | (seen2760, queue2771) =>
            some (Sum.inl (seen2760, queue2771))) : Option (Sum ((List Bool) × (List AItem)) ((List UInt8) × Bool)))).bind fun ss =>
        match ss with
        | (Sum.inl (seen2428, queue2439)) =>
          (drp queue2439 1).bind fun x2907 =>
          some (Stp.next (seen2428, x2907))
        | (Sum.inr z2922) => some (Stp.done (Sum.inr z2922))
    else
      some (Stp.done (Sum.inl ())))
def aShortest (N : Nat) (d : ADfa) : Option ((List UInt8) × Bool) :=
  (mk1 (α := Bool) 1 false (List.length d.Accept : Int)).bind fun x8 =>
  (idx x8 0).bind fun x23 =>
  (upd1 x8 0 true).bind fun x29 =>
  (loopM (aShortest_b1 N d) N (x29, [(AItem.mk 0 [])])).bind fun ss =>
    match ss with
    | (Sum.inl _) =>
      some (([] : List UInt8), false)
    | (Sum.inr z2929) => some z2929
def cloneBool (N : Nat) (s : (List Bool)) : Option (List Bool) :=
  (apnd 1 ([] : (List Bool)) s).bind fun x16 =>
  some x16
def aUseful1 (N : Nat) (pa : AEdge) (ca : (List Bool)) : Option Bool :=
  (idx ca pa.To).bind fun x7 =>
  some x7
def aUseful_b2 (N : Nat) (x2478 : (List AEdge)) : ((List Bool) × (List Int) × Int) → Option (Stp ((List Bool) × (List Int) × Int) ((List Bool) × (List Int)))
  | (reached2784, queue2795, x2800) =>
    (if (x2800 : Int) < (List.length x2478 : Int) then
      (idx x2478 x2800).bind fun x2829 =>
      (idx reached2784 x2829.To).bind fun x2852 =>
      (if (!x2852) = true then
        (idx reached2784 x2829.To).bind fun x2864 =>
        (upd1 reached2784 x2829.To true).bind fun x2870 =>
        (apnd 8 queue2795 [x2829.To]).bind fun x2893 =>
        some (Stp.next (x2870, x2893, (iw (x2800 + 1))))
      else
        some (Stp.next (reached2784, queue2795, (iw (x2800 + 1)))))
    else
      some (Stp.done (reached2784, queue2795)))
def aUseful_b1 (N : Nat) (d : ADfa) : ((List Bool) × (List Int)) → Option (Stp ((List Bool) × (List Int)) (List Bool))
  | (reached1946, queue1957) =>
    (if ((List.length queue1957 : Int) : Int) > 0 then
      (((idx queue1957 0).bind fun x2466 =>
      (idx d.Edges x2466).bind fun x2478 =>
      (loopM (aUseful_b2 N x2478) N (reached1946, queue1957, 0)).bind fun ss =>
        match ss with
        | (reached2803, queue2814) =>
          some (reached2803, queue2814) : Option ((List Bool) × (List Int)))).bind fun ss =>
        match ss with
        | (reached2446, queue2457) =>
          (drp queue2457 1).bind fun x2930 =>
          some (Stp.next (reached2446, x2930))
    else
      some (Stp.done reached1946))
def aUseful_b4 (N : Nat) (d : ADfa) : ((List Bool) × Bool × Int) → Option (Stp ((List Bool) × Bool × Int) ((List Bool) × Bool))
  | (live4077, changed4081, x4082) =>
    (if (x4082 : Int) < (List.length d.Accept : Int) then
      (((idx live4077 x4082).bind fun x4146 =>
      (if (!x4146) = true then
        (idx d.Edges x4082).bind fun x4161 =>
        (containsEdge N x4161 (fun y4177 => aUseful1 N y4177 live4077)).bind fun r4178 =>
        some r4178
      else
        some false) : Option Bool)).bind fun ss =>
        match ss with
        | x4143 =>
          (if x4143 = true then
            (idx live4077 x4082).bind fun x4190 =>
            (upd1 live4077 x4082 true).bind fun x4199 =>
            some (Stp.next (x4199, true, (iw (x4082 + 1))))
          else
            some (Stp.next (live4077, changed4081, (iw (x4082 + 1)))))
    else
      some (Stp.done (live4077, changed4081)))
def aUseful_b3 (N : Nat) (d : ADfa) : ((List Bool) × Bool) → Option (Stp ((List Bool) × Bool) (List Bool))
  | (live3797, changed3801) =>
    (if changed3801 = true then
      (loopM (aUseful_b4 N d) N (live3797, false, 0)).bind fun ss =>
        match ss with
        | (live4087, changed4091) =>
          some (Stp.next (live4087, changed4091))
    else
      some (Stp.done live3797))
def aUseful_b5 (N : Nat) (d : ADfa) (live3806 : (List Bool)) : ((List Bool) × Int) → Option (Stp ((List Bool) × Int) (List Bool))
  | (reached4377, x4383) =>
    (if (x4383 : Int) < (List.length d.Accept : Int) then
      (idx reached4377 x4383).bind fun x4399 =>
      (if x4399 = true then
        (idx live3806 x4383).bind fun x4410 =>
        (idx reached4377 x4383).bind fun x4423 =>
        (upd1 reached4377 x4383 x4410).bind fun x4429 =>
        some (Stp.next (x4429, (iw (x4383 + 1))))
      else
        (idx reached4377 x4383).bind fun x4445 =>
        (upd1 reached4377 x4383 false).bind fun x4451 =>
        some (Stp.next (x4451, (iw (x4383 + 1)))))
    else
      some (Stp.done reached4377))
def aUseful (N : Nat) (d : ADfa) : Option (List Bool) :=
  (mk1 (α := Bool) 1 false (List.length d.Accept : Int)).bind fun x3 =>
  (idx x3 0).bind fun x18 =>
  (upd1 x3 0 true).bind fun x24 =>
  (loopM (aUseful_b1 N d) N (x24, [0])).bind fun ss =>
    match ss with
    | reached1964 =>
      (cloneBool N d.Accept).bind fun r2954 =>
      (loopM (aUseful_b3 N d) N (r2954, true)).bind fun ss =>
        match ss with
        | live3806 =>
          (loopM (aUseful_b5 N d live3806) N (reached1964, 0)).bind fun ss =>
            match ss with
            | reached4386 =>
              some reached4386
def aClass (N : Nat) (classes : (List Int)) (state : Int) : Option Int :=
  (if (state : Int) = (-1) then
    some (-1)
  else
    (idx classes state).bind fun x2 =>
    some x2)
def aRefined_b2 (N : Nat) (classes : (List Int)) (d : ADfa) (x471 : Int) : ((List UInt8) × Int) → Option (Stp ((List UInt8) × Int) (List UInt8))
  | (key614, x615) =>
    (if (x615 : Int) ≤ 126 then
      (aStep N d x471 (uw8 x615)).bind fun r627 =>
      (aClass N classes r627).bind fun r637 =>
      (fmtI N r637).bind fun r645 =>
      (chk ((List.length ([32] : List UInt8) : Int) + List.length r645 ≤ 9223372036854775807)).bind fun _ =>
      (chk ((List.length key614 : Int) + List.length (([32] : List UInt8) ++ r645) ≤ 9223372036854775807)).bind fun _ =>
      some (Stp.next ((key614 ++ (([32] : List UInt8) ++ r645)), (iw (x615 + 1))))
    else
      some (Stp.done key614))
def aRefined_b1 (N : Nat) (classes : (List Int)) (d : ADfa) : ((List ((List UInt8) × Int)) × (List Int) × Int) → Option (Stp ((List ((List UInt8) × Int)) × (List Int) × Int) ((List ((List UInt8) × Int)) × (List Int)))
  | (number464, out467, x471) =>
    (if (x471 : Int) < (List.length classes : Int) then
      (idx classes x471).bind fun x492 =>
      (if (x492 : Int) = (-1) then
        (idx out467 x471).bind fun x507 =>
        (upd1 out467 x471 (-1)).bind fun x513 =>
        some (Stp.next (number464, x513, (iw (x471 + 1))))
      else
        (fmtI N x492).bind fun r529 =>
        (loopM (aRefined_b2 N classes d x471) N (r529, 32)).bind fun ss =>
          match ss with
          | key618 =>
            (((if (!(mget number464 key618 0).2) = true then
              some ((mput number464 key618 (List.length number464 : Int)), (List.length number464 : Int))
            else
              some (number464, (mget number464 key618 0).1)) : Option ((List ((List UInt8) × Int)) × Int))).bind fun ss =>
              match ss with
              | (number667, n669) =>
                (idx out467 x471).bind fun x680 =>
                (upd1 out467 x471 n669).bind fun x686 =>
                some (Stp.next (number667, x686, (iw (x471 + 1)))))
    else
      some (Stp.done (number464, out467)))
def aRefined (N : Nat) (d : ADfa) (classes : (List Int)) : Option ((List Int) × Int) :=
  (mk1 (α := Int) 8 0 (List.length classes : Int)).bind fun x9 =>
  (loopM (aRefined_b1 N classes d) N (([] : (List ((List UInt8) × Int))), x9, 0)).bind fun ss =>
    match ss with
    | (number473, out476) =>
      some (out476, (List.length number473 : Int))
def aPartition_b1 (N : Nat) (d : ADfa) (useful : (List Bool)) (x2 : (List Int)) : ((List Int) × Int) → Option (Stp ((List Int) × Int) (List Int))
  | (classes186, x190) =>
    (if (x190 : Int) < (List.length x2 : Int) then
      (idx useful x190).bind fun x205 =>
      (if (!x205) = true then
        (idx classes186 x190).bind fun x220 =>
        (upd1 classes186 x190 (-1)).bind fun x226 =>
        some (Stp.next (x226, (iw (x190 + 1))))
      else
        (idx d.Accept x190).bind fun x244 =>
        (if x244 = true then
          (idx classes186 x190).bind fun x259 =>
          (upd1 classes186 x190 1).bind fun x265 =>
          some (Stp.next (x265, (iw (x190 + 1))))
        else
          some (Stp.next (classes186, (iw (x190 + 1))))))
    else
      some (Stp.done classes186))
def aPartition_b2 (N : Nat) (d : ADfa) : ((List Int) × Int) → Option (Stp ((List Int) × Int) (List Int))
  | (classes345, count349) =>
    (aRefined N d classes345).bind fun r357 =>
    (if (r357.2 : Int) = count349 then
      some (Stp.done r357.1)
    else
      some (Stp.next (r357.1, r357.2)))
def aPartition (N : Nat) (d : ADfa) (useful : (List Bool)) : Option (List Int) :=
  (mk1 (α := Int) 8 0 (List.length useful : Int)).bind fun x2 =>
  (loopM (aPartition_b1 N d useful x2) N (x2, 0)).bind fun ss =>
    match ss with
    | classes193 =>
      (loopM (aPartition_b2 N d) N (classes193, 0)).bind fun ss =>
        match ss with
        | z380 => some z380
def aMinimize_b2 (N : Nat) (d : ADfa) (r72 : (List Int)) (edges2412 : (List (List AEdge))) (i2427 : Int) (x2470 : Int) : ((List AEdge) × (List (Int × Int)) × (List Int) × Int) → Option (Stp ((List AEdge) × (List (Int × Int)) × (List Int) × Int) ((List AEdge) × (List (Int × Int)) × (List Int)))
  | (edgesL3243, number3248, states3254, x3258) =>
    (if (x3258 : Int) ≤ 126 then
      (aStep N d x2470 (uw8 x3258)).bind fun r3295 =>
      (aClass N r72 r3295).bind fun r3304 =>
      (if (r3304 : Int) = (-1) then
        some (Stp.next (edgesL3243, number3248, states3254, (iw (x3258 + 1))))
      else
        (((if (!(mget number3248 r3304 0).2) = true then
          (apnd 8 states3254 [r3295]).bind fun x3383 =>
          some ((mput number3248 r3304 (List.length states3254 : Int)), x3383, (List.length states3254 : Int))
        else
          some (number3248, states3254, (mget number3248 r3304 0).1)) : Option ((List (Int × Int)) × (List Int) × Int))).bind fun ss =>
          match ss with
          | (number3356, states3362, n3366) =>
            (chk (i2427 = (List.length edges2412 : Int))).bind fun _ =>
            (((if ((iw ((List.length edgesL3243 : Int) - 1)) : Int) ≥ 0 then
              (idx edgesL3243 (iw ((List.length edgesL3243 : Int) - 1))).bind fun x3456 =>
              (if (x3456.To : Int) = n3366 then
                (idx edgesL3243 (iw ((List.length edgesL3243 : Int) - 1))).bind fun x3470 =>
                some (decide (((iw x3470.High) : Int) = (iw (x3258 - 1))))
              else
                some false)
            else
              some false) : Option Bool)).bind fun ss =>
              match ss with
              | x3452 =>
                (if x3452 = true then
                  (idx edgesL3243 (iw ((List.length edgesL3243 : Int) - 1))).bind fun x3485 =>
                  (upd1 edgesL3243 (iw ((List.length edgesL3243 : Int) - 1)) (AEdge.mk x3485.Low (uw8 x3258) x3485.To)).bind fun x3498 =>
                  some (Stp.next (x3498, number3356, states3362, (iw (x3258 + 1))))
                else
                  (chk (i2427 = (List.length edges2412 : Int))).bind fun _ =>
                  (apnd 16 edgesL3243 [(AEdge.mk (uw8 x3258) (uw8 x3258) n3366)]).bind fun x3540 =>
                  some (Stp.next (x3540, number3356, states3362, (iw (x3258 + 1))))))
    else
      some (Stp.done (edgesL3243, number3248, states3254)))
def aMinimize_b1 (N : Nat) (d : ADfa) (r72 : (List Int)) : ((List Bool) × (List (List AEdge)) × (List (Int × Int)) × (List Int) × Int) → Option (Stp ((List Bool) × (List (List AEdge)) × (List (Int × Int)) × (List Int) × Int) ((List Bool) × (List (List AEdge))))
  | (accept2403, edges2412, number2417, states2423, i2427) =>
    (if (i2427 : Int) < (List.length states2423 : Int) then
      (idx states2423 i2427).bind fun x2470 =>
      (idx d.Accept x2470).bind fun x2482 =>
      (((apnd 1 accept2403 [x2482]).bind fun x2595 =>
      (chk ((List.length edges2412 + 1) * 24 ≤ 140737488355328 ∧ List.length edges2412 + 1 ≤ 9223372036854775807)).bind fun _ =>
      some (x2595, ([] : (List AEdge)), (iw ((List.length x2595 : Int) - 1))) : Option ((List Bool) × (List AEdge) × Int))).bind fun ss =>
        match ss with
        | (accept2567, edgesL2578, x2584) =>
          (loopM (aMinimize_b2 N d r72 edges2412 i2427 x2470) N (edgesL2578, number2417, states2423, 32)).bind fun ss =>
            match ss with
            | (edgesL3271, number3276, states3282) =>
              some (Stp.next (accept2567, (edges2412 ++ [edgesL3271]), number3276, states3282, (iw (i2427 + 1))))
    else
      some (Stp.done (accept2403, edges2412)))
def aMinimize (N : Nat) (d : ADfa) : Option (ADfa × Int) :=
  (aUseful N d).bind fun r11 =>
  (idx r11 0).bind fun x28 =>
  (if (!x28) = true then
    some ((ADfa.mk [false] [[]]), 0)
  else
    (aPartition N d r11).bind fun r72 =>
    (idx r72 0).bind fun x100 =>
    (loopM (aMinimize_b1 N d r72) N (([] : (List Bool)), ([] : (List (List AEdge))), (mput ([] : (List (Int × Int))) x100 0), [0], 0)).bind fun ss =>
      match ss with
      | (accept2435, edges2444) =>
        some ((ADfa.mk accept2435 edges2444), 0))
def aEquivalent_b2 (N : Nat) (a : ADfa) (b : ADfa) (x3122 : APair) : ((List (APair × Bool)) × (List APair) × Int) → Option (Stp ((List (APair × Bool)) × (List APair) × Int) ((List (APair × Bool)) × (List APair)))
  | (seen3525, queue3533, c3539) =>
    (if (c3539 : Int) ≤ 126 then
      (aStep N a x3122.a (uw8 c3539)).bind fun r3568 =>
      (aStep N b x3122.b (uw8 c3539)).bind fun r3571 =>
      (if (!(mget seen3525 (APair.mk r3568 r3571) false).1) = true then
        (apnd 16 queue3533 [(APair.mk r3568 r3571)]).bind fun x3687 =>
        some (Stp.next ((mput seen3525 (APair.mk r3568 r3571) true), x3687, (iw (c3539 + 1))))
      else
        some (Stp.next (seen3525, queue3533, (iw (c3539 + 1)))))
    else
      some (Stp.done (seen3525, queue3533)))
def aEquivalent_b1 (N : Nat) (a : ADfa) (b : ADfa) : ((List (APair × Bool)) × (List APair)) → Option (Stp ((List (APair × Bool)) × (List APair)) (Sum Unit Bool))
  | (seen2478, queue2486) =>
    (if ((List.length queue2486 : Int) : Int) > 0 then
      (((idx queue2486 0).bind fun x3122 =>
      (aFinal N a x3122.a).bind fun r3143 =>
      (aFinal N b x3122.b).bind fun r3190 =>
      (if (!(r3143 == r3190)) = true then
        some (Sum.inr false)
      else
        (loopM (aEquivalent_b2 N a b x3122) N (seen2478, queue2486, 32)).bind fun ss =>
          match ss with
          | (seen3543, queue3551) =>
            some (Sum.inl (seen3543, queue3551))) : Option (Sum ((List (APair × Bool)) × (List APair)) Bool))).bind fun ss =>
        match ss with
        | (Sum.inl (seen3107, queue3115)) =>
          (drp queue3115 1).bind fun x3726 =>
          some (Stp.next (seen3107, x3726))
        | (Sum.inr z3741) => some (Stp.done (Sum.inr z3741))
    else
      some (Stp.done (Sum.inl ())))
def aEquivalent (N : Nat) (a : ADfa) (b : ADfa) : Option Bool :=
  (loopM (aEquivalent_b1 N a b) N ((mput ([] : (List (APair × Bool))) (APair.mk 0 0) true), [(APair.mk 0 0)])).bind fun ss =>
    match ss with
    | (Sum.inl _) =>
      some true
    | (Sum.inr z3748) => some z3748
def aFind_b2 (N : Nat) (self : AFinder → Int → (List Int) → Int → Option (List (List UInt8))) (f : AFinder) (left : Int) (text : (List Int)) (x1634 : AEdge) : ((List (List UInt8)) × Int) → Option (Stp ((List (List UInt8)) × Int) (List (List UInt8)))
  | (words1924, c1934) =>
    (if (c1934 : Int) ≤ (iw x1634.High) then
      (apnd 1 text [(uw8 c1934)]).bind fun x1983 =>
      (self (AFinder.mk (ADfa.mk f.d.Accept f.d.Edges) f.can f.most words1924) x1634.To x1983 (iw (left - 1))).bind fun r2049 =>
      some (Stp.next (r2049, (iw (c1934 + 1))))
    else
      some (Stp.done words1924))
def aFind_b1 (N : Nat) (self : AFinder → Int → (List Int) → Int → Option (List (List UInt8))) (f : AFinder) (left : Int) (text : (List Int)) (x635 : (List AEdge)) : ((List (List UInt8)) × Int) → Option (Stp ((List (List UInt8)) × Int) (List (List UInt8)))
  | (words1600, x1609) =>
    (if (x1609 : Int) < (List.length x635 : Int) then
      (idx x635 x1609).bind fun x1634 =>
      (loopM (aFind_b2 N self f left text x1634) N (words1600, (iw x1634.Low))).bind fun ss =>
        match ss with
        | words1941 =>
          some (Stp.next (words1941, (iw (x1609 + 1))))
    else
      some (Stp.done words1600))
def aFind_step (N : Nat) (self : AFinder → Int → (List Int) → Int → Option (List (List UInt8))) (f : AFinder) (state : Int) (text : (List Int)) (left : Int) : Option (List (List UInt8)) :=
  (((if ((List.length f.words : Int) : Int) ≥ f.most then
    some true
  else
    (idx f.can left).bind fun x424 =>
    (idx x424 state).bind fun x565 =>
    some (!x565)) : Option Bool)).bind fun ss =>
    match ss with
    | x293 =>
      (if x293 = true then
        some f.words
      else
        (if (left : Int) = 0 then
          (apnd 16 f.words [(bstr text)]).bind fun x607 =>
          some x607
        else
          (idx f.d.Edges state).bind fun x635 =>
          (loopM (aFind_b1 N self f left text x635) N (f.words, 0)).bind fun ss =>
            match ss with
            | words1616 =>
              some words1616))
def aFind : Nat → AFinder → Int → (List Int) → Int → Option (List (List UInt8))
  | 0 => fun _ _ _ _ => none
  | N + 1 => aFind_step N (aFind N)
def aWords1 (N : Nat) (pa : AEdge) (ca : AFinder) (cb : Int) : Option Bool :=
  (idx ca.can cb).bind fun x8 =>
  (idx x8 pa.To).bind fun x90 =>
  some x90
def aWords_b2 (N : Nat) (d : ADfa) (length : Int) (most : Int) (can663 : (List (List Bool))) (x667 : Int) (x702 : (List Bool)) : ((List Bool) × Int) → Option (Stp ((List Bool) × Int) (List Bool))
  | (l849, x853) =>
    (if (x853 : Int) < (List.length x702 : Int) then
      (idx d.Edges x853).bind fun x876 =>
      (containsEdge N x876 (fun y892 => aWords1 N y892 (AFinder.mk d can663 most []) x667)).bind fun r893 =>
      (idx l849 x853).bind fun x903 =>
      (upd1 l849 x853 r893).bind fun x909 =>
      some (Stp.next (x909, (iw (x853 + 1))))
    else
      some (Stp.done l849))
def aWords_b1 (N : Nat) (d : ADfa) (length : Int) (most : Int) : ((List (List Bool)) × Int) → Option (Stp ((List (List Bool)) × Int) (List (List Bool)))
  | (can663, x667) =>
    (if (x667 : Int) < length then
      (mk1 (α := Bool) 1 false (List.length d.Accept : Int)).bind fun x702 =>
      (loopM (aWords_b2 N d length most can663 x667 x702) N (x702, 0)).bind fun ss =>
        match ss with
        | l860 =>
          (apnd 24 can663 [l860]).bind fun x962 =>
          some (Stp.next (x962, (iw (x667 + 1))))
    else
      some (Stp.done can663))
def aWords (N : Nat) (d : ADfa) (length : Int) (most : Int) : Option (List (List UInt8)) :=
  (((if (length : Int) < 0 then
    some true
  else
    some (decide ((most : Int) < 0))) : Option Bool)).bind fun ss =>
    match ss with
    | x8 =>
      (if x8 = true then
        some ([] : (List (List UInt8)))
      else
        (loopM (aWords_b1 N d length most) N ([d.Accept], 0)).bind fun ss =>
          match ss with
          | can675 =>
            (aFind N (AFinder.mk (ADfa.mk d.Accept d.Edges) can675 most ([] : (List (List UInt8)))) 0 ([] : (List Int)) length).bind fun r1010 =>
            some r1010)
end Go.D

/- Plain counterparts, written by a program of mine (wip/tool). -/
import Derived.Test.YtaakoedphmeenaaT22
import Derived.Test.YtaakoedphmeenaaPA
set_option linter.unusedVariables false
set_option linter.unusedSimpArgs false
namespace Go.D
open Go Go.X
def qPrintable_b1 (N : Nat) (s : (List UInt8)) : Int → Option (Stp Int (Sum Unit Bool))
  | i68 =>
    (if (i68 : Int) < (List.length s : Int) then
      (((idx s i68).bind fun x91 =>
      (if ((UInt8.toNat x91 : Int) : Int) < 32 then
        some true
      else
        (idx s i68).bind fun x97 =>
        some (decide (((UInt8.toNat x97 : Int) : Int) > 126))) : Option Bool)).bind fun ss =>
        match ss with
        | x88 =>
          (if x88 = true then
            some (Stp.done (Sum.inr false))
          else
            some (Stp.next (iw (i68 + 1))))
    else
      some (Stp.done (Sum.inl ())))
def qPrintable (N : Nat) (s : (List UInt8)) : Option Bool :=
  (loopM (qPrintable_b1 N s) N 0).bind fun ss =>
    match ss with
    | (Sum.inl _) =>
      some true
    | (Sum.inr z109) => some z109
def qValid (N : Nat) (t : TTest) : Option Bool :=
  (if (t.Kind : Int) ≥ 0 then
    (if (t.Kind : Int) ≤ 3 then
      (if ((List.length t.Text : Int) : Int) ≤ 16 then
        (qPrintable N t.Text).bind fun r9 =>
        some r9
      else
        some false)
    else
      some false)
  else
    some false)
def rPairs_b1 (N : Nat) (l : (List Arr2Int)) (n : Int) : Int → Option (Stp Int (Sum Unit Bool))
  | i262 =>
    (if (i262 : Int) < (List.length l : Int) then
      (((idx l i262).bind fun x334 =>
      (if (x334.e0 : Int) < 0 then
        some true
      else
        (idx l i262).bind fun x349 =>
        (if (x349.e0 : Int) ≥ n then
          some true
        else
          (idx l i262).bind fun x364 =>
          (if (x364.e1 : Int) < 0 then
            some true
          else
            (idx l i262).bind fun x379 =>
            some (decide ((x379.e1 : Int) ≥ n))))) : Option Bool)).bind fun ss =>
        match ss with
        | x331 =>
          (if x331 = true then
            some (Stp.done (Sum.inr false))
          else
            some (Stp.next (iw (i262 + 1))))
    else
      some (Stp.done (Sum.inl ())))
def rPairs (N : Nat) (l : (List Arr2Int)) (n : Int) : Option Bool :=
  (loopM (rPairs_b1 N l n) N 0).bind fun ss =>
    match ss with
    | (Sum.inl _) =>
      some true
    | (Sum.inr z400) => some z400
def rSizes_b1 (N : Nat) (l : (List Int)) : Int → Option (Stp Int (Sum Unit Bool))
  | i134 =>
    (if (i134 : Int) < (List.length l : Int) then
      (((idx l i134).bind fun x174 =>
      (if (x174 : Int) < 0 then
        some true
      else
        (idx l i134).bind fun x188 =>
        some (decide ((x188 : Int) > 16))) : Option Bool)).bind fun ss =>
        match ss with
        | x171 =>
          (if x171 = true then
            some (Stp.done (Sum.inr false))
          else
            some (Stp.next (iw (i134 + 1))))
    else
      some (Stp.done (Sum.inl ())))
def rSizes (N : Nat) (l : (List Int)) : Option Bool :=
  (loopM (rSizes_b1 N l) N 0).bind fun ss =>
    match ss with
    | (Sum.inl _) =>
      some true
    | (Sum.inr z208) => some z208
def rValid_b1 (N : Nat) (p : TProb) : Int → Option (Stp Int (Sum Unit Bool))
  | i241 =>
    (if (i241 : Int) < (List.length p.Tests : Int) then
      (((idx p.Tests i241).bind fun x307 =>
      (qValid N x307).bind fun r320 =>
      (if (!r320) = true then
        some true
      else
        (idx p.Tests i241).bind fun x328 =>
        (if (x328.Var : Int) < 0 then
          some true
        else
          (idx p.Tests i241).bind fun x344 =>
          some (decide ((x344.Var : Int) ≥ (List.length p.Max : Int))))) : Option Bool)).bind fun ss =>
        match ss with
        | x304 =>
          (if x304 = true then
            some (Stp.done (Sum.inr false))
          else
            some (Stp.next (iw (i241 + 1))))
    else
      some (Stp.done (Sum.inl ())))
def rValid (N : Nat) (p : TProb) : Option Bool :=
  (loopM (rValid_b1 N p) N 0).bind fun ss =>
    match ss with
    | (Sum.inl _) =>
      (if ((List.length p.Min : Int) : Int) = (List.length p.Max : Int) then
        (if ((List.length p.Max : Int) : Int) ≤ 128 then
          (rSizes N p.Min).bind fun r368 =>
          (if r368 = true then
            (rSizes N p.Max).bind fun r376 =>
            (if r376 = true then
              (rPairs N p.Same (List.length p.Max : Int)).bind fun r385 =>
              (if r385 = true then
                (rPairs N p.Different (List.length p.Max : Int)).bind fun r394 =>
                some r394
              else
                some false)
            else
              some false)
          else
            some false)
        else
          some false)
      else
        some false)
    | (Sum.inr z402) => some z402
def rSmall (N : Nat) (p : TProb) : Option Bool :=
  (if ((List.length p.Max : Int) : Int) ≤ 6 then
    (if ((List.length p.Min : Int) : Int) ≤ 6 then
      (if ((List.length p.Tests : Int) : Int) ≤ 8 then
        (if ((List.length p.Same : Int) : Int) ≤ 8 then
          (if ((List.length p.Different : Int) : Int) ≤ 8 then
            (rValid N p).bind fun r16 =>
            some r16
          else
            some false)
        else
          some false)
      else
        some false)
    else
      some false)
  else
    some false)
end Go.D

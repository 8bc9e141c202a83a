/- Walks of the symbolic machine, written by a program of mine (wip/tool). -/
import Derived.Test.YtcakdidcpoolcaaGreatDoorTB
import Derived.Test.YtcakdidcpoolcaaGreatDoorAd
set_option maxRecDepth 100000
set_option maxHeartbeats 4000000
set_option linter.unusedVariables false
set_option linter.unusedSimpArgs false
namespace Go.Proofs.YtcakdidcpoolcaaGreatDoor.SI
open Go Go.RowKit Go.X Go.Q Go.D Go.Proofs.YtcakdidcpoolcaaGreatDoor.TB 
theorem indexOf_c (N : Nat) (s : (List Int)) (pb : Int) (r : Int) (h : indexOf N s pb = some r) : Cn Tryz.prog 120 [sR (rInt .i64) false s, sI .i64 pb] [] [sI .i64 r] := by
  unfold indexOf at h
  refine fn tb en120 Tryz.func120 fun X w H ν => ?_
  refine jn (fun x => (Sum.inl x)) (fun (_ : Unit) => mkS 0 [] []) h (fun s41 hl43 g42 => ?_) ?_
  ·
    refine bk ?_
    refine lp (fun x40 => mkS 0 [] [vr 0 (rInt .i64) false s, vi 1 pb, vi 7 (List.length s : Int), vi 8 x40]) hl43 [] ?_
    rintro x40 oo h hd44
    rw [indexOf_b1] at h
    refine cd h (fun hc48 h => ?_) (fun hc48 h => ?_)
    ·
      refine bk ?_
      refine ixR h fun x49 h => ?_
      refine cd h (fun hc63 h => ?_) (fun hc63 h => ?_)
      ·
        cases h
        cases hd44 _ rfl
        replace h := g42
        try dsimp only at h
        cases h
        exact rt []
      ·
        cases h
        exact bl []
    ·
      cases h
      cases hd44 _ rfl
      replace h := g42
      try dsimp only at h
      exact bj _ []
  ·
    intro _ h
    try dsimp only at h
    cases h
    exact rt []
theorem containsOf_c (N : Nat) (s : (List Int)) (pb : Int) (r : Bool) (h : containsOf N s pb = some r) : Cn Tryz.prog 91 [sR (rInt .i64) false s, sI .i64 pb] [] [sB r] := by
  unfold containsOf at h
  refine fn tb en91 Tryz.func91 fun X w H ν => ?_
  refine cl none [] 0 h (indexOf_c N _ _) fun r1 h => ?_
  cases h
  exact rt []
end Go.Proofs.YtcakdidcpoolcaaGreatDoor.SI

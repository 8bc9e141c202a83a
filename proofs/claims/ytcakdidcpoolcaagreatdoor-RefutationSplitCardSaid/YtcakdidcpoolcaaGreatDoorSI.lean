/- Walks of the symbolic machine, written by a program of mine (wip/tool). -/
import Derived.Test.YtcakdidcpoolcaaGreatDoorTB
import Derived.Test.YtcakdidcpoolcaaGreatDoorAd
set_option linter.unusedVariables false
set_option linter.unusedSimpArgs false
set_option linter.unusedSectionVars false
set_option maxRecDepth 100000
set_option maxHeartbeats 4000000
namespace Go.Proofs.YtcakdidcpoolcaaGreatDoor.SI
open Go Go.RowKit Go.X Go.Q Go.D Go.Proofs.YtcakdidcpoolcaaGreatDoor.TB 
theorem indexOf_c(N:Nat)(s:(List Int))(pb:Int)(r:Int)(h:indexOf N s pb=some r):Cn Tryz.prog 120 [sR (rInt .i64) false s,sI .i64 pb] [] [sI .i64 r]:=by
 unfold indexOf at h
 refine fn tb en120 Tryz.func120 fun X w H ν=>?_
 refine jn (fun x=>(Sum.inl x)) (fun(_:Unit)=>mkS 0 [] []) h (fun g d a=>?_) ?_
 ·
  refine bk ?_
  refine lp (fun b=>mkS 0 [] [vr 0 (rInt .i64) false s,vi 1 pb,vi 7 (List.length s:Int),vi 8 b]) d [] ?_
  rintro b oo h c
  rw[indexOf_b1]at h
  refine cd h (fun e h=>?_) (fun e h=>?_)
  ·
   refine bk ?_
   refine ixR h fun i h=>?_
   refine cd h (fun f h=>?_) (fun f h=>?_)
   ·
    cases h
    cases c _ rfl
    replace h:=a
    try dsimp only at h
    cases h
    exact rt []
   cases h
   exact bl []
  cases h
  cases c _ rfl
  replace h:=a
  try dsimp only at h
  exact bj _ []
 intro _ h
 try dsimp only at h
 cases h
 exact rt []
theorem containsOf_c(N:Nat)(s:(List Int))(pb:Int)(r:Bool)(h:containsOf N s pb=some r):Cn Tryz.prog 91 [sR (rInt .i64) false s,sI .i64 pb] [] [sB r]:=by
 unfold containsOf at h
 refine fn tb en91 Tryz.func91 fun X w H ν=>?_
 refine cl none [] 0 h (indexOf_c N _ _) fun r1 h=>?_
 cases h
 exact rt []
end Go.Proofs.YtcakdidcpoolcaaGreatDoor.SI

/- Walks of the symbolic machine, written by a program of mine (wip/tool). -/
import Derived.Test.YtcakdidcpoolcaaGreatDoorTB
import Derived.Test.YtcakdidcpoolcaaGreatDoorAd
import Derived.Test.YtcakdidcpoolcaaGreatDoorSR
import Derived.Test.YtcakdidcpoolcaaGreatDoorSS
import Derived.Test.YtcakdidcpoolcaaGreatDoorSV
import Derived.Test.YtcakdidcpoolcaaGreatDoorSU
set_option maxRecDepth 100000
set_option maxHeartbeats 4000000
set_option linter.unusedVariables false
set_option linter.unusedSimpArgs false
namespace Go.Proofs.YtcakdidcpoolcaaGreatDoor.SL
open Go Go.RowKit Go.X Go.Q Go.D Go.Proofs.YtcakdidcpoolcaaGreatDoor.TB Go.Proofs.YtcakdidcpoolcaaGreatDoor.SR Go.Proofs.YtcakdidcpoolcaaGreatDoor.SS Go.Proofs.YtcakdidcpoolcaaGreatDoor.SV Go.Proofs.YtcakdidcpoolcaaGreatDoor.SU
theorem lbig_c (N : Nat) (n : Int) (r : Big) (h : lbig N n = some r) : Cn Tryz.prog 21 [sI .i64 n] [] [sA rBig true r] := by
  unfold lbig at h
  refine fn tb en21 Tryz.func21 fun X w H ν => ?_
  refine cl none [] 0 h (rOf_c N _) fun r6 h => ?_
  cases h
  exact rt []
theorem awake_c (N : Nat)  (r : Bool) (h : awake N  = some r) : Cn Tryz.prog 10 [] [] [sB r] := by
  unfold awake at h
  refine fn tb en10 Tryz.func10 fun X w H ν => ?_
  refine litO rRVar true [(RVar.mk 1 (-9) 9 0 false)] ?_
  refine litO (rInt .i64) true [0] ?_
  refine litO rCoef true [(Coef.mk 0 2)] ?_
  refine po (fzk 2 [9, 10, 11] []) ?_
  refine litO rConstraint true [(Constraint.mk (Linear.mk (-5) [(Coef.mk 0 2)]) true)] ?_
  refine cl none [] 0 h (lbig_c N _) fun r47 h => ?_
  refine litO rUse true [(Use.mk 2 r47)] ?_
  refine cl none [] 0 h (lbig_c N _) fun r64 h => ?_
  refine cl none [] 0 h (lbig_c N _) fun r73 h => ?_
  refine litO rUse true [(Use.mk 3 r73)] ?_
  refine cl none [] 0 h (lbig_c N _) fun r90 h => ?_
  refine cl none [] 0 h (lbig_c N _) fun r99 h => ?_
  refine cl none [] 0 h (lbig_c N _) fun r108 h => ?_
  refine litO rUse true [(Use.mk 4 r99), (Use.mk 5 r108)] ?_
  refine cl none [] 0 h (lbig_c N _) fun r126 h => ?_
  refine po (fzk 5 [16, 18] []) ?_
  refine po (fzk 6 [21, 23] []) ?_
  refine po (fzk 7 [28, 30] []) ?_
  refine litO rStep true [(Step.mk [(Use.mk 2 r47)] r64), (Step.mk [(Use.mk 3 r73)] r90), (Step.mk [(Use.mk 4 r99), (Use.mk 5 r108)] r126)] ?_
  refine rg ?_
  refine cl none [] 0 h (vCheck_c N _ _ _) fun r181 h => ?_
  refine gd h (fun hc192 h => ?_) (fun hc192 h => ?_)
  ·
    refine cl none [] 0 h (vFormat_c N _) fun r193 h => ?_
    refine gd h (fun hc201 h => ?_) (fun hc201 h => ?_)
    ·
      refine litO (rInt .i64) true [0] ?_
      refine cl none [] 0 h (vCheck_c N _ _ _) fun r210 h => ?_
      refine gd h (fun hc219 h => ?_) (fun hc219 h => ?_)
      ·
        refine litO (rInt .i64) true [0] ?_
        refine cl none [] 0 h (vCheck_c N _ _ _) fun r228 h => ?_
        cases h
        exact rt []
      ·
        cases h
        exact rt []
    ·
      cases h
      exact rt []
  ·
    cases h
    exact rt []
theorem lright_c (N : Nat) (x : RCase) (r : Bool) (h : lright N x = some r) : Cn Tryz.prog 11 [sA rRCase false x] [] [sB r] := by
  unfold lright at h
  refine fn tb en11 Tryz.func11 fun X w H ν => ?_
  refine rg ?_
  refine cl none [] 0 h (wDomains_c N _) fun r6 h => ?_
  refine gd h (fun hc14 h => ?_) (fun hc14 h => ?_)
  ·
    refine cl none [] 0 h (sFew_c N _) fun r15 h => ?_
    refine gd h (fun hc29 h => ?_) (fun hc29 h => ?_)
    ·
      refine cl none [] 0 h (sValid_c N _ _) fun r30 h => ?_
      refine gd h (fun hc45 h => ?_) (fun hc45 h => ?_)
      ·
        refine cl none [] 0 h (wRight_c N _ _) fun r46 h => ?_
        cases h
        exact rt []
      ·
        cases h
        exact rt []
    ·
      cases h
      exact rt []
  ·
    cases h
    exact rt []
theorem lawSplit_c (N : Nat) (l : (List RVar)) (c : RClause) (pc : Refut) (r : Bool) (h : lawSplit N l c pc = some r) : Cn Tryz.prog 8 [sR rRVar false l, sA rRClause false c, sA rRefut false pc] [] [sB r] := by
  unfold lawSplit at h
  refine fn tb en8 Tryz.func8 fun X w H ν => ?_
  refine dr mixed ?_
  refine cl none [] 1 h (wRanges_c N _) fun r11 h => ?_
  refine dk ?_
  refine jn (fun x => x) (fun x123 => mkS 2 [.box (Opn.cl rRClause false c), .box (Opn.cl rRefut false pc)] [vr 0 rRVar false l, vp 4 0, vp 5 1, vb 49 x123]) h (fun s124 h g125 => ?_) ?_
  ·
    refine rg ?_
    refine cl none [] 0 h (awake_c N) fun r126 h => ?_
    refine gd h (fun hc133 h => ?_) (fun hc133 h => ?_)
    ·
      cases h
      exact bj _ [0, 1]
    ·
      refine cl none [] 0 h (wShort_c N _ _) fun r137 h => ?_
      refine gd h (fun hc152 h => ?_) (fun hc152 h => ?_)
      ·
        cases h
        exact bj _ [0, 1]
      ·
        refine cl none [] 0 h (lright_c N _) fun r156 h => ?_
        refine gd h (fun hc172 h => ?_) (fun hc172 h => ?_)
        ·
          cases h
          exact bj _ [0, 1]
        ·
          refine cl none [] 0 h (wSmall_c N _) fun r176 h => ?_
          refine gd h (fun hc188 h => ?_) (fun hc188 h => ?_)
          ·
            cases h
            exact bj _ [0, 1]
          ·
            refine gd h (fun hc192 h => ?_) (fun hc192 h => ?_)
            ·
              cases h
              exact bj _ [0, 1]
            ·
              refine gd h (fun hc196 h => ?_) (fun hc196 h => ?_)
              ·
                cases h
                exact bj _ [0, 1]
              ·
                refine cl none [] 0 h (vCheck_c N _ _ _) fun r200 h => ?_
                cases h
                exact bj _ [0, 1]
  ·
    intro x123 h
    try dsimp only at h
    refine cd h (fun hc226 h => ?_) (fun hc226 h => ?_)
    ·
      refine cl none [] 0 h (awake_c N) fun r227 h => ?_
      cases h
      exact rt []
    ·
      refine jn (fun x => (Sum.inl x)) (fun (_ : Unit) => mkS 0 [] []) h (fun s543 hl545 g544 => ?_) ?_
      ·
        refine bk ?_
        refine lp (fun x542 => mkS 2 [.box (Opn.cl rRClause false c), .box (Opn.cl rRefut false pc)] [vr 0 rRVar false l, vp 4 0, vp 5 1, vr 52 (rInt .i64) false c.NotNull, vi 53 (List.length c.NotNull : Int), vi 54 x542]) hl545 [0, 1] ?_
        rintro x542 oo h hd546
        rw [lawSplit_b1] at h
        refine cd h (fun hc550 h => ?_) (fun hc550 h => ?_)
        ·
          refine bk ?_
          refine ixR h fun x551 h => ?_
          refine jn (fun x => x) (fun x627 => mkS 2 [.box (Opn.cl rRClause false c), .box (Opn.cl rRefut false pc)] [vr 0 rRVar false l, vp 4 0, vp 5 1, vr 52 (rInt .i64) false c.NotNull, vi 53 (List.length c.NotNull : Int), vi 54 x542, vb 82 x627]) h (fun s628 h g629 => ?_) ?_
          ·
            refine rg ?_
            refine ixR h fun x630 h => ?_
            refine gd h (fun hc645 h => ?_) (fun hc645 h => ?_)
            ·
              refine ixR h fun x646 h => ?_
              refine gd h (fun hc660 h => ?_) (fun hc660 h => ?_)
              ·
                refine litO rRefut false [pc, pc] ?_
                refine cl none [] 0 h (vCheck_c N _ _ _) fun r674 h => ?_
                cases h
                exact bj _ [0, 1]
              ·
                cases h
                exact bj _ [0, 1]
            ·
              cases h
              exact bj _ [0, 1]
          ·
            intro x627 h
            try dsimp only at h
            refine cd h (fun hc696 h => ?_) (fun hc696 h => ?_)
            ·
              cases h
              cases hd546 _ rfl
              replace h := g544
              try dsimp only at h
              cases h
              exact rt []
            ·
              cases h
              exact bl [0, 1]
        ·
          cases h
          cases hd546 _ rfl
          replace h := g544
          try dsimp only at h
          exact bj _ []
      ·
        intro _ h
        try dsimp only at h
        cases h
        exact rt []
end Go.Proofs.YtcakdidcpoolcaaGreatDoor.SL

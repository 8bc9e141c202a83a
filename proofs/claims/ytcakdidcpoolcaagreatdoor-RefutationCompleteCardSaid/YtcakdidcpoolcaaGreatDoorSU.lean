/- Walks of the symbolic machine, written by a program of mine (wip/tool). -/
import Derived.Test.YtcakdidcpoolcaaGreatDoorTB
import Derived.Test.YtcakdidcpoolcaaGreatDoorAd
set_option maxRecDepth 100000
set_option maxHeartbeats 4000000
set_option linter.unusedVariables false
set_option linter.unusedSimpArgs false
namespace Go.Proofs.YtcakdidcpoolcaaGreatDoor.SU
open Go Go.RowKit Go.X Go.Q Go.D Go.Proofs.YtcakdidcpoolcaaGreatDoor.TB 
theorem whigh_c (N : Nat) (l : (List RVar)) (ranges : (List Arr2Int)) (pc : Int) (r : Int) (h : whigh N l ranges pc = some r) : Cn Tryz.prog 44 [sR rRVar false l, sR rArr2Int false ranges, sI .i64 pc] [] [sI .i64 r] := by
  unfold whigh at h
  refine fn tb en44 Tryz.func44 fun X w H ν => ?_
  refine dr mixed ?_
  refine ixR h fun x1 h => ?_
  refine ixR h fun x15 h => ?_
  refine dk ?_
  refine cd h (fun hc29 h => ?_) (fun hc29 h => ?_)
  ·
    refine ixR h fun x30 h => ?_
    cases h
    exact rt []
  ·
    refine ixR h fun x44 h => ?_
    cases h
    exact rt []
theorem wplace_c (N : Nat) (l : (List Int)) (n : Int) (r : Int) (h : wplace N l n = some r) : Cn Tryz.prog 46 [sR (rInt .i64) false l, sI .i64 n] [] [sI .i64 r] := by
  unfold wplace at h
  refine fn tb en46 Tryz.func46 fun X w H ν => ?_
  refine jn (fun x => (Sum.inl x)) (fun (_ : Unit) => mkS 0 [] []) h (fun s41 hl43 g42 => ?_) ?_
  ·
    refine bk ?_
    refine lp (fun i40 => mkS 0 [] [vr 0 (rInt .i64) false l, vi 1 n, vi 5 i40]) hl43 [] ?_
    rintro i40 oo h hd44
    rw [wplace_b1] at h
    refine cd h (fun hc49 h => ?_) (fun hc49 h => ?_)
    ·
      refine bk ?_
      refine ixR h fun x50 h => ?_
      refine cd h (fun hc63 h => ?_) (fun hc63 h => ?_)
      ·
        cases h
        cases hd44 _ rfl
        replace h := g42
        try dsimp only at h
        cases h
        exact rt []
      ·
        cases h
        exact bl []
    ·
      cases h
      cases hd44 _ rfl
      replace h := g42
      try dsimp only at h
      exact bj _ []
  ·
    intro _ h
    try dsimp only at h
    cases h
    exact rt []
theorem wpairs_c (N : Nat) (p : (List Arr2Int)) (vars : (List Int)) (r : (List Arr2Int)) (h : wpairs N p vars = some r) : Cn Tryz.prog 47 [sR rArr2Int false p, sR (rInt .i64) false vars] [.row rArr2Int true r] [sO 0] := by
  unfold wpairs at h
  refine fn tb en47 Tryz.func47 fun X w H ν => ?_
  refine jn (fun x => x) (fun out182 => mkS 1 [.row rArr2Int true out182] [vo 5 0]) h (fun s186 hl188 g187 => ?_) ?_
  ·
    refine bk ?_
    refine ps (nl 5 rArr2Int) ?_
    refine lp (fun ⟨out172, i176⟩ => mkS 1 [.row rArr2Int true out172] [vr 0 rArr2Int false p, vr 1 (rInt .i64) false vars, vo 5 0, vi 6 i176]) hl188 [0] ?_
    rintro ⟨out172, i176⟩ oo h hd189
    rw [wpairs_b1] at h
    refine cd h (fun hc198 h => ?_) (fun hc198 h => ?_)
    ·
      refine bk ?_
      refine dr mixed ?_
      refine ixR h fun x199 h => ?_
      refine cl none [] 0 h (wplace_c N _ _) fun r213 h => ?_
      refine ixR h fun x221 h => ?_
      refine cl none [] 0 h (wplace_c N _ _) fun r236 h => ?_
      refine litO rArr2Int true [(Arr2Int.mk r213 r236)] ?_
      refine apO true h fun x252 h => ?_
      refine dk ?_
      cases h
      exact bl [2]
    ·
      cases h
      cases hd189 _ rfl
      replace h := g187
      try dsimp only at h
      exact bj _ [0]
  ·
    intro out182 h
    try dsimp only at h
    cases h
    exact rt [0]
theorem wTexts_c (N : Nat) (l : (List RVar)) (c : RClause) (ranges : (List Arr2Int)) (r : (TProb × (List Int))) (h : wTexts N l c ranges = some r) : Cn Tryz.prog 16 [sR rRVar false l, sA rRClause false c, sR rArr2Int false ranges] [.row (rInt .i64) true r.2] [sA rTProb true r.1, sO 0] := by
  unfold wTexts at h
  refine fn tb en16 Tryz.func16 fun X w H ν => ?_
  refine jn (fun x => x) (fun ⟨min389, max398, vars407⟩ => mkS 6 [.box (Opn.cl rRClause false c), .box [lN, lN, lN, lN, lN], .box [(.own 3), (.own 4), lN, lN, lN], .row (rInt .i64) true min389, .row (rInt .i64) true max398, .row (rInt .i64) true vars407] [vp 4 0, vp 6 1, vp 8 2, vo 9 5]) h (fun s411 hl413 g412 => ?_) ?_
  ·
    refine bk ?_
    refine ps (nb 2 0 (rInt .i64)) ?_
    refine ps (nb 2 1 (rInt .i64)) ?_
    refine ps (nl 9 (rInt .i64)) ?_
    refine lp (fun ⟨min358, max367, vars376, i380⟩ => mkS 6 [.box (Opn.cl rRClause false c), .box [lN, lN, lN, lN, lN], .box [(.own 3), (.own 4), lN, lN, lN], .row (rInt .i64) true min358, .row (rInt .i64) true max367, .row (rInt .i64) true vars376] [vr 0 rRVar false l, vr 2 rArr2Int false ranges, vp 4 0, vp 6 1, vp 8 2, vo 9 5, vi 10 i380]) hl413 [0, 1, 2, 3, 4, 5] ?_
    rintro ⟨min358, max367, vars376, i380⟩ oo h hd414
    rw [wTexts_b1] at h
    refine cd h (fun hc437 h => ?_) (fun hc437 h => ?_)
    ·
      refine bk ?_
      refine ixR h fun x438 h => ?_
      refine ixR h fun x451 h => ?_
      refine cd h (fun hc466 h => ?_) (fun hc466 h => ?_)
      ·
        refine litO (rInt .i64) true [x438] ?_
        refine apO true h fun x475 h => ?_
        refine dr mixed ?_
        refine ixR h fun x493 h => ?_
        refine litO (rInt .i64) true [x493.e0] ?_
        refine apO true h fun x516 h => ?_
        refine dk ?_
        refine dr mixed ?_
        refine cl none [] 0 h (whigh_c N _ _ _) fun r538 h => ?_
        refine litO (rInt .i64) true [r538] ?_
        refine apO true h fun x555 h => ?_
        refine dk ?_
        cases h
        exact bl [0, 1, 2, 9, 11, 7]
      ·
        cases h
        exact bl [0, 1, 2, 3, 4, 5]
    ·
      cases h
      cases hd414 _ rfl
      replace h := g412
      try dsimp only at h
      exact bj _ [0, 1, 2, 3, 4, 5]
  ·
    rintro ⟨min389, max398, vars407⟩ h
    try dsimp only at h
    refine jn (fun x => x) (fun tests776 => mkS 7 [.box (Opn.cl rRClause false c), .box [lN, lN, lN, lN, lN], .box [(.own 3), (.own 4), (.own 5), lN, lN], .row (rInt .i64) true min389, .row (rInt .i64) true max398, .row rTTest true tests776, .row (rInt .i64) true vars407] [vp 4 0, vp 6 1, vp 8 2, vo 9 6]) h (fun s781 hl783 g782 => ?_) ?_
    ·
      refine bk ?_
      refine ps (nb 2 2 rTTest) ?_
      refine lp (fun ⟨tests760, i765⟩ => mkS 7 [.box (Opn.cl rRClause false c), .box [lN, lN, lN, lN, lN], .box [(.own 3), (.own 4), (.own 5), lN, lN], .row (rInt .i64) true min389, .row (rInt .i64) true max398, .row rTTest true tests760, .row (rInt .i64) true vars407] [vp 4 0, vp 6 1, vp 8 2, vo 9 6, vi 12 i765]) hl783 [0, 1, 2, 3, 4, 6, 5] ?_
      rintro ⟨tests760, i765⟩ oo h hd784
      rw [wTexts_b2] at h
      refine cd h (fun hc797 h => ?_) (fun hc797 h => ?_)
      ·
        refine bk ?_
        refine ixR h fun x798 h => ?_
        refine cl none [] 0 h (wplace_c N _ _) fun r820 h => ?_
        refine litO rTTest true [(TTest.mk r820 x798.Kind x798.Negated x798.Text)] ?_
        refine apO true h fun x840 h => ?_
        cases h
        exact bl [0, 1, 2, 3, 4, 9, 6]
      ·
        cases h
        cases hd784 _ rfl
        replace h := g782
        try dsimp only at h
        exact bj _ [0, 1, 2, 3, 4, 5, 6]
    ·
      intro tests776 h
      try dsimp only at h
      refine dr mixed ?_
      refine cl none [] 1 h (wpairs_c N _ _) fun r869 h => ?_
      refine cl none [] 1 h (wpairs_c N _ _) fun r886 h => ?_
      refine dk ?_
      cases h
      exact rt [6]
theorem wRight_c (N : Nat) (l : (List RVar)) (ranges : (List Arr2Int)) (r : Bool) (h : wRight N l ranges = some r) : Cn Tryz.prog 38 [sR rRVar false l, sR rArr2Int false ranges] [] [sB r] := by
  unfold wRight at h
  refine fn tb en38 Tryz.func38 fun X w H ν => ?_
  refine cd h (fun hc1 h => ?_) (fun hc1 h => ?_)
  ·
    cases h
    exact rt []
  ·
    refine jn (fun x => (Sum.inl x)) (fun (_ : Unit) => mkS 0 [] []) h (fun s264 hl266 g265 => ?_) ?_
    ·
      refine bk ?_
      refine lp (fun i263 => mkS 0 [] [vr 1 rArr2Int false ranges, vi 5 i263]) hl266 [] ?_
      rintro i263 oo h hd267
      rw [wRight_b1] at h
      refine cd h (fun hc272 h => ?_) (fun hc272 h => ?_)
      ·
        refine bk ?_
        refine jn (fun x => x) (fun x332 => mkS 0 [] [vr 1 rArr2Int false ranges, vi 5 i263, vb 46 x332]) h (fun s333 h g334 => ?_) ?_
        ·
          refine rg ?_
          refine ixR h fun x335 h => ?_
          refine gd h (fun hc349 h => ?_) (fun hc349 h => ?_)
          ·
            cases h
            exact bj _ []
          ·
            refine ixR h fun x350 h => ?_
            refine gd h (fun hc364 h => ?_) (fun hc364 h => ?_)
            ·
              cases h
              exact bj _ []
            ·
              refine ixR h fun x365 h => ?_
              refine gd h (fun hc379 h => ?_) (fun hc379 h => ?_)
              ·
                cases h
                exact bj _ []
              ·
                refine ixR h fun x380 h => ?_
                cases h
                exact bj _ []
        ·
          intro x332 h
          try dsimp only at h
          refine cd h (fun hc397 h => ?_) (fun hc397 h => ?_)
          ·
            cases h
            cases hd267 _ rfl
            replace h := g265
            try dsimp only at h
            cases h
            exact rt []
          ·
            cases h
            exact bl []
      ·
        cases h
        cases hd267 _ rfl
        replace h := g265
        try dsimp only at h
        exact bj _ []
    ·
      intro _ h
      try dsimp only at h
      cases h
      exact rt []
theorem wDomains_c (N : Nat) (l : (List RVar)) (r : Bool) (h : wDomains N l = some r) : Cn Tryz.prog 35 [sR rRVar false l] [] [sB r] := by
  unfold wDomains at h
  refine fn tb en35 Tryz.func35 fun X w H ν => ?_
  refine jn (fun x => (Sum.inl x)) (fun (_ : Unit) => mkS 0 [] [vr 0 rRVar false l]) h (fun s159 hl161 g160 => ?_) ?_
  ·
    refine bk ?_
    refine lp (fun i158 => mkS 0 [] [vr 0 rRVar false l, vi 3 i158]) hl161 [] ?_
    rintro i158 oo h hd162
    rw [wDomains_b1] at h
    refine cd h (fun hc167 h => ?_) (fun hc167 h => ?_)
    ·
      refine bk ?_
      refine ixR h fun x168 h => ?_
      refine jn (fun x => x) (fun x195 => mkS 1 [.box (Opn.cl rRVar true x168)] [vr 0 rRVar false l, vi 3 i158, vp 4 0, vb 37 x195]) h (fun s196 h g197 => ?_) ?_
      ·
        refine rg ?_
        refine gd h (fun hc198 h => ?_) (fun hc198 h => ?_)
        ·
          refine gd h (fun hc199 h => ?_) (fun hc199 h => ?_)
          ·
            cases h
            exact bj _ [0]
          ·
            refine gd h (fun hc200 h => ?_) (fun hc200 h => ?_)
            ·
              cases h
              exact bj _ [0]
            ·
              refine gd h (fun hc201 h => ?_) (fun hc201 h => ?_)
              ·
                cases h
                exact bj _ [0]
              ·
                cases h
                exact bj _ [0]
        ·
          cases h
          exact bj _ [0]
      ·
        intro x195 h
        try dsimp only at h
        refine cd h (fun hc205 h => ?_) (fun hc205 h => ?_)
        ·
          cases h
          cases hd162 _ rfl
          replace h := g160
          try dsimp only at h
          cases h
          exact rt []
        ·
          refine jn (fun x => x) (fun x211 => mkS 0 [] [vr 0 rRVar false l, vi 3 i158, vb 60 x211]) h (fun s212 h g213 => ?_) ?_
          ·
            refine rg ?_
            refine gd h (fun hc214 h => ?_) (fun hc214 h => ?_)
            ·
              refine gd h (fun hc215 h => ?_) (fun hc215 h => ?_)
              ·
                cases h
                exact bj _ []
              ·
                refine gd h (fun hc219 h => ?_) (fun hc219 h => ?_)
                ·
                  cases h
                  exact bj _ []
                ·
                  refine gd h (fun hc223 h => ?_) (fun hc223 h => ?_)
                  ·
                    cases h
                    exact bj _ []
                  ·
                    cases h
                    exact bj _ []
            ·
              refine gd h (fun hc230 h => ?_) (fun hc230 h => ?_)
              ·
                cases h
                exact bj _ []
              ·
                cases h
                exact bj _ []
          ·
            intro x211 h
            try dsimp only at h
            refine cd h (fun hc240 h => ?_) (fun hc240 h => ?_)
            ·
              cases h
              cases hd162 _ rfl
              replace h := g160
              try dsimp only at h
              cases h
              exact rt []
            ·
              cases h
              exact bl []
    ·
      cases h
      cases hd162 _ rfl
      replace h := g160
      try dsimp only at h
      exact bj _ []
  ·
    intro _ h
    try dsimp only at h
    cases h
    exact rt []
end Go.Proofs.YtcakdidcpoolcaaGreatDoor.SU

/- Walks of the symbolic machine, written by a program of mine (wip/tool). -/
import Derived.Test.YtcakdidcpoolcaaGreatDoorTB
import Derived.Test.YtcakdidcpoolcaaGreatDoorAd
set_option maxRecDepth 100000
set_option maxHeartbeats 4000000
set_option linter.unusedVariables false
set_option linter.unusedSimpArgs false
namespace Go.Proofs.YtcakdidcpoolcaaGreatDoor.SH
open Go Go.RowKit Go.X Go.Q Go.D Go.Proofs.YtcakdidcpoolcaaGreatDoor.TB 
theorem qPrintable_c (N : Nat) (s : (List UInt8)) (r : Bool) (h : qPrintable N s = some r) : Cn Tryz.prog 57 [sT s] [] [sB r] := by
  unfold qPrintable at h
  refine fn tb en57 Tryz.func57 fun X w H ν => ?_
  refine jn (fun x => (Sum.inl x)) (fun (_ : Unit) => mkS 0 [] []) h (fun s69 hl71 g70 => ?_) ?_
  ·
    refine bk ?_
    refine lp (fun i68 => mkS 0 [] [vt 0 s, vi 3 i68]) hl71 [] ?_
    rintro i68 oo h hd72
    rw [qPrintable_b1] at h
    refine cd h (fun hc76 h => ?_) (fun hc76 h => ?_)
    ·
      refine bk ?_
      refine jn (fun x => x) (fun x88 => mkS 0 [] [vt 0 s, vi 3 i68, vb 19 x88]) h (fun s89 h g90 => ?_) ?_
      ·
        refine rg ?_
        refine ixS h fun x91 h => ?_
        refine gd h (fun hc96 h => ?_) (fun hc96 h => ?_)
        ·
          cases h
          exact bj _ []
        ·
          refine ixS h fun x97 h => ?_
          cases h
          exact bj _ []
      ·
        intro x88 h
        try dsimp only at h
        refine cd h (fun hc105 h => ?_) (fun hc105 h => ?_)
        ·
          cases h
          cases hd72 _ rfl
          replace h := g70
          try dsimp only at h
          cases h
          exact rt []
        ·
          cases h
          exact bl []
    ·
      cases h
      cases hd72 _ rfl
      replace h := g70
      try dsimp only at h
      exact bj _ []
  ·
    intro _ h
    try dsimp only at h
    cases h
    exact rt []
theorem qClosed_c (N : Nat) (p : (List UInt8)) (vset : (List Int)) (r : ((List UInt8) × (List Int))) (h : qClosed N p vset = some r) : Cx Tryz.prog 118 [sT p, sO 0] [.row (rInt .u8) true vset] [(0, some (.row (rInt .u8) true r.2))] [sT r.1] := by
  unfold qClosed at h
  refine fn tb en118 Tryz.func118 fun X w H ν => ?_
  refine jn (fun x => x) (fun vset165 => mkS 1 [.row (rInt .u8) true vset165] [vo 1 0]) h (fun s169 hl171 g170 => ?_) ?_
  ·
    refine bk ?_
    refine lp (fun ⟨vset158, i162⟩ => mkS 1 [.row (rInt .u8) true vset158] [vt 0 p, vo 1 0, vi 5 i162]) hl171 [0] ?_
    rintro ⟨vset158, i162⟩ oo h hd172
    rw [qClosed_b1] at h
    refine cd h (fun hc176 h => ?_) (fun hc176 h => ?_)
    ·
      refine bk ?_
      refine jn (fun x => x) (fun x196 => mkS 1 [.row (rInt .u8) true vset158] [vt 0 p, vo 1 0, vi 5 i162, vb 22 x196]) h (fun s197 h g198 => ?_) ?_
      ·
        refine rg ?_
        refine ixO h fun x199 h => ?_
        refine ldO ?_
        refine gd h (fun hc211 h => ?_) (fun hc211 h => ?_)
        ·
          refine ixS h fun x212 h => ?_
          cases h
          exact bj _ [0]
        ·
          cases h
          exact bj _ [0]
      ·
        intro x196 h
        try dsimp only at h
        refine cd h (fun hc220 h => ?_) (fun hc220 h => ?_)
        ·
          refine ixO h fun x221 h => ?_
          refine stO true h fun x230 h => ?_
          cases h
          exact bl [0]
        ·
          cases h
          exact bl [0]
    ·
      cases h
      cases hd172 _ rfl
      replace h := g170
      try dsimp only at h
      exact bj _ [0]
  ·
    intro vset165 h
    try dsimp only at h
    refine cvT ?_
    cases h
    exact rt [0]
theorem qStart_c (N : Nat) (t : TTest) (r : (List UInt8)) (h : qStart N t = some r) : Cn Tryz.prog 87 [sA rTTest false t] [] [sT r] := by
  unfold qStart at h
  refine fn tb en87 Tryz.func87 fun X w H ν => ?_
  refine cd h (fun hc6 h => ?_) (fun hc6 h => ?_)
  ·
    refine litO (rInt .u8) true [0] ?_
    refine cvT ?_
    refine sdB h fun _ h => ?_
    cases h
    exact rt []
  ·
    refine mkO (rInt .u8) h fun x20 h => ?_
    refine ixO h fun x35 h => ?_
    refine stO true h fun x41 h => ?_
    refine cl none [1] 0 h (qClosed_c N _ _) fun r57 h => ?_
    cases h
    exact rt []
theorem qStep_c (N : Nat) (t : TTest) (s : (List UInt8)) (c : Int) (r : (List UInt8)) (h : qStep N t s c = some r) : Cn Tryz.prog 88 [sA rTTest false t, sT s, sI .u8 c] [] [sT r] := by
  unfold qStep at h
  refine fn tb en88 Tryz.func88 fun X w H ν => ?_
  refine cd h (fun hc6 h => ?_) (fun hc6 h => ?_)
  ·
    refine mkO (rInt .u8) h fun x8 h => ?_
    refine jn (fun x => x) (fun vset356 => mkS 1 [.row (rInt .u8) true vset356] [vt 7 t.Text, vo 8 0]) h (fun s360 hl362 g361 => ?_) ?_
    ·
      refine bk ?_
      refine lp (fun ⟨vset349, i353⟩ => mkS 1 [.row (rInt .u8) true vset349] [vt 1 s, vk 2 .u8 c, vt 7 t.Text, vo 8 0, vi 9 i353]) hl362 [1] ?_
      rintro ⟨vset349, i353⟩ oo h hd363
      rw [qStep_b1] at h
      refine cd h (fun hc371 h => ?_) (fun hc371 h => ?_)
      ·
        refine bk ?_
        refine jn (fun x => x) (fun x384 => mkS 1 [.row (rInt .u8) true vset349] [vt 1 s, vk 2 .u8 c, vt 7 t.Text, vo 8 0, vi 9 i353, vb 35 x384]) h (fun s385 h g386 => ?_) ?_
        ·
          refine rg ?_
          refine ixS h fun x387 h => ?_
          refine gd h (fun hc392 h => ?_) (fun hc392 h => ?_)
          ·
            refine ixS h fun x393 h => ?_
            cases h
            exact bj _ [0]
          ·
            cases h
            exact bj _ [0]
        ·
          intro x384 h
          try dsimp only at h
          refine jn (fun x => x) (fun vset426 => mkS 1 [.row (rInt .u8) true vset426] [vt 1 s, vk 2 .u8 c, vt 7 t.Text, vo 8 0, vi 9 i353]) h (fun s430 h g431 => ?_) ?_
          ·
            refine cd h (fun hc432 h => ?_) (fun hc432 h => ?_)
            ·
              refine ixO h fun x433 h => ?_
              refine stO true h fun x439 h => ?_
              cases h
              exact bj _ [0]
            ·
              cases h
              exact bj _ [0]
          ·
            intro vset426 h
            try dsimp only at h
            refine jn (fun x => x) (fun x479 => mkS 1 [.row (rInt .u8) true vset426] [vt 1 s, vk 2 .u8 c, vt 7 t.Text, vo 8 0, vi 9 i353, vb 59 x479]) h (fun s480 h g481 => ?_) ?_
            ·
              refine rg ?_
              refine ixS h fun x482 h => ?_
              refine gd h (fun hc487 h => ?_) (fun hc487 h => ?_)
              ·
                refine ixS h fun x488 h => ?_
                refine gd h (fun hc493 h => ?_) (fun hc493 h => ?_)
                ·
                  cases h
                  exact bj _ [0]
                ·
                  refine ixS h fun x494 h => ?_
                  refine gd h (fun hc499 h => ?_) (fun hc499 h => ?_)
                  ·
                    cases h
                    exact bj _ [0]
                  ·
                    cases h
                    exact bj _ [0]
              ·
                cases h
                exact bj _ [0]
            ·
              intro x479 h
              try dsimp only at h
              refine cd h (fun hc503 h => ?_) (fun hc503 h => ?_)
              ·
                refine ixO h fun x504 h => ?_
                refine stO true h fun x510 h => ?_
                cases h
                exact bl [0]
              ·
                cases h
                exact bl [0]
      ·
        cases h
        cases hd363 _ rfl
        replace h := g361
        try dsimp only at h
        exact bj _ [0]
    ·
      intro vset356 h
      try dsimp only at h
      refine cl none [0] 0 h (qClosed_c N _ _) fun r531 h => ?_
      cases h
      exact rt []
  ·
    refine ixS h fun x547 h => ?_
    refine cd h (fun hc552 h => ?_) (fun hc552 h => ?_)
    ·
      cases h
      exact rt []
    ·
      refine ixS h fun x553 h => ?_
      refine jn (fun x => x) (fun x564 => mkS 0 [] [vk 2 .u8 c, vt 7 t.Text, vi 10 (iw (UInt8.toNat x553 : Int)), vb 84 x564]) h (fun s565 h g566 => ?_) ?_
      ·
        refine rg ?_
        refine gd h (fun hc567 h => ?_) (fun hc567 h => ?_)
        ·
          cases h
          exact bj _ []
        ·
          refine ixS h fun x571 h => ?_
          cases h
          exact bj _ []
      ·
        intro x564 h
        try dsimp only at h
        refine cd h (fun hc582 h => ?_) (fun hc582 h => ?_)
        ·
          cases h
          exact rt []
        ·
          refine ixS h fun x583 h => ?_
          refine cd h (fun hc588 h => ?_) (fun hc588 h => ?_)
          ·
            cases h
            exact rt []
          ·
            refine litO (rInt .u8) true [(uw8 (iw ((iw (UInt8.toNat x553 : Int)) + 1)))] ?_
            refine cvT ?_
            refine sdB h fun _ h => ?_
            cases h
            exact rt []
theorem qFinal_c (N : Nat) (t : TTest) (s : (List UInt8)) (r : Bool) (h : qFinal N t s = some r) : Cn Tryz.prog 89 [sA rTTest false t, sT s] [] [sB r] := by
  unfold qFinal at h
  refine fn tb en89 Tryz.func89 fun X w H ν => ?_
  refine jn (fun x => x) (fun ok85 => mkS 1 [.box (Opn.cl rTTest true t)] [vp 2 0, vb 5 ok85]) h (fun s86 h g87 => ?_) ?_
  ·
    refine cd h (fun hc88 h => ?_) (fun hc88 h => ?_)
    ·
      refine ixS h fun x89 h => ?_
      cases h
      exact bj _ [0]
    ·
      refine jn (fun x => x) (fun equal106 => mkS 1 [.box (Opn.cl rTTest true t)] [vt 1 s, vp 2 0, vb 6 equal106]) h (fun s107 h g108 => ?_) ?_
      ·
        refine dr mixed ?_
        refine ixS h fun x109 h => ?_
        refine gd h (fun hc114 h => ?_) (fun hc114 h => ?_)
        ·
          refine ixS h fun x115 h => ?_
          refine dk ?_
          cases h
          exact bj _ [0]
        ·
          refine dk ?_
          cases h
          exact bj _ [0]
      ·
        intro equal106 h
        try dsimp only at h
        refine jn (fun x => x) (fun less136 => mkS 1 [.box (Opn.cl rTTest true t)] [vp 2 0, vb 6 equal106, vb 7 less136]) h (fun s137 h g138 => ?_) ?_
        ·
          refine rg ?_
          refine ixS h fun x139 h => ?_
          refine gd h (fun hc144 h => ?_) (fun hc144 h => ?_)
          ·
            cases h
            exact bj _ [0]
          ·
            refine ixS h fun x145 h => ?_
            refine gd h (fun hc150 h => ?_) (fun hc150 h => ?_)
            ·
              cases h
              exact bj _ [0]
            ·
              cases h
              exact bj _ [0]
        ·
          intro less136 h
          try dsimp only at h
          refine rg ?_
          refine gd h (fun hc154 h => ?_) (fun hc154 h => ?_)
          ·
            refine gd h (fun hc155 h => ?_) (fun hc155 h => ?_)
            ·
              cases h
              exact bj _ [0]
            ·
              refine gd h (fun hc156 h => ?_) (fun hc156 h => ?_)
              ·
                refine gd h (fun hc157 h => ?_) (fun hc157 h => ?_)
                ·
                  cases h
                  exact bj _ [0]
                ·
                  refine gd h (fun hc158 h => ?_) (fun hc158 h => ?_)
                  ·
                    refine bf (eq_false_of_ne_true hc157) ?_
                    cases h
                    exact bj _ [0]
                  ·
                    cases h
                    exact bj _ [0]
              ·
                refine gd h (fun hc159 h => ?_) (fun hc159 h => ?_)
                ·
                  refine gd h (fun hc160 h => ?_) (fun hc160 h => ?_)
                  ·
                    cases h
                    exact bj _ [0]
                  ·
                    cases h
                    exact bj _ [0]
                ·
                  cases h
                  exact bj _ [0]
          ·
            refine gd h (fun hc161 h => ?_) (fun hc161 h => ?_)
            ·
              refine gd h (fun hc162 h => ?_) (fun hc162 h => ?_)
              ·
                cases h
                exact bj _ [0]
              ·
                refine gd h (fun hc163 h => ?_) (fun hc163 h => ?_)
                ·
                  refine bf (eq_false_of_ne_true hc162) ?_
                  cases h
                  exact bj _ [0]
                ·
                  cases h
                  exact bj _ [0]
            ·
              refine gd h (fun hc164 h => ?_) (fun hc164 h => ?_)
              ·
                refine gd h (fun hc165 h => ?_) (fun hc165 h => ?_)
                ·
                  cases h
                  exact bj _ [0]
                ·
                  cases h
                  exact bj _ [0]
              ·
                cases h
                exact bj _ [0]
  ·
    intro ok85 h
    try dsimp only at h
    cases h
    exact rt []
theorem qPasses_c (N : Nat) (t : TTest) (text : (List UInt8)) (r : Bool) (h : qPasses N t text = some r) : Cn Tryz.prog 58 [sA rTTest false t, sT text] [] [sB r] := by
  unfold qPasses at h
  refine fn tb en58 Tryz.func58 fun X w H ν => ?_
  refine cl none [] 0 h (qStart_c N _) fun r6 h => ?_
  refine jn (fun x => x) (fun s53 => mkS 1 [.box (Opn.cl rTTest true t)] [vp 2 0, vt 5 s53]) h (fun s54 hl56 g55 => ?_) ?_
  ·
    refine bk ?_
    refine lp (fun ⟨s50, i51⟩ => mkS 1 [.box (Opn.cl rTTest true t)] [vt 1 text, vp 2 0, vt 5 s50, vi 6 i51]) hl56 [0] ?_
    rintro ⟨s50, i51⟩ oo h hd57
    rw [qPasses_b1] at h
    refine cd h (fun hc61 h => ?_) (fun hc61 h => ?_)
    ·
      refine bk ?_
      refine dr mixed ?_
      refine ixS h fun x62 h => ?_
      refine cl none [] 0 h (qStep_c N _ _ _) fun r67 h => ?_
      refine dk ?_
      cases h
      exact bl [0]
    ·
      cases h
      cases hd57 _ rfl
      replace h := g55
      try dsimp only at h
      exact bj _ [0]
  ·
    intro s53 h
    try dsimp only at h
    refine cl none [] 0 h (qFinal_c N _ _) fun r77 h => ?_
    cases h
    exact rt []
theorem rSatisfies_c (N : Nat) (p : TProb) (texts : (List (List UInt8))) (r : Bool) (h : rSatisfies N p texts = some r) : Cn Tryz.prog 25 [sA rTProb false p, sR rStr false texts] [] [sB r] := by
  unfold rSatisfies at h
  refine fn tb en25 Tryz.func25 fun X w H ν => ?_
  refine cd h (fun hc8 h => ?_) (fun hc8 h => ?_)
  ·
    cases h
    exact rt []
  ·
    refine jn (fun x => (Sum.inl x)) (fun (_ : Unit) => mkS 1 [.box (Opn.cl rTProb false p)] [vr 1 rStr false texts, vp 2 0]) h (fun s345 hl347 g346 => ?_) ?_
    ·
      refine bk ?_
      refine lp (fun i343 => mkS 1 [.box (Opn.cl rTProb false p)] [vr 1 rStr false texts, vp 2 0, vi 5 i343]) hl347 [0] ?_
      rintro i343 oo h hd348
      rw [rSatisfies_b1] at h
      refine cd h (fun hc353 h => ?_) (fun hc353 h => ?_)
      ·
        refine bk ?_
        refine jn (fun x => x) (fun x431 => mkS 1 [.box (Opn.cl rTProb false p)] [vr 1 rStr false texts, vp 2 0, vi 5 i343, vb 52 x431]) h (fun s432 h g433 => ?_) ?_
        ·
          refine dr mixed ?_
          refine ixR h fun x434 h => ?_
          refine ixR h fun x447 h => ?_
          refine gd h (fun hc461 h => ?_) (fun hc461 h => ?_)
          ·
            refine dk ?_
            cases h
            exact bj _ [0]
          ·
            refine ixR h fun x462 h => ?_
            refine ixR h fun x475 h => ?_
            refine gd h (fun hc489 h => ?_) (fun hc489 h => ?_)
            ·
              refine dk ?_
              cases h
              exact bj _ [0]
            ·
              refine ixR h fun x490 h => ?_
              refine cl none [] 0 h (qPrintable_c N _) fun r503 h => ?_
              refine dk ?_
              cases h
              exact bj _ [0]
        ·
          intro x431 h
          try dsimp only at h
          refine cd h (fun hc513 h => ?_) (fun hc513 h => ?_)
          ·
            cases h
            cases hd348 _ rfl
            replace h := g346
            try dsimp only at h
            cases h
            exact rt []
          ·
            cases h
            exact bl [0]
      ·
        cases h
        cases hd348 _ rfl
        replace h := g346
        try dsimp only at h
        exact bj _ [0]
    ·
      intro _ h
      try dsimp only at h
      refine jn (fun x => (Sum.inl x)) (fun (_ : Unit) => mkS 1 [.box (Opn.cl rTProb false p)] [vr 1 rStr false texts, vp 2 0]) h (fun s631 hl633 g632 => ?_) ?_
      ·
        refine bk ?_
        refine lp (fun i629 => mkS 1 [.box (Opn.cl rTProb false p)] [vr 1 rStr false texts, vp 2 0, vi 6 i629]) hl633 [0] ?_
        rintro i629 oo h hd634
        rw [rSatisfies_b2] at h
        refine cd h (fun hc639 h => ?_) (fun hc639 h => ?_)
        ·
          refine bk ?_
          refine dr mixed ?_
          refine ixR h fun x640 h => ?_
          refine ixR h fun x653 h => ?_
          refine ixR h fun x667 h => ?_
          refine cl none [] 0 h (qPasses_c N _ _) fun r681 h => ?_
          refine dk ?_
          refine cd h (fun hc688 h => ?_) (fun hc688 h => ?_)
          ·
            cases h
            cases hd634 _ rfl
            replace h := g632
            try dsimp only at h
            cases h
            exact rt []
          ·
            cases h
            exact bl [0]
        ·
          cases h
          cases hd634 _ rfl
          replace h := g632
          try dsimp only at h
          exact bj _ [0]
      ·
        intro _ h
        try dsimp only at h
        refine jn (fun x => (Sum.inl x)) (fun (_ : Unit) => mkS 1 [.box (Opn.cl rTProb false p)] [vr 1 rStr false texts, vp 2 0]) h (fun s820 hl822 g821 => ?_) ?_
        ·
          refine bk ?_
          refine lp (fun i818 => mkS 1 [.box (Opn.cl rTProb false p)] [vr 1 rStr false texts, vp 2 0, vi 7 i818]) hl822 [0] ?_
          rintro i818 oo h hd823
          rw [rSatisfies_b3] at h
          refine cd h (fun hc828 h => ?_) (fun hc828 h => ?_)
          ·
            refine bk ?_
            refine dr mixed ?_
            refine ixR h fun x829 h => ?_
            refine ixR h fun x843 h => ?_
            refine ixR h fun x857 h => ?_
            refine ixR h fun x871 h => ?_
            refine dk ?_
            refine cd h (fun hc884 h => ?_) (fun hc884 h => ?_)
            ·
              cases h
              cases hd823 _ rfl
              replace h := g821
              try dsimp only at h
              cases h
              exact rt []
            ·
              cases h
              exact bl [0]
          ·
            cases h
            cases hd823 _ rfl
            replace h := g821
            try dsimp only at h
            exact bj _ [0]
        ·
          intro _ h
          try dsimp only at h
          refine jn (fun x => (Sum.inl x)) (fun (_ : Unit) => mkS 0 [] []) h (fun s1015 hl1017 g1016 => ?_) ?_
          ·
            refine bk ?_
            refine lp (fun i1014 => mkS 1 [.box (Opn.cl rTProb false p)] [vr 1 rStr false texts, vp 2 0, vi 8 i1014]) hl1017 [0] ?_
            rintro i1014 oo h hd1018
            rw [rSatisfies_b4] at h
            refine cd h (fun hc1023 h => ?_) (fun hc1023 h => ?_)
            ·
              refine bk ?_
              refine dr mixed ?_
              refine ixR h fun x1024 h => ?_
              refine ixR h fun x1038 h => ?_
              refine ixR h fun x1052 h => ?_
              refine ixR h fun x1066 h => ?_
              refine dk ?_
              refine cd h (fun hc1079 h => ?_) (fun hc1079 h => ?_)
              ·
                cases h
                cases hd1018 _ rfl
                replace h := g1016
                try dsimp only at h
                cases h
                exact rt []
              ·
                cases h
                exact bl [0]
            ·
              cases h
              cases hd1018 _ rfl
              replace h := g1016
              try dsimp only at h
              exact bj _ []
          ·
            intro _ h
            try dsimp only at h
            cases h
            exact rt []
end Go.Proofs.YtcakdidcpoolcaaGreatDoor.SH

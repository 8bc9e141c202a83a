/- Walks of the symbolic machine, written by a program of mine (wip/tool). -/
import Derived.Test.YtcakdidcpoolcaaGreatDoorTB
import Derived.Test.YtcakdidcpoolcaaGreatDoorAd
set_option maxRecDepth 100000
set_option maxHeartbeats 4000000
set_option linter.unusedVariables false
set_option linter.unusedSimpArgs false
namespace Go.Proofs.YtcakdidcpoolcaaGreatDoor.SS
open Go Go.RowKit Go.X Go.Q Go.D Go.Proofs.YtcakdidcpoolcaaGreatDoor.TB 
theorem sAbs_c (N : Nat) (n : Int) (r : Int) (h : sAbs N n = some r) : Cn Tryz.prog 107 [sI .i64 n] [] [sI .i64 r] := by
  unfold sAbs at h
  refine fn tb en107 Tryz.func107 fun X w H ν => ?_
  refine cd h (fun hc1 h => ?_) (fun hc1 h => ?_)
  ·
    cases h
    exact rt []
  ·
    cases h
    exact rt []
theorem sWithin_c (N : Nat) (n : Int) (low : Int) (high : Int) (r : Bool) (h : sWithin N n low high = some r) : Cn Tryz.prog 74 [sI .i64 n, sI .i64 low, sI .i64 high] [] [sB r] := by
  unfold sWithin at h
  refine fn tb en74 Tryz.func74 fun X w H ν => ?_
  refine rg ?_
  refine gd h (fun hc1 h => ?_) (fun hc1 h => ?_)
  ·
    cases h
    exact rt []
  ·
    cases h
    exact rt []
theorem sHas_c (N : Nat) (l : (List Int)) (n : Int) (r : Bool) (h : sHas N l n = some r) : Cn Tryz.prog 106 [sR (rInt .i64) false l, sI .i64 n] [] [sB r] := by
  unfold sHas at h
  refine fn tb en106 Tryz.func106 fun X w H ν => ?_
  refine jn (fun x => (Sum.inl x)) (fun (_ : Unit) => mkS 0 [] []) h (fun s41 hl43 g42 => ?_) ?_
  ·
    refine bk ?_
    refine lp (fun i40 => mkS 0 [] [vr 0 (rInt .i64) false l, vi 1 n, vi 5 i40]) hl43 [] ?_
    rintro i40 oo h hd44
    rw [sHas_b1] at h
    refine cd h (fun hc49 h => ?_) (fun hc49 h => ?_)
    ·
      refine bk ?_
      refine ixR h fun x50 h => ?_
      refine cd h (fun hc63 h => ?_) (fun hc63 h => ?_)
      ·
        cases h
        cases hd44 _ rfl
        replace h := g42
        try dsimp only at h
        cases h
        exact rt []
      ·
        cases h
        exact bl []
    ·
      cases h
      cases hd44 _ rfl
      replace h := g42
      try dsimp only at h
      exact bj _ []
  ·
    intro _ h
    try dsimp only at h
    cases h
    exact rt []
theorem sForm_c (N : Nat) (f : Linear) (c : RClause) (l : (List RVar)) (bounds : (List Int)) (r : Int) (h : sForm N f c l bounds = some r) : Cn Tryz.prog 73 [sA rLinear false f, sA rRClause false c, sR rRVar false l, sR (rInt .i64) false bounds] [] [sI .i64 r] := by
  unfold sForm at h
  refine fn tb en73 Tryz.func73 fun X w H ν => ?_
  refine cl none [] 0 h (sWithin_c N _ _ _) fun r11 h => ?_
  refine cd h (fun hc18 h => ?_) (fun hc18 h => ?_)
  ·
    cases h
    exact rt []
  ·
    refine cl none [] 0 h (sAbs_c N _) fun r19 h => ?_
    refine jn (fun x => (Sum.inl x)) (fun sum646 => mkS 0 [] [vi 9 sum646]) h (fun s647 hl649 g648 => ?_) ?_
    ·
      refine bk ?_
      refine lp (fun ⟨sum644, i645⟩ => mkS 2 [.box (Opn.cl rLinear false f), .box (Opn.cl rRClause false c)] [vr 2 rRVar false l, vr 3 (rInt .i64) false bounds, vp 4 0, vp 5 1, vi 9 sum644, vi 10 i645]) hl649 [0, 1] ?_
      rintro ⟨sum644, i645⟩ oo h hd650
      rw [sForm_b1] at h
      refine cd h (fun hc658 h => ?_) (fun hc658 h => ?_)
      ·
        refine bk ?_
        refine ixR h fun x659 h => ?_
        refine jn (fun x => x) (fun x721 => mkS 3 [.box (Opn.cl rLinear false f), .box (Opn.cl rRClause false c), .box (Opn.cl rCoef true x659)] [vr 2 rRVar false l, vr 3 (rInt .i64) false bounds, vp 4 0, vp 5 1, vi 9 sum644, vi 10 i645, vp 11 2, vb 71 x721]) h (fun s722 h g723 => ?_) ?_
        ·
          refine dr mixed ?_
          refine gd h (fun hc724 h => ?_) (fun hc724 h => ?_)
          ·
            refine dk ?_
            cases h
            exact bj _ [0, 1, 2]
          ·
            refine gd h (fun hc730 h => ?_) (fun hc730 h => ?_)
            ·
              refine dk ?_
              cases h
              exact bj _ [0, 1, 2]
            ·
              refine gd h (fun hc734 h => ?_) (fun hc734 h => ?_)
              ·
                refine ixR h fun x735 h => ?_
                refine gd h (fun hc750 h => ?_) (fun hc750 h => ?_)
                ·
                  refine dk ?_
                  cases h
                  exact bj _ [0, 1, 2]
                ·
                  refine gd h (fun hc754 h => ?_) (fun hc754 h => ?_)
                  ·
                    refine dk ?_
                    cases h
                    exact bj _ [0, 1, 2]
                  ·
                    refine cl none [] 0 h (sWithin_c N _ _ _) fun r758 h => ?_
                    refine dk ?_
                    cases h
                    exact bj _ [0, 1, 2]
              ·
                refine gd h (fun hc768 h => ?_) (fun hc768 h => ?_)
                ·
                  refine dk ?_
                  cases h
                  exact bj _ [0, 1, 2]
                ·
                  refine cl none [] 0 h (sWithin_c N _ _ _) fun r772 h => ?_
                  refine dk ?_
                  cases h
                  exact bj _ [0, 1, 2]
        ·
          intro x721 h
          try dsimp only at h
          refine cd h (fun hc785 h => ?_) (fun hc785 h => ?_)
          ·
            cases h
            cases hd650 _ rfl
            replace h := g648
            try dsimp only at h
            cases h
            exact rt []
          ·
            refine jn (fun x => (Sum.inl x)) (fun b861 => mkS 3 [.box (Opn.cl rLinear false f), .box (Opn.cl rRClause false c), .box (Opn.cl rCoef true x659)] [vr 2 rRVar false l, vr 3 (rInt .i64) false bounds, vp 4 0, vp 5 1, vi 9 sum644, vi 10 i645, vp 11 2, vi 12 b861]) h (fun s862 h g863 => ?_) ?_
            ·
              refine cd h (fun hc864 h => ?_) (fun hc864 h => ?_)
              ·
                refine ixR h fun x865 h => ?_
                cases h
                exact bj _ [0, 1, 2]
              ·
                refine jn (fun x => x) (fun x905 => mkS 3 [.box (Opn.cl rLinear false f), .box (Opn.cl rRClause false c), .box (Opn.cl rCoef true x659)] [vr 2 rRVar false l, vr 3 (rInt .i64) false bounds, vp 4 0, vp 5 1, vi 9 sum644, vi 10 i645, vp 11 2, vi 12 2147483648, vb 99 x905]) h (fun s906 h g907 => ?_) ?_
                ·
                  refine rg ?_
                  refine ixR h fun x908 h => ?_
                  refine gd h (fun hc922 h => ?_) (fun hc922 h => ?_)
                  ·
                    cases h
                    exact bj _ [0, 1, 2]
                  ·
                    refine cl none [] 0 h (sHas_c N _ _) fun r923 h => ?_
                    cases h
                    exact bj _ [0, 1, 2]
                ·
                  intro x905 h
                  try dsimp only at h
                  refine cd h (fun hc934 h => ?_) (fun hc934 h => ?_)
                  ·
                    cases h
                    replace h := g863
                    try dsimp only at h
                    cases h
                    cases hd650 _ rfl
                    replace h := g648
                    try dsimp only at h
                    cases h
                    exact rt []
                  ·
                    cases h
                    exact bj _ [0, 1, 2]
            ·
              intro b861 h
              try dsimp only at h
              refine cl none [] 0 h (sAbs_c N _) fun r938 h => ?_
              refine quB h fun x945 h => ?_
              refine cd h (fun hc949 h => ?_) (fun hc949 h => ?_)
              ·
                cases h
                cases hd650 _ rfl
                replace h := g648
                try dsimp only at h
                cases h
                exact rt []
              ·
                refine cl none [] 0 h (sAbs_c N _) fun r950 h => ?_
                refine cd h (fun hc957 h => ?_) (fun hc957 h => ?_)
                ·
                  cases h
                  cases hd650 _ rfl
                  replace h := g648
                  try dsimp only at h
                  cases h
                  exact rt []
                ·
                  cases h
                  exact bl [0, 1]
      ·
        cases h
        cases hd650 _ rfl
        replace h := g648
        try dsimp only at h
        exact bj _ []
    ·
      intro sum646 h
      try dsimp only at h
      cases h
      exact rt []
theorem sAscending_c (N : Nat) (l : (List Int)) (n : Int) (r : Bool) (h : sAscending N l n = some r) : Cn Tryz.prog 71 [sR (rInt .i64) false l, sI .i64 n] [] [sB r] := by
  unfold sAscending at h
  refine fn tb en71 Tryz.func71 fun X w H ν => ?_
  refine jn (fun x => (Sum.inl x)) (fun (_ : Unit) => mkS 0 [] []) h (fun s247 hl249 g248 => ?_) ?_
  ·
    refine bk ?_
    refine lp (fun i246 => mkS 0 [] [vr 0 (rInt .i64) false l, vi 1 n, vi 5 i246]) hl249 [] ?_
    rintro i246 oo h hd250
    rw [sAscending_b1] at h
    refine cd h (fun hc255 h => ?_) (fun hc255 h => ?_)
    ·
      refine bk ?_
      refine jn (fun x => x) (fun x311 => mkS 0 [] [vr 0 (rInt .i64) false l, vi 1 n, vi 5 i246, vb 40 x311]) h (fun s312 h g313 => ?_) ?_
      ·
        refine dr mixed ?_
        refine ixR h fun x314 h => ?_
        refine gd h (fun hc327 h => ?_) (fun hc327 h => ?_)
        ·
          refine dk ?_
          cases h
          exact bj _ []
        ·
          refine ixR h fun x328 h => ?_
          refine gd h (fun hc341 h => ?_) (fun hc341 h => ?_)
          ·
            refine dk ?_
            cases h
            exact bj _ []
          ·
            refine gd h (fun hc342 h => ?_) (fun hc342 h => ?_)
            ·
              refine ixR h fun x343 h => ?_
              refine ixR h fun x356 h => ?_
              refine dk ?_
              cases h
              exact bj _ []
            ·
              refine dk ?_
              cases h
              exact bj _ []
      ·
        intro x311 h
        try dsimp only at h
        refine cd h (fun hc372 h => ?_) (fun hc372 h => ?_)
        ·
          cases h
          cases hd250 _ rfl
          replace h := g248
          try dsimp only at h
          cases h
          exact rt []
        ·
          cases h
          exact bl []
    ·
      cases h
      cases hd250 _ rfl
      replace h := g248
      try dsimp only at h
      exact bj _ []
  ·
    intro _ h
    try dsimp only at h
    cases h
    exact rt []
theorem sText_c (N : Nat) (pa : Int) (c : RClause) (l : (List RVar)) (r : Bool) (h : sText N pa c l = some r) : Cn Tryz.prog 72 [sI .i64 pa, sA rRClause false c, sR rRVar false l] [] [sB r] := by
  unfold sText at h
  refine fn tb en72 Tryz.func72 fun X w H ν => ?_
  refine rg ?_
  refine gd h (fun hc6 h => ?_) (fun hc6 h => ?_)
  ·
    refine gd h (fun hc8 h => ?_) (fun hc8 h => ?_)
    ·
      refine ixR h fun x9 h => ?_
      refine gd h (fun hc23 h => ?_) (fun hc23 h => ?_)
      ·
        refine cl none [] 0 h (sHas_c N _ _) fun r24 h => ?_
        cases h
        exact rt []
      ·
        cases h
        exact rt []
    ·
      cases h
      exact rt []
  ·
    cases h
    exact rt []
theorem sPairs_c (N : Nat) (p : (List Arr2Int)) (c : RClause) (l : (List RVar)) (r : Bool) (h : sPairs N p c l = some r) : Cn Tryz.prog 76 [sR rArr2Int false p, sA rRClause false c, sR rRVar false l] [] [sB r] := by
  unfold sPairs at h
  refine fn tb en76 Tryz.func76 fun X w H ν => ?_
  refine jn (fun x => (Sum.inl x)) (fun (_ : Unit) => mkS 0 [] []) h (fun s397 hl399 g398 => ?_) ?_
  ·
    refine bk ?_
    refine lp (fun i396 => mkS 1 [.box (Opn.cl rRClause false c)] [vr 0 rArr2Int false p, vr 2 rRVar false l, vp 4 0, vi 7 i396]) hl399 [0] ?_
    rintro i396 oo h hd400
    rw [sPairs_b1] at h
    refine cd h (fun hc405 h => ?_) (fun hc405 h => ?_)
    ·
      refine bk ?_
      refine jn (fun x => x) (fun x497 => mkS 1 [.box (Opn.cl rRClause false c)] [vr 0 rArr2Int false p, vr 2 rRVar false l, vp 4 0, vi 7 i396, vb 46 x497]) h (fun s498 h g499 => ?_) ?_
      ·
        refine dr mixed ?_
        refine ixR h fun x500 h => ?_
        refine cl none [] 0 h (sText_c N _ _ _) fun r514 h => ?_
        refine gd h (fun hc529 h => ?_) (fun hc529 h => ?_)
        ·
          refine dk ?_
          cases h
          exact bj _ [0]
        ·
          refine ixR h fun x530 h => ?_
          refine cl none [] 0 h (sText_c N _ _ _) fun r545 h => ?_
          refine gd h (fun hc560 h => ?_) (fun hc560 h => ?_)
          ·
            refine dk ?_
            cases h
            exact bj _ [0]
          ·
            refine ixR h fun x561 h => ?_
            refine ixR h fun x576 h => ?_
            refine dk ?_
            cases h
            exact bj _ [0]
      ·
        intro x497 h
        try dsimp only at h
        refine cd h (fun hc593 h => ?_) (fun hc593 h => ?_)
        ·
          cases h
          cases hd400 _ rfl
          replace h := g398
          try dsimp only at h
          cases h
          exact rt []
        ·
          cases h
          exact bl [0]
    ·
      cases h
      cases hd400 _ rfl
      replace h := g398
      try dsimp only at h
      exact bj _ []
  ·
    intro _ h
    try dsimp only at h
    cases h
    exact rt []
theorem sTested_c (N : Nat) (t : TTest) (r : Bool) (h : sTested N t = some r) : Cn Tryz.prog 75 [sA rTTest false t] [] [sB r] := by
  unfold sTested at h
  refine fn tb en75 Tryz.func75 fun X w H ν => ?_
  refine jn (fun x => (Sum.inl x)) (fun (_ : Unit) => mkS 1 [.box (Opn.cl rTTest true t)] [vp 1 0]) h (fun s80 hl82 g81 => ?_) ?_
  ·
    refine bk ?_
    refine lp (fun i78 => mkS 1 [.box (Opn.cl rTTest true t)] [vp 1 0, vi 3 i78]) hl82 [0] ?_
    rintro i78 oo h hd83
    rw [sTested_b1] at h
    refine cd h (fun hc87 h => ?_) (fun hc87 h => ?_)
    ·
      refine bk ?_
      refine jn (fun x => x) (fun x100 => mkS 1 [.box (Opn.cl rTTest true t)] [vp 1 0, vi 3 i78, vb 22 x100]) h (fun s101 h g102 => ?_) ?_
      ·
        refine rg ?_
        refine ixS h fun x103 h => ?_
        refine gd h (fun hc108 h => ?_) (fun hc108 h => ?_)
        ·
          cases h
          exact bj _ [0]
        ·
          refine ixS h fun x109 h => ?_
          cases h
          exact bj _ [0]
      ·
        intro x100 h
        try dsimp only at h
        refine cd h (fun hc117 h => ?_) (fun hc117 h => ?_)
        ·
          cases h
          cases hd83 _ rfl
          replace h := g81
          try dsimp only at h
          cases h
          exact rt []
        ·
          cases h
          exact bl [0]
    ·
      cases h
      cases hd83 _ rfl
      replace h := g81
      try dsimp only at h
      exact bj _ [0]
  ·
    intro _ h
    try dsimp only at h
    refine rg ?_
    refine gd h (fun hc121 h => ?_) (fun hc121 h => ?_)
    ·
      refine gd h (fun hc122 h => ?_) (fun hc122 h => ?_)
      ·
        cases h
        exact rt []
      ·
        cases h
        exact rt []
    ·
      cases h
      exact rt []
theorem sValid_c (N : Nat) (c : RClause) (l : (List RVar)) (r : Bool) (h : sValid N c l = some r) : Cn Tryz.prog 37 [sA rRClause false c, sR rRVar false l] [] [sB r] := by
  unfold sValid at h
  refine fn tb en37 Tryz.func37 fun X w H ν => ?_
  refine jn (fun x => x) (fun x26 => mkS 1 [.box (Opn.cl rRClause false c)] [vr 1 rRVar false l, vp 2 0, vb 24 x26]) h (fun s27 h g28 => ?_) ?_
  ·
    refine rg ?_
    refine cl none [] 0 h (sAscending_c N _ _) fun r30 h => ?_
    refine gd h (fun hc38 h => ?_) (fun hc38 h => ?_)
    ·
      cases h
      exact bj _ [0]
    ·
      refine cl none [] 0 h (sAscending_c N _ _) fun r40 h => ?_
      cases h
      exact bj _ [0]
  ·
    intro x26 h
    try dsimp only at h
    refine cd h (fun hc51 h => ?_) (fun hc51 h => ?_)
    ·
      cases h
      exact rt []
    ·
      refine jn (fun x => (Sum.inl x)) (fun bounds476 => mkS 2 [.box (Opn.cl rRClause false c), .row (rInt .i64) true bounds476] [vr 1 rRVar false l, vp 2 0, vo 5 1]) h (fun s480 hl482 g481 => ?_) ?_
      ·
        refine bk ?_
        refine ps (nl 5 (rInt .i64)) ?_
        refine lp (fun ⟨bounds465, i469⟩ => mkS 2 [.box (Opn.cl rRClause false c), .row (rInt .i64) true bounds465] [vr 1 rRVar false l, vp 2 0, vo 5 1, vi 6 i469]) hl482 [0, 1] ?_
        rintro ⟨bounds465, i469⟩ oo h hd483
        rw [sValid_b1] at h
        refine cd h (fun hc496 h => ?_) (fun hc496 h => ?_)
        ·
          refine bk ?_
          refine ixR h fun x497 h => ?_
          refine cd h (fun hc522 h => ?_) (fun hc522 h => ?_)
          ·
            refine jn (fun x => x) (fun x543 => mkS 2 [.box (Opn.cl rRClause false c), .row (rInt .i64) true bounds465] [vr 1 rRVar false l, vp 2 0, vo 5 1, vi 6 i469, vb 58 x543]) h (fun s544 h g545 => ?_) ?_
            ·
              refine rg ?_
              refine gd h (fun hc547 h => ?_) (fun hc547 h => ?_)
              ·
                cases h
                exact bj _ [0, 1]
              ·
                refine gd h (fun hc551 h => ?_) (fun hc551 h => ?_)
                ·
                  cases h
                  exact bj _ [0, 1]
                ·
                  refine cl none [] 0 h (sText_c N _ _ _) fun r555 h => ?_
                  cases h
                  exact bj _ [0, 1]
            ·
              intro x543 h
              try dsimp only at h
              refine cd h (fun hc576 h => ?_) (fun hc576 h => ?_)
              ·
                cases h
                cases hd483 _ rfl
                replace h := g481
                try dsimp only at h
                cases h
                exact rt []
              ·
                refine litO (rInt .i64) true [16] ?_
                refine apO true h fun x585 h => ?_
                cases h
                exact bl [0, 3]
          ·
            refine cl none [] 0 h (sForm_c N _ _ _ _) fun r607 h => ?_
            refine jn (fun x => x) (fun x636 => mkS 3 [.box (Opn.cl rRClause false c), .row (rInt .i64) true bounds465, .box (Opn.cl rRAux false x497)] [vr 1 rRVar false l, vp 2 0, vo 5 1, vi 6 i469, vp 7 2, vi 8 r607, vb 80 x636]) h (fun s637 h g638 => ?_) ?_
            ·
              refine rg ?_
              refine cl none [] 0 h (sWithin_c N _ _ _) fun r639 h => ?_
              refine gd h (fun hc646 h => ?_) (fun hc646 h => ?_)
              ·
                cases h
                exact bj _ [0, 1, 2]
              ·
                refine gd h (fun hc650 h => ?_) (fun hc650 h => ?_)
                ·
                  cases h
                  exact bj _ [0, 1, 2]
                ·
                  cases h
                  exact bj _ [0, 1, 2]
            ·
              intro x636 h
              try dsimp only at h
              refine cd h (fun hc660 h => ?_) (fun hc660 h => ?_)
              ·
                cases h
                cases hd483 _ rfl
                replace h := g481
                try dsimp only at h
                cases h
                exact rt []
              ·
                refine quB h fun x661 h => ?_
                refine litO (rInt .i64) true [(iw (x661 + 1))] ?_
                refine apO true h fun x673 h => ?_
                cases h
                exact bl [0, 4]
        ·
          cases h
          cases hd483 _ rfl
          replace h := g481
          try dsimp only at h
          exact bj _ [0, 1]
      ·
        intro bounds476 h
        try dsimp only at h
        refine jn (fun x => (Sum.inl x)) (fun (_ : Unit) => mkS 1 [.box (Opn.cl rRClause false c)] [vr 1 rRVar false l, vp 2 0]) h (fun s781 hl783 g782 => ?_) ?_
        ·
          refine bk ?_
          refine lp (fun i779 => mkS 2 [.box (Opn.cl rRClause false c), .row (rInt .i64) true bounds476] [vr 1 rRVar false l, vp 2 0, vo 5 1, vi 9 i779]) hl783 [0, 1] ?_
          rintro i779 oo h hd784
          rw [sValid_b2] at h
          refine cd h (fun hc789 h => ?_) (fun hc789 h => ?_)
          ·
            refine bk ?_
            refine dr mixed ?_
            refine ixR h fun x790 h => ?_
            refine cl none [] 0 h (sForm_c N _ _ _ _) fun r806 h => ?_
            refine dk ?_
            refine cd h (fun hc821 h => ?_) (fun hc821 h => ?_)
            ·
              cases h
              cases hd784 _ rfl
              replace h := g782
              try dsimp only at h
              cases h
              exact rt []
            ·
              cases h
              exact bl [0, 1]
          ·
            cases h
            cases hd784 _ rfl
            replace h := g782
            try dsimp only at h
            exact bj _ [0]
        ·
          intro _ h
          try dsimp only at h
          refine jn (fun x => (Sum.inl x)) (fun (_ : Unit) => mkS 1 [.box (Opn.cl rRClause false c)] [vr 1 rRVar false l, vp 2 0]) h (fun s1060 hl1062 g1061 => ?_) ?_
          ·
            refine bk ?_
            refine lp (fun i1058 => mkS 1 [.box (Opn.cl rRClause false c)] [vr 1 rRVar false l, vp 2 0, vi 10 i1058]) hl1062 [0] ?_
            rintro i1058 oo h hd1063
            rw [sValid_b3] at h
            refine cd h (fun hc1068 h => ?_) (fun hc1068 h => ?_)
            ·
              refine bk ?_
              refine jn (fun x => x) (fun x1120 => mkS 1 [.box (Opn.cl rRClause false c)] [vr 1 rRVar false l, vp 2 0, vi 10 i1058, vb 132 x1120]) h (fun s1121 h g1122 => ?_) ?_
              ·
                refine dr mixed ?_
                refine ixR h fun x1123 h => ?_
                refine cl none [] 0 h (sTested_c N _) fun r1136 h => ?_
                refine gd h (fun hc1143 h => ?_) (fun hc1143 h => ?_)
                ·
                  refine dk ?_
                  cases h
                  exact bj _ [0]
                ·
                  refine ixR h fun x1144 h => ?_
                  refine cl none [] 0 h (sText_c N _ _ _) fun r1159 h => ?_
                  refine dk ?_
                  cases h
                  exact bj _ [0]
              ·
                intro x1120 h
                try dsimp only at h
                refine cd h (fun hc1176 h => ?_) (fun hc1176 h => ?_)
                ·
                  cases h
                  cases hd1063 _ rfl
                  replace h := g1061
                  try dsimp only at h
                  cases h
                  exact rt []
                ·
                  cases h
                  exact bl [0]
            ·
              cases h
              cases hd1063 _ rfl
              replace h := g1061
              try dsimp only at h
              exact bj _ [0]
          ·
            intro _ h
            try dsimp only at h
            refine rg ?_
            refine cl none [] 0 h (sPairs_c N _ _ _) fun r1180 h => ?_
            refine gd h (fun hc1195 h => ?_) (fun hc1195 h => ?_)
            ·
              refine cl none [] 0 h (sPairs_c N _ _ _) fun r1196 h => ?_
              cases h
              exact rt []
            ·
              cases h
              exact rt []
theorem sFew_c (N : Nat) (c : RClause) (r : Bool) (h : sFew N c = some r) : Cn Tryz.prog 36 [sA rRClause false c] [] [sB r] := by
  unfold sFew at h
  refine fn tb en36 Tryz.func36 fun X w H ν => ?_
  refine cd h (fun hc13 h => ?_) (fun hc13 h => ?_)
  ·
    cases h
    exact rt []
  ·
    refine jn (fun x => x) (fun n66 => mkS 1 [.box (Opn.cl rRClause false c)] [vp 1 0, vi 3 n66]) h (fun s67 hl69 g68 => ?_) ?_
    ·
      refine bk ?_
      refine lp (fun ⟨n63, i64⟩ => mkS 1 [.box (Opn.cl rRClause false c)] [vp 1 0, vi 3 n63, vi 4 i64]) hl69 [0] ?_
      rintro ⟨n63, i64⟩ oo h hd70
      rw [sFew_b1] at h
      refine cd h (fun hc75 h => ?_) (fun hc75 h => ?_)
      ·
        refine bk ?_
        refine ixR h fun x76 h => ?_
        cases h
        exact bl [0]
      ·
        cases h
        cases hd70 _ rfl
        replace h := g68
        try dsimp only at h
        exact bj _ [0]
    ·
      intro n66 h
      try dsimp only at h
      refine jn (fun x => x) (fun n148 => mkS 1 [.box (Opn.cl rRClause false c)] [vp 1 0, vi 3 n148]) h (fun s149 hl151 g150 => ?_) ?_
      ·
        refine bk ?_
        refine lp (fun ⟨n145, i146⟩ => mkS 1 [.box (Opn.cl rRClause false c)] [vp 1 0, vi 3 n145, vi 5 i146]) hl151 [0] ?_
        rintro ⟨n145, i146⟩ oo h hd152
        rw [sFew_b2] at h
        refine cd h (fun hc157 h => ?_) (fun hc157 h => ?_)
        ·
          refine bk ?_
          refine ixR h fun x158 h => ?_
          cases h
          exact bl [0]
        ·
          cases h
          cases hd152 _ rfl
          replace h := g150
          try dsimp only at h
          exact bj _ [0]
      ·
        intro n148 h
        try dsimp only at h
        refine jn (fun x => (Sum.inl x)) (fun (_ : Unit) => mkS 0 [] [vi 3 n148]) h (fun s223 hl225 g224 => ?_) ?_
        ·
          refine bk ?_
          refine lp (fun i222 => mkS 1 [.box (Opn.cl rRClause false c)] [vp 1 0, vi 3 n148, vi 6 i222]) hl225 [0] ?_
          rintro i222 oo h hd226
          rw [sFew_b3] at h
          refine cd h (fun hc231 h => ?_) (fun hc231 h => ?_)
          ·
            refine bk ?_
            refine ixR h fun x232 h => ?_
            refine cd h (fun hc246 h => ?_) (fun hc246 h => ?_)
            ·
              cases h
              cases hd226 _ rfl
              replace h := g224
              try dsimp only at h
              cases h
              exact rt []
            ·
              cases h
              exact bl [0]
          ·
            cases h
            cases hd226 _ rfl
            replace h := g224
            try dsimp only at h
            exact bj _ []
        ·
          intro _ h
          try dsimp only at h
          cases h
          exact rt []
end Go.Proofs.YtcakdidcpoolcaaGreatDoor.SS

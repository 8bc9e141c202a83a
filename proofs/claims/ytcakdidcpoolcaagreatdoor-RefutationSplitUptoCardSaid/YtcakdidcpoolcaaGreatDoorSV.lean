/- Walks of the symbolic machine, written by a program of mine (wip/tool). -/
import Derived.Test.YtcakdidcpoolcaaGreatDoorTB
import Derived.Test.YtcakdidcpoolcaaGreatDoorAd
import Derived.Test.YtcakdidcpoolcaaGreatDoorAe
import Derived.Test.YtcakdidcpoolcaaGreatDoorSC
import Derived.Test.YtcakdidcpoolcaaGreatDoorSI
import Derived.Test.YtcakdidcpoolcaaGreatDoorST
set_option maxRecDepth 100000
set_option maxHeartbeats 4000000
set_option linter.unusedVariables false
set_option linter.unusedSimpArgs false
namespace Go.Proofs.YtcakdidcpoolcaaGreatDoor.SV
open Go Go.RowKit Go.X Go.Q Go.D Go.Proofs.YtcakdidcpoolcaaGreatDoor.TB Go.Proofs.YtcakdidcpoolcaaGreatDoor.FS Go.Proofs.YtcakdidcpoolcaaGreatDoor.SC Go.Proofs.YtcakdidcpoolcaaGreatDoor.SI Go.Proofs.YtcakdidcpoolcaaGreatDoor.ST
theorem cloneCoef_c (N : Nat) (s : (List Coef)) (r : (List Coef)) (h : cloneCoef N s = some r) : Cn Tryz.prog 42 [sR rCoef false s] [.row rCoef true r] [sO 0] := by
  unfold cloneCoef at h
  refine fn tb en42 Tryz.func42 fun X w H ν => ?_
  refine eqn ?_
  refine cn (fun hnil => ?_) ?_
  ·
    replace h : some [] = some r := by rw [hnil] at h; simpa [apnd] using h
    refine pr (nl 2 rCoef) ?_
    cases h
    exact rt [0]
  ·
    refine litZ rCoef ?_
    refine apO true h fun x16 h => ?_
    cases h
    exact rt [1]
theorem clonePair_c (N : Nat) (s : (List Arr2Int)) (r : (List Arr2Int)) (h : clonePair N s = some r) : Cn Tryz.prog 95 [sR rArr2Int false s] [.row rArr2Int true r] [sO 0] := by
  unfold clonePair at h
  refine fn tb en95 Tryz.func95 fun X w H ν => ?_
  refine eqn ?_
  refine cn (fun hnil => ?_) ?_
  ·
    replace h : some [] = some r := by rw [hnil] at h; simpa [apnd] using h
    refine pr (nl 2 rArr2Int) ?_
    cases h
    exact rt [0]
  ·
    refine litZ rArr2Int ?_
    refine apO true h fun x16 h => ?_
    cases h
    exact rt [1]
theorem vfirst_c (N : Nat) (l : (List RVar)) (r : (List Arr2Int)) (h : vfirst N l = some r) : Cn Tryz.prog 61 [sR rRVar false l] [.row rArr2Int true r] [sO 0] := by
  unfold vfirst at h
  refine fn tb en61 Tryz.func61 fun X w H ν => ?_
  refine mkO rArr2Int h fun x2 h => ?_
  refine jn (fun x => x) (fun out143 => mkS 1 [.row rArr2Int true out143] [vo 3 0]) h (fun s147 hl149 g148 => ?_) ?_
  ·
    refine bk ?_
    refine lp (fun ⟨out136, x140⟩ => mkS 1 [.row rArr2Int true out136] [vo 3 0, vr 9 rRVar false l, vi 10 (List.length l : Int), vi 11 x140]) hl149 [0] ?_
    rintro ⟨out136, x140⟩ oo h hd150
    rw [vfirst_b1] at h
    refine cd h (fun hc155 h => ?_) (fun hc155 h => ?_)
    ·
      refine bk ?_
      refine ixR h fun x156 h => ?_
      refine cd h (fun hc179 h => ?_) (fun hc179 h => ?_)
      ·
        refine dr mixed ?_
        refine ixQ h fun x180 q181 h => ?_
        refine stP h (fun x191 h => ?_) (by assumption)
        refine dk ?_
        cases h
        exact bl [0]
      ·
        cases h
        exact bl [0]
    ·
      cases h
      cases hd150 _ rfl
      replace h := g148
      try dsimp only at h
      exact bj _ [0]
  ·
    intro out143 h
    try dsimp only at h
    cases h
    exact rt [0]
theorem vhigh_c (N : Nat) (l : (List RVar)) (ranges : (List Arr2Int)) (pc : Int) (r : Int) (h : vhigh N l ranges pc = some r) : Cn Tryz.prog 40 [sR rRVar false l, sR rArr2Int false ranges, sI .i64 pc] [] [sI .i64 r] := by
  unfold vhigh at h
  refine fn tb en40 Tryz.func40 fun X w H ν => ?_
  refine dr mixed ?_
  refine ixR h fun x1 h => ?_
  refine ixR h fun x15 h => ?_
  refine dk ?_
  cases h
  exact rt []
theorem vbounds_c (N : Nat) (pa : Int) (low : Int) (high : Int) (r : (List Constraint)) (h : vbounds N pa low high = some r) : Cn Tryz.prog 39 [sI .i64 pa, sI .i64 low, sI .i64 high] [.row rConstraint true r] [sO 0] := by
  unfold vbounds at h
  refine fn tb en39 Tryz.func39 fun X w H ν => ?_
  refine litO rCoef true [(Coef.mk pa (-1))] ?_
  refine litO rCoef true [(Coef.mk pa 1)] ?_
  refine po (fzk 0 [10, 11, 12] []) ?_
  refine po (fzk 1 [17, 18, 19] []) ?_
  refine litO rConstraint true [(Constraint.mk (Linear.mk low [(Coef.mk pa (-1))]) false), (Constraint.mk (Linear.mk (iw (0 - high)) [(Coef.mk pa 1)]) false)] ?_
  cases h
  exact rt [2]
theorem vquotient_c (N : Nat) (q : Int) (pb : Linear) (pc : Int) (r : (List Constraint)) (h : vquotient N q pb pc = some r) : Cn Tryz.prog 41 [sI .i64 q, sA rLinear false pb, sI .i64 pc] [.row rConstraint true r] [sO 0] := by
  unfold vquotient at h
  refine fn tb en41 Tryz.func41 fun X w H ν => ?_
  refine jn (fun x => x) (fun ⟨coefs257, coefs267⟩ => mkS 4 [.box [(lI .i64 (iw (0 - pb.Const))), (.own 1)], .row rCoef true coefs257, .box [(lI .i64 (iw (pb.Const - (iw (pc - 1))))), (.own 3)], .row rCoef true coefs267] [vi 0 q, vi 2 pc, vp 7 0, vp 8 2]) h (fun s271 hl273 g272 => ?_) ?_
  ·
    refine bk ?_
    refine ps (nb 1 1 rCoef) ?_
    refine ps (nb 2 1 rCoef) ?_
    refine lp (fun ⟨coefs236, coefs246, x250⟩ => mkS 4 [.box [(lI .i64 (iw (0 - pb.Const))), (.own 1)], .row rCoef true coefs236, .box [(lI .i64 (iw (pb.Const - (iw (pc - 1))))), (.own 3)], .row rCoef true coefs246] [vi 0 q, vi 2 pc, vp 7 0, vp 8 2, vr 22 rCoef false pb.Coefs, vi 23 (List.length pb.Coefs : Int), vi 24 x250]) hl273 [1, 3, 2, 4] ?_
    rintro ⟨coefs236, coefs246, x250⟩ oo h hd274
    rw [vquotient_b1] at h
    refine cd h (fun hc291 h => ?_) (fun hc291 h => ?_)
    ·
      refine bk ?_
      refine ixR h fun x292 h => ?_
      refine litO rCoef true [(Coef.mk x292.Var (iw (0 - x292.N)))] ?_
      refine apO true h fun x323 h => ?_
      refine litO rCoef true [x292] ?_
      refine apO true h fun x353 h => ?_
      cases h
      exact bl [0, 6, 2, 8]
    ·
      cases h
      cases hd274 _ rfl
      replace h := g272
      try dsimp only at h
      exact bj _ [0, 1, 2, 3]
  ·
    rintro ⟨coefs257, coefs267⟩ h
    try dsimp only at h
    refine litO rCoef true [(Coef.mk q pc)] ?_
    refine apO true h fun x391 h => ?_
    refine litO rCoef true [(Coef.mk q (iw (0 - pc)))] ?_
    refine apO true h fun x421 h => ?_
    refine po (fzk 5 [52, 63, 64] [0]) ?_
    refine po (fzk 7 [61, 65, 66] [2]) ?_
    refine litO rConstraint true [(Constraint.mk (Linear.mk (iw (0 - pb.Const)) x391) false), (Constraint.mk (Linear.mk (iw (pb.Const - (iw (pc - 1)))) x421) false)] ?_
    cases h
    exact rt [8]
theorem vInts_c (N : Nat) (l : (List RVar)) (c : RClause) (ranges : (List Arr2Int)) (r : (Int × (List Constraint))) (h : vInts N l c ranges = some r) : Cn Tryz.prog 12 [sR rRVar false l, sA rRClause false c, sR rArr2Int false ranges] [.row rConstraint true r.2] [sI .i64 r.1, sO 0] := by
  unfold vInts at h
  refine fn tb en12 Tryz.func12 fun X w H ν => ?_
  refine jn (fun x => x) (fun out229 => mkS 2 [.box (Opn.cl rRClause false c), .row rConstraint true out229] [vr 0 rRVar false l, vr 2 rArr2Int false ranges, vp 4 0, vo 8 1]) h (fun s233 hl235 g234 => ?_) ?_
  ·
    refine bk ?_
    refine ps (nl 8 rConstraint) ?_
    refine lp (fun ⟨out218, x222⟩ => mkS 2 [.box (Opn.cl rRClause false c), .row rConstraint true out218] [vr 0 rRVar false l, vr 2 rArr2Int false ranges, vp 4 0, vo 8 1, vr 17 (rInt .i64) false c.NotNull, vi 18 (List.length c.NotNull : Int), vi 19 x222]) hl235 [0, 1] ?_
    rintro ⟨out218, x222⟩ oo h hd236
    rw [vInts_b1] at h
    refine cd h (fun hc248 h => ?_) (fun hc248 h => ?_)
    ·
      refine bk ?_
      refine ixR h fun x249 h => ?_
      refine ixR h fun x263 h => ?_
      refine cd h (fun hc278 h => ?_) (fun hc278 h => ?_)
      ·
        refine dr mixed ?_
        refine ixR h fun x279 h => ?_
        refine ixR h fun x293 h => ?_
        refine cl none [] 1 h (vbounds_c N _ _ _) fun r307 h => ?_
        refine apO true h fun x322 h => ?_
        refine dk ?_
        cases h
        exact bl [0, 3]
      ·
        cases h
        exact bl [0, 1]
    ·
      cases h
      cases hd236 _ rfl
      replace h := g234
      try dsimp only at h
      exact bj _ [0, 1]
  ·
    intro out229 h
    try dsimp only at h
    refine jn (fun x => x) (fun out615 => mkS 2 [.box (Opn.cl rRClause false c), .row rConstraint true out615] [vr 0 rRVar false l, vp 4 0, vo 8 1]) h (fun s619 hl621 g620 => ?_) ?_
    ·
      refine bk ?_
      refine lp (fun ⟨out604, x608⟩ => mkS 2 [.box (Opn.cl rRClause false c), .row rConstraint true out604] [vr 0 rRVar false l, vr 2 rArr2Int false ranges, vp 4 0, vo 8 1, vr 45 rRAux false c.Auxiliary, vi 46 (List.length c.Auxiliary : Int), vi 47 x608]) hl621 [0, 1] ?_
      rintro ⟨out604, x608⟩ oo h hd622
      rw [vInts_b2] at h
      refine cd h (fun hc626 h => ?_) (fun hc626 h => ?_)
      ·
        refine bk ?_
        refine ixR h fun x627 h => ?_
        refine cd h (fun hc654 h => ?_) (fun hc654 h => ?_)
        ·
          refine dr mixed ?_
          refine ixR h fun x655 h => ?_
          refine cl none [] 0 h (vhigh_c N _ _ _) fun r670 h => ?_
          refine cl none [] 1 h (vbounds_c N _ _ _) fun r677 h => ?_
          refine apO true h fun x692 h => ?_
          refine dk ?_
          cases h
          exact bl [0, 4]
        ·
          refine cl none [] 1 h (vquotient_c N _ _ _) fun r713 h => ?_
          refine apO true h fun x729 h => ?_
          cases h
          exact bl [0, 4]
      ·
        cases h
        cases hd622 _ rfl
        replace h := g620
        try dsimp only at h
        exact bj _ [0, 1]
    ·
      intro out615 h
      try dsimp only at h
      refine jn (fun x => x) (fun out946 => mkS 2 [.box (Opn.cl rRClause false c), .row rConstraint true out946] [vr 0 rRVar false l, vp 4 0, vo 8 1]) h (fun s950 hl952 g951 => ?_) ?_
      ·
        refine bk ?_
        refine lp (fun ⟨out935, x939⟩ => mkS 2 [.box (Opn.cl rRClause false c), .row rConstraint true out935] [vr 0 rRVar false l, vp 4 0, vo 8 1, vr 84 rConstraint false c.Ints, vi 85 (List.length c.Ints : Int), vi 86 x939]) hl952 [0, 1] ?_
        rintro ⟨out935, x939⟩ oo h hd953
        rw [vInts_b3] at h
        refine cd h (fun hc957 h => ?_) (fun hc957 h => ?_)
        ·
          refine bk ?_
          refine ixR h fun x958 h => ?_
          refine cl none [] 1 h (cloneCoef_c N _) fun r984 h => ?_
          refine po (fzk 3 [93, 97] [2]) ?_
          refine litO rConstraint true [(Constraint.mk (Linear.mk x958.Linear.Const r984) x958.Equal)] ?_
          refine apO true h fun x1017 h => ?_
          cases h
          exact bl [0, 5]
        ·
          cases h
          cases hd953 _ rfl
          replace h := g951
          try dsimp only at h
          exact bj _ [0, 1]
      ·
        intro out946 h
        try dsimp only at h
        cases h
        exact rt [1]
theorem vTexts_c (N : Nat) (l : (List RVar)) (c : RClause) (ranges : (List Arr2Int)) (r : (TProb × (List Int))) (h : vTexts N l c ranges = some r) : Cn Tryz.prog 15 [sR rRVar false l, sA rRClause false c, sR rArr2Int false ranges] [.row (rInt .i64) true r.2] [sA rTProb true r.1, sO 0] := by
  unfold vTexts at h
  refine fn tb en15 Tryz.func15 fun X w H ν => ?_
  refine mkM inferInstance (fun x : Int => Value.int .i64 x) (fun x : Int => Value.int .i64 x) ?_
  refine jn (fun x => x) (fun ⟨min409, max418, numbers427, place432⟩ => mkS 7 [.box (Opn.cl rRClause false c), .box [lN, lN, lN, lN, lN], .box [(.own 3), (.own 4), lN, lN, lN], .row (rInt .i64) true min409, .row (rInt .i64) true max418, .row (rInt .i64) true numbers427, .map inferInstance ((fun x : Int => Value.int .i64 x)) ((fun x : Int => Value.int .i64 x)) place432] [vp 4 0, vp 6 1, vp 8 2, vo 9 5, vl 10 (.mp 6)]) h (fun s433 hl435 g434 => ?_) ?_
  ·
    refine bk ?_
    refine ps (nb 2 0 (rInt .i64)) ?_
    refine ps (nb 2 1 (rInt .i64)) ?_
    refine ps (nl 9 (rInt .i64)) ?_
    refine lp (fun ⟨min376, max385, numbers394, place399, x400⟩ => mkS 7 [.box (Opn.cl rRClause false c), .box [lN, lN, lN, lN, lN], .box [(.own 3), (.own 4), lN, lN, lN], .row (rInt .i64) true min376, .row (rInt .i64) true max385, .row (rInt .i64) true numbers394, .map inferInstance ((fun x : Int => Value.int .i64 x)) ((fun x : Int => Value.int .i64 x)) place399] [vr 0 rRVar false l, vr 2 rArr2Int false ranges, vp 4 0, vp 6 1, vp 8 2, vo 9 5, vl 10 (.mp 6), vr 21 (rInt .i64) false c.NotNull, vi 22 (List.length c.NotNull : Int), vi 23 x400]) hl435 [0, 1, 2, 4, 5, 6, 3] ?_
    rintro ⟨min376, max385, numbers394, place399, x400⟩ oo h hd436
    rw [vTexts_b1] at h
    refine cd h (fun hc458 h => ?_) (fun hc458 h => ?_)
    ·
      refine bk ?_
      refine ixR h fun x459 h => ?_
      refine ixR h fun x473 h => ?_
      refine cd h (fun hc488 h => ?_) (fun hc488 h => ?_)
      ·
        refine puM x459 (List.length numbers394 : Int) mky_3 ?_
        refine litO (rInt .i64) true [x459] ?_
        refine apO true h fun x501 h => ?_
        refine dr mixed ?_
        refine ixR h fun x519 h => ?_
        refine litO (rInt .i64) true [x519.e0] ?_
        refine apO true h fun x542 h => ?_
        refine dk ?_
        refine dr mixed ?_
        refine cl none [] 0 h (vhigh_c N _ _ _) fun r564 h => ?_
        refine litO (rInt .i64) true [r564] ?_
        refine apO true h fun x581 h => ?_
        refine dk ?_
        cases h
        exact bl [0, 1, 2, 10, 12, 8, 6]
      ·
        cases h
        exact bl [0, 1, 2, 3, 4, 5, 6]
    ·
      cases h
      cases hd436 _ rfl
      replace h := g434
      try dsimp only at h
      exact bj _ [0, 1, 2, 3, 4, 5, 6]
  ·
    rintro ⟨min409, max418, numbers427, place432⟩ h
    try dsimp only at h
    refine jn (fun x => x) (fun tests790 => mkS 8 [.box (Opn.cl rRClause false c), .box [lN, lN, lN, lN, lN], .box [(.own 3), (.own 4), (.own 5), lN, lN], .row (rInt .i64) true min409, .row (rInt .i64) true max418, .row rTTest true tests790, .row (rInt .i64) true numbers427, .map inferInstance ((fun x : Int => Value.int .i64 x)) ((fun x : Int => Value.int .i64 x)) place432] [vp 4 0, vp 6 1, vp 8 2, vo 9 6, vl 10 (.mp 7)]) h (fun s796 hl798 g797 => ?_) ?_
    ·
      refine bk ?_
      refine ps (nb 2 2 rTTest) ?_
      refine lp (fun ⟨tests773, x779⟩ => mkS 8 [.box (Opn.cl rRClause false c), .box [lN, lN, lN, lN, lN], .box [(.own 3), (.own 4), (.own 5), lN, lN], .row (rInt .i64) true min409, .row (rInt .i64) true max418, .row rTTest true tests773, .row (rInt .i64) true numbers427, .map inferInstance ((fun x : Int => Value.int .i64 x)) ((fun x : Int => Value.int .i64 x)) place432] [vp 4 0, vp 6 1, vp 8 2, vo 9 6, vl 10 (.mp 7), vr 62 rTTest false c.Tests, vi 63 (List.length c.Tests : Int), vi 64 x779]) hl798 [0, 1, 2, 3, 4, 7, 5, 6] ?_
      rintro ⟨tests773, x779⟩ oo h hd799
      rw [vTexts_b2] at h
      refine cd h (fun hc811 h => ?_) (fun hc811 h => ?_)
      ·
        refine bk ?_
        refine ixR h fun x812 h => ?_
        refine luN (0 : Int) x812.Var mky_3 (fun _ => rfl) ?_
        refine litO rTTest true [(TTest.mk ((mget place432 x812.Var 0).1) x812.Kind x812.Negated x812.Text)] ?_
        refine apO true h fun x847 h => ?_
        cases h
        exact bl [0, 1, 2, 3, 4, 10, 6, 7]
      ·
        cases h
        cases hd799 _ rfl
        replace h := g797
        try dsimp only at h
        exact bj _ [0, 1, 2, 3, 4, 5, 6, 7]
    ·
      intro tests790 h
      try dsimp only at h
      refine jn (fun x => x) (fun same1050 => mkS 9 [.box (Opn.cl rRClause false c), .box [lN, lN, lN, lN, lN], .box [(.own 3), (.own 4), (.own 5), (.own 6), lN], .row (rInt .i64) true min409, .row (rInt .i64) true max418, .row rTTest true tests790, .row rArr2Int true same1050, .row (rInt .i64) true numbers427, .map inferInstance ((fun x : Int => Value.int .i64 x)) ((fun x : Int => Value.int .i64 x)) place432] [vp 4 0, vp 6 1, vp 8 2, vo 9 7, vl 10 (.mp 8)]) h (fun s1056 hl1058 g1057 => ?_) ?_
      ·
        refine bk ?_
        refine ps (nb 2 3 rArr2Int) ?_
        refine lp (fun ⟨same1032, x1038⟩ => mkS 9 [.box (Opn.cl rRClause false c), .box [lN, lN, lN, lN, lN], .box [(.own 3), (.own 4), (.own 5), (.own 6), lN], .row (rInt .i64) true min409, .row (rInt .i64) true max418, .row rTTest true tests790, .row rArr2Int true same1032, .row (rInt .i64) true numbers427, .map inferInstance ((fun x : Int => Value.int .i64 x)) ((fun x : Int => Value.int .i64 x)) place432] [vp 4 0, vp 6 1, vp 8 2, vo 9 7, vl 10 (.mp 8), vr 81 rArr2Int false c.Same, vi 82 (List.length c.Same : Int), vi 83 x1038]) hl1058 [0, 1, 2, 3, 4, 5, 8, 6, 7] ?_
        rintro ⟨same1032, x1038⟩ oo h hd1059
        rw [vTexts_b3] at h
        refine cd h (fun hc1071 h => ?_) (fun hc1071 h => ?_)
        ·
          refine bk ?_
          refine ixR h fun x1072 h => ?_
          refine luN (0 : Int) x1072.e0 mky_3 (fun _ => rfl) ?_
          refine luN (0 : Int) x1072.e1 mky_3 (fun _ => rfl) ?_
          refine litO rArr2Int true [(Arr2Int.mk ((mget place432 x1072.e0 0).1) ((mget place432 x1072.e1 0).1))] ?_
          refine apO true h fun x1103 h => ?_
          cases h
          exact bl [0, 1, 2, 3, 4, 5, 11, 7, 8]
        ·
          cases h
          cases hd1059 _ rfl
          replace h := g1057
          try dsimp only at h
          exact bj _ [0, 1, 2, 3, 4, 5, 6, 7, 8]
      ·
        intro same1050 h
        try dsimp only at h
        refine jn (fun x => x) (fun different1306 => mkS 8 [.box [lN, lN, lN, lN, lN], .box [(.own 2), (.own 3), (.own 4), (.own 5), (.own 6)], .row (rInt .i64) true min409, .row (rInt .i64) true max418, .row rTTest true tests790, .row rArr2Int true same1050, .row rArr2Int true different1306, .row (rInt .i64) true numbers427] [vp 6 0, vp 8 1, vo 9 7]) h (fun s1311 hl1313 g1312 => ?_) ?_
        ·
          refine bk ?_
          refine ps (nb 2 4 rArr2Int) ?_
          refine lp (fun ⟨different1288, x1294⟩ => mkS 9 [.box [lN, lN, lN, lN, lN], .box [(.own 2), (.own 3), (.own 4), (.own 5), (.own 6)], .row (rInt .i64) true min409, .row (rInt .i64) true max418, .row rTTest true tests790, .row rArr2Int true same1050, .row rArr2Int true different1288, .row (rInt .i64) true numbers427, .map inferInstance ((fun x : Int => Value.int .i64 x)) ((fun x : Int => Value.int .i64 x)) place432] [vp 6 0, vp 8 1, vo 9 7, vl 10 (.mp 8), vr 103 rArr2Int false c.Different, vi 104 (List.length c.Different : Int), vi 105 x1294]) hl1313 [1, 2, 3, 4, 5, 6, 9, 7, 8] ?_
          rintro ⟨different1288, x1294⟩ oo h hd1314
          rw [vTexts_b4] at h
          refine cd h (fun hc1326 h => ?_) (fun hc1326 h => ?_)
          ·
            refine bk ?_
            refine ixR h fun x1327 h => ?_
            refine luN (0 : Int) x1327.e0 mky_3 (fun _ => rfl) ?_
            refine luN (0 : Int) x1327.e1 mky_3 (fun _ => rfl) ?_
            refine litO rArr2Int true [(Arr2Int.mk ((mget place432 x1327.e0 0).1) ((mget place432 x1327.e1 0).1))] ?_
            refine apO true h fun x1358 h => ?_
            cases h
            exact bl [0, 1, 2, 3, 4, 5, 11, 7, 8]
          ·
            cases h
            cases hd1314 _ rfl
            replace h := g1312
            try dsimp only at h
            exact bj _ [0, 1, 2, 3, 4, 5, 6, 7]
        ·
          intro different1306 h
          try dsimp only at h
          cases h
          exact rt [7]
theorem vcheck_c (N : Nat) : ∀ (l : (List RVar)) (c : RClause) (pc : Refut) (ranges : (List Arr2Int)) (r : Bool) (h : vcheck N l c pc ranges = some r), Cn Tryz.prog 60 [sR rRVar false l, sA rRClause false c, sA rRefut false pc, sR rArr2Int false ranges] [] [sB r] := by
  induction N with
  | zero => intro l c pc ranges r h; cases h
  | succ N ih =>
    intro l c pc ranges r h
    replace h : vcheck_step N (vcheck N) l c pc ranges = some r := h
    unfold vcheck_step at h
    refine fn tb en60 Tryz.func60 fun X w H ν => ?_
    refine bk ?_
    refine cd h (fun hc11 h => ?_) (fun hc11 h => ?_)
    ·
      refine rg ?_
      refine cl none [] 0 h (containsOf_c N _ _) fun r12 h => ?_
      refine gd h (fun hc20 h => ?_) (fun hc20 h => ?_)
      ·
        refine cl none [] 0 h (containsOf_c N _ _) fun r21 h => ?_
        refine gd h (fun hc29 h => ?_) (fun hc29 h => ?_)
        ·
          cases h
          exact rt []
        ·
          refine ixR h fun x30 h => ?_
          cases h
          exact rt []
      ·
        cases h
        exact rt []
    ·
      refine cd h (fun hc45 h => ?_) (fun hc45 h => ?_)
      ·
        refine cl none [] 1 h (vTexts_c N _ _ _) fun r46 h => ?_
        refine cl none [] 1 h (tSolve_c N _) fun r94 h => ?_
        cases h
        exact rt []
      ·
        refine cd h (fun hc114 h => ?_) (fun hc114 h => ?_)
        ·
          refine cl none [] 1 h (vInts_c N _ _ _) fun r115 h => ?_
          refine dr mixed ?_
          refine cl none [] 1 h (cSystem_c N _ _) fun r139 h => ?_
          refine cl none [] 0 h (cCheck_c N _ _) fun r154 h => ?_
          refine dk ?_
          cases h
          exact rt []
        ·
          refine cd h (fun hc165 h => ?_) (fun hc165 h => ?_)
          ·
            refine jn (fun x => x) (fun x225 => mkS 2 [.box (Opn.cl rRClause false c), .box (Opn.cl rRefut false pc)] [vr 0 rRVar false l, vr 3 rArr2Int false ranges, vp 5 0, vp 6 1, vi 15 pc.Var, vb 116 x225]) h (fun s226 h g227 => ?_) ?_
            ·
              refine dr mixed ?_
              refine cl none [] 0 h (containsOf_c N _ _) fun r228 h => ?_
              refine gd h (fun hc236 h => ?_) (fun hc236 h => ?_)
              ·
                refine dk ?_
                cases h
                exact bj _ [0, 1]
              ·
                refine ixR h fun x240 h => ?_
                refine gd h (fun hc255 h => ?_) (fun hc255 h => ?_)
                ·
                  refine dk ?_
                  cases h
                  exact bj _ [0, 1]
                ·
                  refine ixR h fun x259 h => ?_
                  refine gd h (fun hc274 h => ?_) (fun hc274 h => ?_)
                  ·
                    refine dk ?_
                    cases h
                    exact bj _ [0, 1]
                  ·
                    refine ixR h fun x278 h => ?_
                    refine gd h (fun hc292 h => ?_) (fun hc292 h => ?_)
                    ·
                      refine dk ?_
                      cases h
                      exact bj _ [0, 1]
                    ·
                      refine dk ?_
                      cases h
                      exact bj _ [0, 1]
            ·
              intro x225 h
              try dsimp only at h
              refine cd h (fun hc303 h => ?_) (fun hc303 h => ?_)
              ·
                cases h
                exact rt []
              ·
                refine cl none [] 1 h (clonePair_c N _) fun r304 h => ?_
                refine cl none [] 1 h (clonePair_c N _) fun r320 h => ?_
                refine dr mixed ?_
                refine ixQ h fun x336 q337 h => ?_
                refine stP h (fun x349 h => ?_) (by assumption)
                refine ixQ h fun x364 q365 h => ?_
                refine stP h (fun x377 h => ?_) (by assumption)
                refine dk ?_
                refine dr mixed ?_
                refine ixR h fun x392 h => ?_
                refine cl none [] 0 h (ih _ _ _ _) fun r416 h => ?_
                refine gd h (fun hc432 h => ?_) (fun hc432 h => ?_)
                ·
                  refine ixR h fun x433 h => ?_
                  refine cl none [] 0 h (ih _ _ _ _) fun r457 h => ?_
                  refine dk ?_
                  cases h
                  exact rt []
                ·
                  refine dk ?_
                  cases h
                  exact rt []
          ·
            cases h
            exact rt []
theorem vCheck_c (N : Nat) (l : (List RVar)) (c : RClause) (pc : Refut) (r : Bool) (h : vCheck N l c pc = some r) : Cn Tryz.prog 29 [sR rRVar false l, sA rRClause false c, sA rRefut false pc] [] [sB r] := by
  unfold vCheck at h
  refine fn tb en29 Tryz.func29 fun X w H ν => ?_
  refine dr mixed ?_
  refine cl none [] 1 h (vfirst_c N _) fun r11 h => ?_
  refine cl none [] 0 h (vcheck_c N _ _ _ _) fun r27 h => ?_
  refine dk ?_
  cases h
  exact rt []
theorem vFormat_c (N : Nat) : ∀ (pa : Refut) (r : (List UInt8)) (h : vFormat N pa = some r), Cn Tryz.prog 33 [sA rRefut false pa] [] [sT r] := by
  induction N with
  | zero => intro pa r h; cases h
  | succ N ih =>
    intro pa r h
    replace h : vFormat_step N (vFormat N) pa = some r := h
    unfold vFormat_step at h
    refine fn tb en33 Tryz.func33 fun X w H ν => ?_
    refine bk ?_
    refine cd h (fun hc6 h => ?_) (fun hc6 h => ?_)
    ·
      refine cl none [] 0 h (fmtI_c N _) fun r7 h => ?_
      refine sdB h fun _ h => ?_
      cases h
      exact rt []
    ·
      refine cd h (fun hc17 h => ?_) (fun hc17 h => ?_)
      ·
        cases h
        exact rt []
      ·
        refine cd h (fun hc18 h => ?_) (fun hc18 h => ?_)
        ·
          refine cl none [] 0 h (cSize_c N _) fun r19 h => ?_
          refine cl none [] 0 h (fmtI_c N _) fun r30 h => ?_
          refine sdB h fun _ h => ?_
          cases h
          exact rt []
        ·
          refine cd h (fun hc40 h => ?_) (fun hc40 h => ?_)
          ·
            refine dr mixed ?_
            refine cl none [] 0 h (fmtI_c N _) fun r46 h => ?_
            refine sdB h fun _ h => ?_
            refine sdB h fun _ h => ?_
            refine cl none [] 0 h (fmtI_c N _) fun r59 h => ?_
            refine sdB h fun _ h => ?_
            cases h
          ·
            cases h
            exact rt []
end Go.Proofs.YtcakdidcpoolcaaGreatDoor.SV

/- Walks of the symbolic machine, written by a program of mine (wip/tool). -/
import Derived.Test.YtcakdidcpoolcaaGreatDoorTB
import Derived.Test.YtcakdidcpoolcaaGreatDoorAd
import Derived.Test.YtcakdidcpoolcaaGreatDoorSB
set_option maxRecDepth 100000
set_option maxHeartbeats 4000000
set_option linter.unusedVariables false
set_option linter.unusedSimpArgs false
namespace Go.Proofs.YtcakdidcpoolcaaGreatDoor.SC
open Go Go.RowKit Go.X Go.Q Go.D Go.Proofs.YtcakdidcpoolcaaGreatDoor.TB Go.Proofs.YtcakdidcpoolcaaGreatDoor.SB
theorem cvalid_c (N : Nat) (c : Constraint) (n : Int) (r : Bool) (h : cvalid N c n = some r) : Cn Tryz.prog 137 [sA rConstraint false c, sI .i64 n] [] [sB r] := by
  unfold cvalid at h
  refine fn tb en137 Tryz.func137 fun X w H ν => ?_
  refine jn (fun x => (Sum.inl x)) (fun (_ : Unit) => mkS 0 [] [vi 1 n]) h (fun s85 hl87 g86 => ?_) ?_
  ·
    refine bk ?_
    refine lp (fun ⟨last83, x84⟩ => mkS 0 [] [vi 1 n, vi 5 last83, vr 10 rCoef false c.Linear.Coefs, vi 11 (List.length c.Linear.Coefs : Int), vi 12 x84]) hl87 [] ?_
    rintro ⟨last83, x84⟩ oo h hd88
    rw [cvalid_b1] at h
    refine cd h (fun hc95 h => ?_) (fun hc95 h => ?_)
    ·
      refine bk ?_
      refine ixR h fun x96 h => ?_
      refine jn (fun x => x) (fun x121 => mkS 1 [.box (Opn.cl rCoef true x96)] [vi 1 n, vp 7 0, vr 10 rCoef false c.Linear.Coefs, vi 11 (List.length c.Linear.Coefs : Int), vi 12 x84, vb 25 x121]) h (fun s122 h g123 => ?_) ?_
      ·
        refine rg ?_
        refine gd h (fun hc124 h => ?_) (fun hc124 h => ?_)
        ·
          cases h
          exact bj _ [0]
        ·
          cases h
          exact bj _ [0]
      ·
        intro x121 h
        try dsimp only at h
        refine cd h (fun hc128 h => ?_) (fun hc128 h => ?_)
        ·
          cases h
          cases hd88 _ rfl
          replace h := g86
          try dsimp only at h
          cases h
          exact rt []
        ·
          cases h
          exact bl []
    ·
      cases h
      cases hd88 _ rfl
      replace h := g86
      try dsimp only at h
      exact bj _ []
  ·
    intro _ h
    try dsimp only at h
    refine rg ?_
    refine gd h (fun hc135 h => ?_) (fun hc135 h => ?_)
    ·
      cases h
      exact rt []
    ·
      cases h
      exact rt []
theorem negated_c (N : Nat) (l : (List Big)) (bound : Big) (r : Ineq) (h : negated N l bound = some r) : Cn Tryz.prog 132 [sR rBig false l, sA rBig false bound] [] [sA rIneq true r] := by
  unfold negated at h
  refine fn tb en132 Tryz.func132 fun X w H ν => ?_
  refine cl none [] 0 h (bNormal_c N _) fun r11 h => ?_
  refine jn (fun x => x) (fun coefs209 => mkS 3 [.box [lN, (lB false), lN], .box [(.own 2), (lB r11.Negative), (.ro (rInt .u32) true r11.Digits)], .row rBig true coefs209] [vp 4 0, vp 5 1]) h (fun s213 hl215 g214 => ?_) ?_
  ·
    refine bk ?_
    refine ps (nb 2 0 rBig) ?_
    refine lp (fun ⟨coefs197, x201⟩ => mkS 3 [.box [lN, (lB false), lN], .box [(.own 2), (lB r11.Negative), (.ro (rInt .u32) true r11.Digits)], .row rBig true coefs197] [vp 4 0, vp 5 1, vr 11 rBig false l, vi 12 (List.length l : Int), vi 13 x201]) hl215 [1, 2, 3] ?_
    rintro ⟨coefs197, x201⟩ oo h hd216
    rw [negated_b1] at h
    refine cd h (fun hc228 h => ?_) (fun hc228 h => ?_)
    ·
      refine bk ?_
      refine ixR h fun x229 h => ?_
      refine dr mixed ?_
      refine cl none [] 0 h (bNeg_c N _) fun r255 h => ?_
      refine litO rBig true [r255] ?_
      refine apO true h fun x273 h => ?_
      refine dk ?_
      cases h
      exact bl [0, 1, 5]
    ·
      cases h
      cases hd216 _ rfl
      replace h := g214
      try dsimp only at h
      exact bj _ [0, 1, 2]
  ·
    intro coefs209 h
    try dsimp only at h
    cases h
    exact rt []
theorem cOf_c (N : Nat) (c : Constraint) (n : Int) (r : (List Ineq)) (h : cOf N c n = some r) : Cn Tryz.prog 138 [sA rConstraint false c, sI .i64 n] [.row rIneq true r] [sO 0] := by
  unfold cOf at h
  refine fn tb en138 Tryz.func138 fun X w H ν => ?_
  refine cl none [] 0 h (cvalid_c N _ _) fun r6 h => ?_
  refine cd h (fun hc14 h => ?_) (fun hc14 h => ?_)
  ·
    refine pr (nl 4 rIneq) ?_
    cases h
    exact rt [1]
  ·
    refine dr mixed ?_
    refine mkO rBig h fun x21 h => ?_
    refine cl none [] 0 h (bOf_c N _) fun r36 h => ?_
    refine cl none [] 0 h (bNeg_c N _) fun r45 h => ?_
    refine dk ?_
    refine jn (fun x => x) (fun coefs206 => mkS 3 [.box (Opn.cl rConstraint false c), .box [(.own 2), (lB r45.Negative), (.ro (rInt .u32) true r45.Digits)], .row rBig true coefs206] [vp 2 0, vp 5 1]) h (fun s210 hl212 g211 => ?_) ?_
    ·
      refine bk ?_
      refine lp (fun ⟨coefs197, x201⟩ => mkS 3 [.box (Opn.cl rConstraint false c), .box [(.own 2), (lB r45.Negative), (.ro (rInt .u32) true r45.Digits)], .row rBig true coefs197] [vp 2 0, vp 5 1, vr 22 rCoef false c.Linear.Coefs, vi 23 (List.length c.Linear.Coefs : Int), vi 24 x201]) hl212 [0, 2, 1] ?_
      rintro ⟨coefs197, x201⟩ oo h hd213
      rw [cOf_b1] at h
      refine cd h (fun hc221 h => ?_) (fun hc221 h => ?_)
      ·
        refine bk ?_
        refine ixR h fun x222 h => ?_
        refine dr mixed ?_
        refine cl none [] 0 h (bOf_c N _) fun r245 h => ?_
        refine ixQ h fun x254 q255 h => ?_
        refine stO true h fun x260 h => ?_
        refine dk ?_
        cases h
        exact bl [0, 1, 2]
      ·
        cases h
        cases hd213 _ rfl
        replace h := g211
        try dsimp only at h
        exact bj _ [0, 1, 2]
    ·
      intro coefs206 h
      try dsimp only at h
      refine cd h (fun hc283 h => ?_) (fun hc283 h => ?_)
      ·
        refine po (fzk 2 [40] [1]) ?_
        refine litO rIneq true [(Ineq.mk coefs206 r45)] ?_
        cases h
        exact rt [3]
      ·
        refine dr mixed ?_
        refine cl none [] 0 h (bOf_c N _) fun r298 h => ?_
        refine cl none [] 0 h (negated_c N _ _) fun r307 h => ?_
        refine po (fzk 2 [42, 44] [1]) ?_
        refine litO rIneq true [(Ineq.mk coefs206 r45), r307] ?_
        refine dk ?_
        cases h
        exact rt [3]
theorem cSystem_c (N : Nat) (l : (List Constraint)) (n : Int) (r : (List Ineq)) (h : cSystem N l n = some r) : Cn Tryz.prog 94 [sR rConstraint false l, sI .i64 n] [.row rIneq true r] [sO 0] := by
  unfold cSystem at h
  refine fn tb en94 Tryz.func94 fun X w H ν => ?_
  refine jn (fun x => (Sum.inl x)) (fun out185 => mkS 1 [.row rIneq true out185] [vo 5 0]) h (fun s189 hl191 g190 => ?_) ?_
  ·
    refine bk ?_
    refine ps (nl 5 rIneq) ?_
    refine lp (fun ⟨out175, x179⟩ => mkS 1 [.row rIneq true out175] [vi 1 n, vo 5 0, vr 8 rConstraint false l, vi 9 (List.length l : Int), vi 10 x179]) hl191 [0] ?_
    rintro ⟨out175, x179⟩ oo h hd192
    rw [cSystem_b1] at h
    refine cd h (fun hc200 h => ?_) (fun hc200 h => ?_)
    ·
      refine bk ?_
      refine ixR h fun x201 h => ?_
      refine cl none [] 0 h (cvalid_c N _ _) fun r227 h => ?_
      refine cd h (fun hc235 h => ?_) (fun hc235 h => ?_)
      ·
        refine pr (nl 4 rIneq) ?_
        cases h
        cases hd192 _ rfl
        replace h := g190
        try dsimp only at h
        cases h
        exact rt [2]
      ·
        refine cl none [] 1 h (cOf_c N _ _) fun r241 h => ?_
        refine apO true h fun x257 h => ?_
        cases h
        exact bl [3]
    ·
      cases h
      cases hd192 _ rfl
      replace h := g190
      try dsimp only at h
      exact bj _ [0]
  ·
    intro out185 h
    try dsimp only at h
    cases h
    exact rt [0]
theorem cloneIneq_c (N : Nat) (s : (List Ineq)) (r : (List Ineq)) (h : cloneIneq N s = some r) : Cn Tryz.prog 128 [sR rIneq false s] [.row rIneq false r] [sO 0] := by
  unfold cloneIneq at h
  refine fn tb en128 Tryz.func128 fun X w H ν => ?_
  refine eqn ?_
  refine cn (fun hnil => ?_) ?_
  ·
    replace h : some [] = some r := by rw [hnil] at h; simpa [apnd] using h
    refine pr (nl 2 rIneq) ?_
    cases h
    exact rt [0]
  ·
    refine litZ rIneq ?_
    refine apO false h fun x16 h => ?_
    cases h
    exact rt [1]
theorem indexIneq_c (N : Nat) (s : (List Ineq)) (f : (Ineq → Option Bool)) (r : Int) (h : indexIneq N s f = some r) : Cx Tryz.prog 158 [sR rIneq false s, .lf (.pd (fnPd Tryz.prog (fun x : Ineq => [sA rIneq false x]) (fun r : Bool => [sB r]) f))] [] [] [sI .i64 r] := by
  unfold indexIneq at h
  refine fn tb en158 Tryz.func158 fun X w H ν => ?_
  refine jn (fun x => (Sum.inl x)) (fun (_ : Unit) => mkS 0 [] []) h (fun s63 hl65 g64 => ?_) ?_
  ·
    refine bk ?_
    refine lp (fun x62 => mkS 0 [] [vr 0 rIneq false s, vl 1 (.pd (fnPd Tryz.prog (fun x : Ineq => [sA rIneq false x]) (fun r : Bool => [sB r]) f)), vi 7 (List.length s : Int), vi 8 x62]) hl65 [] ?_
    rintro x62 oo h hd66
    rw [indexIneq_b1] at h
    refine cd h (fun hc70 h => ?_) (fun hc70 h => ?_)
    ·
      refine bk ?_
      refine ixR h fun x71 h => ?_
      refine cvl (g := f) x71 h fun r89 h => ?_
      refine cd h (fun hc96 h => ?_) (fun hc96 h => ?_)
      ·
        cases h
        cases hd66 _ rfl
        replace h := g64
        try dsimp only at h
        cases h
        exact rt []
      ·
        cases h
        exact bl []
    ·
      cases h
      cases hd66 _ rfl
      replace h := g64
      try dsimp only at h
      exact bj _ []
  ·
    intro _ h
    try dsimp only at h
    cases h
    exact rt []
theorem containsIneq_c (N : Nat) (s : (List Ineq)) (f : (Ineq → Option Bool)) (r : Bool) (h : containsIneq N s f = some r) : Cx Tryz.prog 130 [sR rIneq false s, .lf (.pd (fnPd Tryz.prog (fun x : Ineq => [sA rIneq false x]) (fun r : Bool => [sB r]) f))] [] [] [sB r] := by
  unfold containsIneq at h
  refine fn tb en130 Tryz.func130 fun X w H ν => ?_
  refine cl none [] 0 h (indexIneq_c N _ _) fun r1 h => ?_
  cases h
  exact rt []
theorem width1_c (N : Nat) (q : Ineq) (ca : Int) (r : Bool) (h : width1 N q ca = some r) : Cx Tryz.prog 153 [sA rIneq false q, .lf (.pd (ppPd false [lI .i64 ca]))] [] [] [sB r] := by
  unfold width1 at h
  refine fnv tb (vpp 1) en153 Tryz.func153 fun X w H ν => ?_
  cases h
  exact rt []
theorem cwidth_c (N : Nat) (l : (List Ineq)) (r : (Int × Bool)) (h : cwidth N l = some r) : Cn Tryz.prog 127 [sR rIneq false l] [] [sI .i64 r.1, sB r.2] := by
  unfold cwidth at h
  refine fn tb en127 Tryz.func127 fun X w H ν => ?_
  refine cd h (fun hc1 h => ?_) (fun hc1 h => ?_)
  ·
    cases h
    exact rt []
  ·
    refine ixR h fun x2 h => ?_
    refine ps (fzb 0 4) ?_
    refine dr mixed ?_
    refine mkF (fun x : Ineq => [sA rIneq false x]) (fun r : Bool => [sB r]) (fun x => width1 N x (List.length x2.Coefs : Int)) (fun x r h => width1_c N x (List.length x2.Coefs : Int) r h) en153 ?_
    refine cl none [] 0 h (containsIneq_c N _ _) fun r30 h => ?_
    refine dk ?_
    cases h
    exact rt []
theorem cApply_c (N : Nat) (l : (List Ineq)) (s : Step) (r : (Ineq × Bool)) (h : cApply N l s = some r) : Cn Tryz.prog 129 [sR rIneq false l, sA rStep false s] [] [sA rIneq true r.1, sB r.2] := by
  unfold cApply at h
  refine fn tb en129 Tryz.func129 fun X w H ν => ?_
  refine cl none [] 0 h (cwidth_c N _) fun r11 h => ?_
  refine jn (fun x => x) (fun x30 => mkS 2 [.box (Opn.cl rStep false s), .box [lN, (lB false), lN]] [vr 0 rIneq false l, vp 3 0, vp 4 1, vi 6 r11.1, vb 31 x30]) h (fun s31 h g32 => ?_) ?_
  ·
    refine rg ?_
    refine gd h (fun hc33 h => ?_) (fun hc33 h => ?_)
    ·
      cases h
      exact bj _ [0, 1]
    ·
      refine cl none [] 0 h (bSign_c N _) fun r37 h => ?_
      cases h
      exact bj _ [0, 1]
  ·
    intro x30 h
    try dsimp only at h
    refine cd h (fun hc51 h => ?_) (fun hc51 h => ?_)
    ·
      cases h
      exact rt []
    ·
      refine mkO rBig h fun x57 h => ?_
      refine jn (fun x => (Sum.inl x)) (fun ⟨coefs1010, negative1014, digits1015⟩ => mkS 4 [.box (Opn.cl rStep false s), .box [lN, (lB false), lN], .box [(.own 3), (lB negative1014), (.ro (rInt .u32) true digits1015)], .row rBig true coefs1010] [vp 3 0, vp 4 1, vp 8 2]) h (fun s1018 hl1020 g1019 => ?_) ?_
      ·
        refine bk ?_
        refine lp (fun ⟨coefs996, negative1000, digits1001, x1004⟩ => mkS 4 [.box (Opn.cl rStep false s), .box [lN, (lB false), lN], .box [(.own 3), (lB negative1000), (.ro (rInt .u32) true digits1001)], .row rBig true coefs996] [vr 0 rIneq false l, vp 3 0, vp 4 1, vp 8 2, vr 37 rUse false s.Uses, vi 38 (List.length s.Uses : Int), vi 39 x1004]) hl1020 [0, 1, 3, 2] ?_
        rintro ⟨coefs996, negative1000, digits1001, x1004⟩ oo h hd1021
        rw [cApply_b1] at h
        refine cd h (fun hc1029 h => ?_) (fun hc1029 h => ?_)
        ·
          refine bk ?_
          refine ixR h fun x1030 h => ?_
          refine jn (fun x => x) (fun x1072 => mkS 5 [.box (Opn.cl rStep false s), .box [lN, (lB false), lN], .box [(.own 3), (lB negative1000), (.ro (rInt .u32) true digits1001)], .row rBig true coefs996, .box (Opn.cl rUse false x1030)] [vr 0 rIneq false l, vp 3 0, vp 4 1, vp 8 2, vp 10 4, vr 37 rUse false s.Uses, vi 38 (List.length s.Uses : Int), vi 39 x1004, vb 58 x1072]) h (fun s1073 h g1074 => ?_) ?_
          ·
            refine rg ?_
            refine gd h (fun hc1075 h => ?_) (fun hc1075 h => ?_)
            ·
              cases h
              exact bj _ [0, 1, 2, 3, 4]
            ·
              refine gd h (fun hc1080 h => ?_) (fun hc1080 h => ?_)
              ·
                cases h
                exact bj _ [0, 1, 2, 3, 4]
              ·
                refine cl none [] 0 h (bSign_c N _) fun r1084 h => ?_
                cases h
                exact bj _ [0, 1, 2, 3, 4]
          ·
            intro x1072 h
            try dsimp only at h
            refine cd h (fun hc1098 h => ?_) (fun hc1098 h => ?_)
            ·
              cases h
              cases hd1021 _ rfl
              replace h := g1019
              try dsimp only at h
              cases h
              exact rt []
            ·
              refine ixR h fun x1103 h => ?_
              refine jn (fun x => x) (fun coefs1340 => mkS 6 [.box (Opn.cl rStep false s), .box [lN, (lB false), lN], .box [(.own 3), (lB negative1000), (.ro (rInt .u32) true digits1001)], .row rBig true coefs1340, .box (Opn.cl rUse false x1030), .box (Opn.cl rIneq false x1103)] [vr 0 rIneq false l, vp 3 0, vp 4 1, vp 8 2, vp 10 4, vp 11 5, vr 37 rUse false s.Uses, vi 38 (List.length s.Uses : Int), vi 39 x1004]) h (fun s1346 hl1348 g1347 => ?_) ?_
              ·
                refine bk ?_
                refine lp (fun ⟨coefs1328, x1334⟩ => mkS 6 [.box (Opn.cl rStep false s), .box [lN, (lB false), lN], .box [(.own 3), (lB negative1000), (.ro (rInt .u32) true digits1001)], .row rBig true coefs1328, .box (Opn.cl rUse false x1030), .box (Opn.cl rIneq false x1103)] [vr 0 rIneq false l, vp 3 0, vp 4 1, vp 8 2, vp 10 4, vp 11 5, vr 37 rUse false s.Uses, vi 38 (List.length s.Uses : Int), vi 39 x1004, vr 66 rBig false x1103.Coefs, vi 67 (List.length x1103.Coefs : Int), vi 68 x1334]) hl1348 [0, 1, 2, 3, 4, 5] ?_
                rintro ⟨coefs1328, x1334⟩ oo h hd1349
                rw [cApply_b2] at h
                refine cd h (fun hc1357 h => ?_) (fun hc1357 h => ?_)
                ·
                  refine bk ?_
                  refine ixR h fun x1358 h => ?_
                  refine dr mixed ?_
                  refine ixQ h fun x1384 q1385 h => ?_
                  refine ldO ?_
                  refine cl none [] 0 h (bMul_c N _ _) fun r1397 h => ?_
                  refine cl none [] 0 h (bAdd_c N _ _) fun r1408 h => ?_
                  refine ixQ h fun x1418 q1419 h => ?_
                  refine stO true h fun x1424 h => ?_
                  refine dk ?_
                  cases h
                  exact bl [0, 1, 2, 3, 4, 5]
                ·
                  cases h
                  cases hd1349 _ rfl
                  replace h := g1347
                  try dsimp only at h
                  exact bj _ [0, 1, 2, 3, 4, 5]
              ·
                intro coefs1340 h
                try dsimp only at h
                refine dr mixed ?_
                refine cl none [] 0 h (bMul_c N _ _) fun r1447 h => ?_
                refine cl none [] 0 h (bAdd_c N _ _) fun r1458 h => ?_
                refine dk ?_
                cases h
                exact bl [0, 1, 2, 3]
        ·
          cases h
          cases hd1021 _ rfl
          replace h := g1019
          try dsimp only at h
          exact bj _ [0, 1, 2, 3]
      ·
        rintro ⟨coefs1010, negative1014, digits1015⟩ h
        try dsimp only at h
        refine jn (fun x => (Sum.inl x)) (fun coefs1700 => mkS 4 [.box (Opn.cl rStep false s), .box [lN, (lB false), lN], .box [(.own 3), (lB negative1014), (.ro (rInt .u32) true digits1015)], .row rBig true coefs1700] [vp 3 0, vp 4 1, vp 8 2]) h (fun s1704 hl1706 g1705 => ?_) ?_
        ·
          refine bk ?_
          refine lp (fun ⟨coefs1690, x1694⟩ => mkS 4 [.box (Opn.cl rStep false s), .box [lN, (lB false), lN], .box [(.own 3), (lB negative1014), (.ro (rInt .u32) true digits1015)], .row rBig true coefs1690] [vp 3 0, vp 4 1, vp 8 2, vo 99 3, vi 100 (List.length coefs1010 : Int), vi 101 x1694]) hl1706 [0, 1, 2, 3] ?_
          rintro ⟨coefs1690, x1694⟩ oo h hd1707
          rw [cApply_b3] at h
          refine cd h (fun hc1711 h => ?_) (fun hc1711 h => ?_)
          ·
            refine bk ?_
            refine ixQ h fun x1712 q1713 h => ?_
            refine ldO ?_
            refine cl none [] 0 h (bDivFloor_c N _ _) fun r1734 h => ?_
            refine cl none [] 0 h (bSign_c N _) fun r1767 h => ?_
            refine cd h (fun hc1775 h => ?_) (fun hc1775 h => ?_)
            ·
              cases h
              cases hd1707 _ rfl
              replace h := g1705
              try dsimp only at h
              cases h
              exact rt []
            ·
              refine ixQ h fun x1780 q1781 h => ?_
              refine stO true h fun x1786 h => ?_
              cases h
              exact bl [0, 1, 2, 3]
          ·
            cases h
            cases hd1707 _ rfl
            replace h := g1705
            try dsimp only at h
            exact bj _ [0, 1, 2, 3]
        ·
          intro coefs1700 h
          try dsimp only at h
          refine cl none [] 0 h (bDivFloor_c N _ _) fun r1810 h => ?_
          cases h
          exact rt []
theorem cContradictory_c (N : Nat) (q : Ineq) (r : Bool) (h : cContradictory N q = some r) : Cn Tryz.prog 131 [sA rIneq false q] [] [sB r] := by
  unfold cContradictory at h
  refine fn tb en131 Tryz.func131 fun X w H ν => ?_
  refine jn (fun x => (Sum.inl x)) (fun (_ : Unit) => mkS 1 [.box (Opn.cl rIneq false q)] [vp 1 0]) h (fun s91 hl93 g92 => ?_) ?_
  ·
    refine bk ?_
    refine lp (fun x89 => mkS 1 [.box (Opn.cl rIneq false q)] [vp 1 0, vr 6 rBig false q.Coefs, vi 7 (List.length q.Coefs : Int), vi 8 x89]) hl93 [0] ?_
    rintro x89 oo h hd94
    rw [cContradictory_b1] at h
    refine cd h (fun hc98 h => ?_) (fun hc98 h => ?_)
    ·
      refine bk ?_
      refine ixR h fun x99 h => ?_
      refine cl none [] 0 h (bSign_c N _) fun r125 h => ?_
      refine cd h (fun hc133 h => ?_) (fun hc133 h => ?_)
      ·
        cases h
        cases hd94 _ rfl
        replace h := g92
        try dsimp only at h
        cases h
        exact rt []
      ·
        cases h
        exact bl [0]
    ·
      cases h
      cases hd94 _ rfl
      replace h := g92
      try dsimp only at h
      exact bj _ [0]
  ·
    intro _ h
    try dsimp only at h
    refine cl none [] 0 h (bSign_c N _) fun r140 h => ?_
    cases h
    exact rt []
theorem cCheck_c (N : Nat) : ∀ (l : (List Ineq)) (p : Proof) (r : Bool) (h : cCheck N l p = some r), Cn Tryz.prog 93 [sR rIneq false l, sA rProof false p] [] [sB r] := by
  induction N with
  | zero => intro l p r h; cases h
  | succ N ih =>
    intro l p r h
    replace h : cCheck_step N (cCheck N) l p = some r := h
    unfold cCheck_step at h
    refine fn tb en93 Tryz.func93 fun X w H ν => ?_
    refine cl none [] 0 h (cwidth_c N _) fun r6 h => ?_
    refine cd h (fun hc14 h => ?_) (fun hc14 h => ?_)
    ·
      cases h
      exact rt []
    ·
      refine cl (some false) [] 1 h (cloneIneq_c N _) fun r15 h => ?_
      refine jn (fun x => (Sum.inl x)) (fun e236 => mkS 2 [.box (Opn.cl rProof false p), .row rIneq false e236] [vp 3 0, vo 7 1]) h (fun s240 hl242 g241 => ?_) ?_
      ·
        refine bk ?_
        refine lp (fun ⟨e225, x229⟩ => mkS 2 [.box (Opn.cl rProof false p), .row rIneq false e225] [vp 3 0, vo 7 1, vr 26 rStep false p.Steps, vi 27 (List.length p.Steps : Int), vi 28 x229]) hl242 [0, 1] ?_
        rintro ⟨e225, x229⟩ oo h hd243
        rw [cCheck_b1] at h
        refine cd h (fun hc251 h => ?_) (fun hc251 h => ?_)
        ·
          refine bk ?_
          refine ixR h fun x252 h => ?_
          refine cl none [] 0 h (cApply_c N _ _) fun r281 h => ?_
          refine cd h (fun hc306 h => ?_) (fun hc306 h => ?_)
          ·
            cases h
            cases hd243 _ rfl
            replace h := g241
            try dsimp only at h
            cases h
            exact rt []
          ·
            refine litO rIneq true [r281.1] ?_
            refine apO false h fun x317 h => ?_
            cases h
            exact bl [0, 5]
        ·
          cases h
          cases hd243 _ rfl
          replace h := g241
          try dsimp only at h
          exact bj _ [0, 1]
      ·
        intro e236 h
        try dsimp only at h
        refine bk ?_
        refine cd h (fun hc343 h => ?_) (fun hc343 h => ?_)
        ·
          refine clF none [] 0 h (containsIneq_c N _ _) (.s (.f (fun x : Ineq => [sA rIneq false x]) (fun r : Bool => [sB r]) (fun x => cContradictory N x) (fun x r h => cContradictory_c N x r h) en131 .n)) fun r345 h => ?_
          cases h
          exact rt []
        ·
          refine cd h (fun hc357 h => ?_) (fun hc357 h => ?_)
          ·
            refine cl none [] 0 h (cwidth_c N _) fun r358 h => ?_
            refine jn (fun x => x) (fun x370 => mkS 2 [.box (Opn.cl rProof false p), .row rIneq false e236] [vp 3 0, vo 7 1, vb 68 x370]) h (fun s371 h g372 => ?_) ?_
            ·
              refine rg ?_
              refine gd h (fun hc374 h => ?_) (fun hc374 h => ?_)
              ·
                cases h
                exact bj _ [0, 1]
              ·
                cases h
                exact bj _ [0, 1]
            ·
              intro x370 h
              try dsimp only at h
              refine cd h (fun hc379 h => ?_) (fun hc379 h => ?_)
              ·
                cases h
                exact rt []
              ·
                refine dr mixed ?_
                refine cl none [] 0 h (bNeg_c N _) fun r392 h => ?_
                refine cl none [] 0 h (bOf_c N _) fun r402 h => ?_
                refine cl none [] 0 h (bSub_c N _ _) fun r411 h => ?_
                refine cl none [] 0 h (negated_c N _ _) fun r421 h => ?_
                refine dk ?_
                cases h
          ·
            cases h
            exact rt []
theorem cSize_c (N : Nat) : ∀ (p : Proof) (r : Int) (h : cSize N p = some r), Cn Tryz.prog 65 [sA rProof false p] [] [sI .i64 r] := by
  induction N with
  | zero => intro p r h; cases h
  | succ N ih =>
    intro p r h
    replace h : cSize_step N (cSize N) p = some r := h
    unfold cSize_step at h
    refine fn tb en65 Tryz.func65 fun X w H ν => ?_
    refine jn (fun x => x) (fun n10 => mkS 1 [.box (Opn.cl rProof false p)] [vp 1 0, vi 3 n10]) h (fun s11 h g12 => ?_) ?_
    ·
      refine cd h (fun hc13 h => ?_) (fun hc13 h => ?_)
      ·
        cases h
        exact bj _ [0]
      ·
        cases h
        exact bj _ [0]
    ·
      intro n10 h
      try dsimp only at h
      refine jn (fun x => x) (fun n122 => mkS 0 [] [vi 3 n122]) h (fun s123 hl125 g124 => ?_) ?_
      ·
        refine bk ?_
        refine lp (fun ⟨n120, x121⟩ => mkS 0 [] [vi 3 n120, vr 16 rProof false p.Children, vi 17 (List.length p.Children : Int), vi 18 x121]) hl125 [] ?_
        rintro ⟨n120, x121⟩ oo h hd126
        rw [cSize_b1] at h
        refine cd h (fun hc133 h => ?_) (fun hc133 h => ?_)
        ·
          refine bk ?_
          refine ixR h fun x134 h => ?_
          refine cl none [] 0 h (ih _) fun r169 h => ?_
          cases h
          exact bl []
        ·
          cases h
          cases hd126 _ rfl
          replace h := g124
          try dsimp only at h
          exact bj _ []
      ·
        intro n122 h
        try dsimp only at h
        cases h
        exact rt []
end Go.Proofs.YtcakdidcpoolcaaGreatDoor.SC

/- Walks of the symbolic machine, written by a program of mine (wip/tool). -/
import Derived.Test.YtcakdidcpoolcaaGreatDoorTB
import Derived.Test.YtcakdidcpoolcaaGreatDoorAd
import Derived.Test.YtcakdidcpoolcaaGreatDoorSR
import Derived.Test.YtcakdidcpoolcaaGreatDoorSD
import Derived.Test.YtcakdidcpoolcaaGreatDoorSH
import Derived.Test.YtcakdidcpoolcaaGreatDoorSS
import Derived.Test.YtcakdidcpoolcaaGreatDoorSV
import Derived.Test.YtcakdidcpoolcaaGreatDoorSU
set_option maxRecDepth 100000
set_option maxHeartbeats 4000000
set_option linter.unusedVariables false
set_option linter.unusedSimpArgs false
namespace Go.Proofs.YtcakdidcpoolcaaGreatDoor.SL
open Go Go.RowKit Go.X Go.Q Go.D Go.Proofs.YtcakdidcpoolcaaGreatDoor.TB Go.Proofs.YtcakdidcpoolcaaGreatDoor.SR Go.Proofs.YtcakdidcpoolcaaGreatDoor.SD Go.Proofs.YtcakdidcpoolcaaGreatDoor.SH Go.Proofs.YtcakdidcpoolcaaGreatDoor.SS Go.Proofs.YtcakdidcpoolcaaGreatDoor.SV Go.Proofs.YtcakdidcpoolcaaGreatDoor.SU
theorem lbig_c (N : Nat) (n : Int) (r : Big) (h : lbig N n = some r) : Cn Tryz.prog 21 [sI .i64 n] [] [sA rBig true r] := by
  unfold lbig at h
  refine fn tb en21 Tryz.func21 fun X w H ν => ?_
  refine cl none [] 0 h (rOf_c N _) fun r6 h => ?_
  cases h
  exact rt []
theorem awake_c (N : Nat)  (r : Bool) (h : awake N  = some r) : Cn Tryz.prog 10 [] [] [sB r] := by
  unfold awake at h
  refine fn tb en10 Tryz.func10 fun X w H ν => ?_
  refine litO rRVar true [(RVar.mk 1 (-9) 9 0 false)] ?_
  refine litO (rInt .i64) true [0] ?_
  refine litO rCoef true [(Coef.mk 0 2)] ?_
  refine po (fzk 2 [9, 10, 11] []) ?_
  refine litO rConstraint true [(Constraint.mk (Linear.mk (-5) [(Coef.mk 0 2)]) true)] ?_
  refine cl none [] 0 h (lbig_c N _) fun r47 h => ?_
  refine litO rUse true [(Use.mk 2 r47)] ?_
  refine cl none [] 0 h (lbig_c N _) fun r64 h => ?_
  refine cl none [] 0 h (lbig_c N _) fun r73 h => ?_
  refine litO rUse true [(Use.mk 3 r73)] ?_
  refine cl none [] 0 h (lbig_c N _) fun r90 h => ?_
  refine cl none [] 0 h (lbig_c N _) fun r99 h => ?_
  refine cl none [] 0 h (lbig_c N _) fun r108 h => ?_
  refine litO rUse true [(Use.mk 4 r99), (Use.mk 5 r108)] ?_
  refine cl none [] 0 h (lbig_c N _) fun r126 h => ?_
  refine po (fzk 5 [16, 18] []) ?_
  refine po (fzk 6 [21, 23] []) ?_
  refine po (fzk 7 [28, 30] []) ?_
  refine litO rStep true [(Step.mk [(Use.mk 2 r47)] r64), (Step.mk [(Use.mk 3 r73)] r90), (Step.mk [(Use.mk 4 r99), (Use.mk 5 r108)] r126)] ?_
  refine rg ?_
  refine cl none [] 0 h (vCheck_c N _ _ _) fun r181 h => ?_
  refine gd h (fun hc192 h => ?_) (fun hc192 h => ?_)
  ·
    refine cl none [] 0 h (vFormat_c N _) fun r193 h => ?_
    refine gd h (fun hc201 h => ?_) (fun hc201 h => ?_)
    ·
      refine litO (rInt .i64) true [0] ?_
      refine cl none [] 0 h (vCheck_c N _ _ _) fun r210 h => ?_
      refine gd h (fun hc219 h => ?_) (fun hc219 h => ?_)
      ·
        refine litO (rInt .i64) true [0] ?_
        refine cl none [] 0 h (vCheck_c N _ _ _) fun r228 h => ?_
        cases h
        exact rt []
      ·
        cases h
        exact rt []
    ·
      cases h
      exact rt []
  ·
    cases h
    exact rt []
theorem lright_c (N : Nat) (x : RCase) (r : Bool) (h : lright N x = some r) : Cn Tryz.prog 11 [sA rRCase false x] [] [sB r] := by
  unfold lright at h
  refine fn tb en11 Tryz.func11 fun X w H ν => ?_
  refine rg ?_
  refine cl none [] 0 h (wDomains_c N _) fun r6 h => ?_
  refine gd h (fun hc14 h => ?_) (fun hc14 h => ?_)
  ·
    refine cl none [] 0 h (sFew_c N _) fun r15 h => ?_
    refine gd h (fun hc29 h => ?_) (fun hc29 h => ?_)
    ·
      refine cl none [] 0 h (sValid_c N _ _) fun r30 h => ?_
      refine gd h (fun hc45 h => ?_) (fun hc45 h => ?_)
      ·
        refine cl none [] 0 h (wRight_c N _ _) fun r46 h => ?_
        cases h
        exact rt []
      ·
        cases h
        exact rt []
    ·
      cases h
      exact rt []
  ·
    cases h
    exact rt []
theorem lints_c (N : Nat) (a : (List Int)) (b : (List Int)) (r : Bool) (h : lints N a b = some r) : Cn Tryz.prog 18 [sR (rInt .i64) false a, sR (rInt .i64) false b] [] [sB r] := by
  unfold lints at h
  refine fn tb en18 Tryz.func18 fun X w H ν => ?_
  refine cd h (fun hc1 h => ?_) (fun hc1 h => ?_)
  ·
    cases h
    exact rt []
  ·
    refine jn (fun x => (Sum.inl x)) (fun (_ : Unit) => mkS 0 [] []) h (fun s70 hl72 g71 => ?_) ?_
    ·
      refine bk ?_
      refine lp (fun x69 => mkS 0 [] [vr 0 (rInt .i64) false a, vr 1 (rInt .i64) false b, vi 12 (List.length a : Int), vi 13 x69]) hl72 [] ?_
      rintro x69 oo h hd73
      rw [lints_b1] at h
      refine cd h (fun hc77 h => ?_) (fun hc77 h => ?_)
      ·
        refine bk ?_
        refine dr mixed ?_
        refine ixR h fun x78 h => ?_
        refine ixR h fun x92 h => ?_
        refine dk ?_
        refine cd h (fun hc106 h => ?_) (fun hc106 h => ?_)
        ·
          cases h
          cases hd73 _ rfl
          replace h := g71
          try dsimp only at h
          cases h
          exact rt []
        ·
          cases h
          exact bl []
      ·
        cases h
        cases hd73 _ rfl
        replace h := g71
        try dsimp only at h
        exact bj _ []
    ·
      intro _ h
      try dsimp only at h
      cases h
      exact rt []
theorem ltwos_c (N : Nat) (a : (List Arr2Int)) (b : (List Arr2Int)) (r : Bool) (h : ltwos N a b = some r) : Cn Tryz.prog 48 [sR rArr2Int false a, sR rArr2Int false b] [] [sB r] := by
  unfold ltwos at h
  refine fn tb en48 Tryz.func48 fun X w H ν => ?_
  refine cd h (fun hc1 h => ?_) (fun hc1 h => ?_)
  ·
    cases h
    exact rt []
  ·
    refine jn (fun x => (Sum.inl x)) (fun (_ : Unit) => mkS 0 [] []) h (fun s70 hl72 g71 => ?_) ?_
    ·
      refine bk ?_
      refine lp (fun x69 => mkS 0 [] [vr 0 rArr2Int false a, vr 1 rArr2Int false b, vi 12 (List.length a : Int), vi 13 x69]) hl72 [] ?_
      rintro x69 oo h hd73
      rw [ltwos_b1] at h
      refine cd h (fun hc77 h => ?_) (fun hc77 h => ?_)
      ·
        refine bk ?_
        refine dr mixed ?_
        refine ixR h fun x78 h => ?_
        refine ixR h fun x92 h => ?_
        refine neA eqA2_54 ?_
        refine dk ?_
        refine cd h (fun hc106 h => ?_) (fun hc106 h => ?_)
        ·
          cases h
          cases hd73 _ rfl
          replace h := g71
          try dsimp only at h
          cases h
          exact rt []
        ·
          cases h
          exact bl []
      ·
        cases h
        cases hd73 _ rfl
        replace h := g71
        try dsimp only at h
        exact bj _ []
    ·
      intro _ h
      try dsimp only at h
      cases h
      exact rt []
theorem lproblem_c (N : Nat) (p : TProb) (x : TProb) (r : Bool) (h : lproblem N p x = some r) : Cn Tryz.prog 17 [sA rTProb false p, sA rTProb false x] [] [sB r] := by
  unfold lproblem at h
  refine fn tb en17 Tryz.func17 fun X w H ν => ?_
  refine jn (fun x => x) (fun x55 => mkS 2 [.box (Opn.cl rTProb false p), .box (Opn.cl rTProb false x)] [vp 2 0, vp 3 1, vb 44 x55]) h (fun s56 h g57 => ?_) ?_
  ·
    refine rg ?_
    refine cl none [] 0 h (lints_c N _ _) fun r58 h => ?_
    refine gd h (fun hc67 h => ?_) (fun hc67 h => ?_)
    ·
      cases h
      exact bj _ [0, 1]
    ·
      refine cl none [] 0 h (lints_c N _ _) fun r71 h => ?_
      refine gd h (fun hc80 h => ?_) (fun hc80 h => ?_)
      ·
        cases h
        exact bj _ [0, 1]
      ·
        refine cl none [] 0 h (ltwos_c N _ _) fun r84 h => ?_
        refine gd h (fun hc93 h => ?_) (fun hc93 h => ?_)
        ·
          cases h
          exact bj _ [0, 1]
        ·
          refine cl none [] 0 h (ltwos_c N _ _) fun r97 h => ?_
          refine gd h (fun hc106 h => ?_) (fun hc106 h => ?_)
          ·
            cases h
            exact bj _ [0, 1]
          ·
            cases h
            exact bj _ [0, 1]
  ·
    intro x55 h
    try dsimp only at h
    refine cd h (fun hc118 h => ?_) (fun hc118 h => ?_)
    ·
      cases h
      exact rt []
    ·
      refine jn (fun x => (Sum.inl x)) (fun (_ : Unit) => mkS 0 [] []) h (fun s194 hl196 g195 => ?_) ?_
      ·
        refine bk ?_
        refine lp (fun x193 => mkS 2 [.box (Opn.cl rTProb false p), .box (Opn.cl rTProb false x)] [vp 2 0, vp 3 1, vi 47 (List.length p.Tests : Int), vi 48 x193]) hl196 [0, 1] ?_
        rintro x193 oo h hd197
        rw [lproblem_b1] at h
        refine cd h (fun hc201 h => ?_) (fun hc201 h => ?_)
        ·
          refine bk ?_
          refine dr mixed ?_
          refine ixR h fun x202 h => ?_
          refine ixR h fun x216 h => ?_
          refine neS [.ci .i64 x202.Var x216.Var, .ci .i64 x202.Kind x216.Kind, .cb x202.Negated x216.Negated, .cs x202.Text x216.Text] eqS_112 ?_
          refine dk ?_
          refine cd h (fun hc230 h => ?_) (fun hc230 h => ?_)
          ·
            cases h
            cases hd197 _ rfl
            replace h := g195
            try dsimp only at h
            cases h
            exact rt []
          ·
            cases h
            exact bl [0, 1]
        ·
          cases h
          cases hd197 _ rfl
          replace h := g195
          try dsimp only at h
          exact bj _ []
      ·
        intro _ h
        try dsimp only at h
        cases h
        exact rt []
theorem lawComplete_c (N : Nat) (x : RCase) (r : Bool) (h : lawComplete N x = some r) : Cn Tryz.prog 5 [sA rRCase false x] [] [sB r] := by
  unfold lawComplete at h
  refine fn tb en5 Tryz.func5 fun X w H ν => ?_
  refine jn (fun x => x) (fun x58 => mkS 1 [.box (Opn.cl rRCase false x)] [vp 1 0, vb 41 x58]) h (fun s59 h g60 => ?_) ?_
  ·
    refine rg ?_
    refine cl none [] 0 h (awake_c N) fun r61 h => ?_
    refine gd h (fun hc68 h => ?_) (fun hc68 h => ?_)
    ·
      cases h
      exact bj _ [0]
    ·
      refine cl none [] 0 h (lright_c N _) fun r69 h => ?_
      refine gd h (fun hc86 h => ?_) (fun hc86 h => ?_)
      ·
        cases h
        exact bj _ [0]
      ·
        refine cl none [] 0 h (u16Inside_c N _ _) fun r87 h => ?_
        refine gd h (fun hc96 h => ?_) (fun hc96 h => ?_)
        ·
          cases h
          exact bj _ [0]
        ·
          refine cl none [] 0 h (sHolds_c N _ _) fun r97 h => ?_
          cases h
          exact bj _ [0]
  ·
    intro x58 h
    try dsimp only at h
    refine cd h (fun hc115 h => ?_) (fun hc115 h => ?_)
    ·
      refine cl none [] 0 h (awake_c N) fun r116 h => ?_
      cases h
      exact rt []
    ·
      refine jn (fun x => (Sum.inl x)) (fun values442 => mkS 2 [.box (Opn.cl rRCase false x), .row rBig true values442] [vp 1 0, vo 3 1]) h (fun s446 hl448 g447 => ?_) ?_
      ·
        refine bk ?_
        refine ps (nl 3 rBig) ?_
        refine lp (fun ⟨values431, x435⟩ => mkS 2 [.box (Opn.cl rRCase false x), .row rBig true values431] [vp 1 0, vo 3 1, vr 44 rRVal false x.R, vi 45 (List.length x.R : Int), vi 46 x435]) hl448 [0, 1] ?_
        rintro ⟨values431, x435⟩ oo h hd449
        rw [lawComplete_b1] at h
        refine cd h (fun hc461 h => ?_) (fun hc461 h => ?_)
        ·
          refine bk ?_
          refine ixR h fun x462 h => ?_
          refine jn (fun x => x) (fun x519 => mkS 3 [.box (Opn.cl rRCase false x), .row rBig true values431, .box (Opn.cl rRVal true x462)] [vp 1 0, vo 3 1, vp 5 2, vr 44 rRVal false x.R, vi 45 (List.length x.R : Int), vi 46 x435, vb 77 x519]) h (fun s520 h g521 => ?_) ?_
          ·
            refine dr mixed ?_
            refine gd h (fun hc522 h => ?_) (fun hc522 h => ?_)
            ·
              refine ixR h fun x523 h => ?_
              refine gd h (fun hc538 h => ?_) (fun hc538 h => ?_)
              ·
                refine dk ?_
                cases h
                exact bj _ [0, 1, 2]
              ·
                refine ixR h fun x542 h => ?_
                refine dk ?_
                cases h
                exact bj _ [0, 1, 2]
            ·
              refine dk ?_
              cases h
              exact bj _ [0, 1, 2]
          ·
            intro x519 h
            try dsimp only at h
            refine cd h (fun hc565 h => ?_) (fun hc565 h => ?_)
            ·
              cases h
              cases hd449 _ rfl
              replace h := g447
              try dsimp only at h
              cases h
              exact rt []
            ·
              refine cl none [] 0 h (lbig_c N _) fun r566 h => ?_
              refine litO rBig true [r566] ?_
              refine apO true h fun x583 h => ?_
              cases h
              exact bl [0, 4]
        ·
          cases h
          cases hd449 _ rfl
          replace h := g447
          try dsimp only at h
          exact bj _ [0, 1]
      ·
        intro values442 h
        try dsimp only at h
        refine cl none [] 1 h (sAuxiliary_c N _ _) fun r608 h => ?_
        refine jn (fun x => x) (fun values768 => mkS 2 [.box (Opn.cl rRCase false x), .row rBig true values768] [vp 1 0, vo 3 1]) h (fun s772 hl774 g773 => ?_) ?_
        ·
          refine bk ?_
          refine lp (fun ⟨values756, x761⟩ => mkS 3 [.box (Opn.cl rRCase false x), .row rBig true values756, .row (rInt .i64) true r608.1] [vp 1 0, vo 3 1, vo 93 2, vi 94 (List.length r608.1 : Int), vi 95 x761]) hl774 [0, 1, 2] ?_
          rintro ⟨values756, x761⟩ oo h hd775
          rw [lawComplete_b2] at h
          refine cd h (fun hc783 h => ?_) (fun hc783 h => ?_)
          ·
            refine bk ?_
            refine ixO h fun x784 h => ?_
            refine ldO ?_
            refine cl none [] 0 h (lbig_c N _) fun r797 h => ?_
            refine litO rBig true [r797] ?_
            refine apO true h fun x814 h => ?_
            cases h
            exact bl [0, 4, 2]
          ·
            cases h
            cases hd775 _ rfl
            replace h := g773
            try dsimp only at h
            exact bj _ [0, 1]
        ·
          intro values768 h
          try dsimp only at h
          refine cl none [] 1 h (vInts_c N _ _ _) fun r843 h => ?_
          refine jn (fun x => x) (fun x893 => mkS 1 [.box (Opn.cl rRCase false x)] [vp 1 0, vb 126 x893]) h (fun s894 h g895 => ?_) ?_
          ·
            refine rg ?_
            refine gd h (fun hc897 h => ?_) (fun hc897 h => ?_)
            ·
              cases h
              exact bj _ [0]
            ·
              refine cl none [] 1 h (rSystem_c N _ _) fun r901 h => ?_
              refine cl none [] 0 h (rAll_c N _ _) fun r916 h => ?_
              cases h
              exact bj _ [0]
          ·
            intro x893 h
            try dsimp only at h
            refine cd h (fun hc930 h => ?_) (fun hc930 h => ?_)
            ·
              cases h
              exact rt []
            ·
              refine cl none [] 1 h (vTexts_c N _ _ _) fun r931 h => ?_
              refine jn (fun x => (Sum.inl x)) (fun texts1166 => mkS 4 [.box (Opn.cl rRCase false x), .box (Opn.cl rTProb true r931.1), .row (rInt .i64) true r931.2, .row rStr true texts1166] [vp 1 0, vp 12 1, vo 13 2, vo 14 3]) h (fun s1170 hl1172 g1171 => ?_) ?_
              ·
                refine bk ?_
                refine ps (nl 14 rStr) ?_
                refine lp (fun ⟨texts1153, x1157⟩ => mkS 4 [.box (Opn.cl rRCase false x), .box (Opn.cl rTProb true r931.1), .row (rInt .i64) true r931.2, .row rStr true texts1153] [vp 1 0, vp 12 1, vo 13 2, vo 14 3, vo 137 2, vi 138 (List.length r931.2 : Int), vi 139 x1157]) hl1172 [0, 2, 1, 3] ?_
                rintro ⟨texts1153, x1157⟩ oo h hd1173
                rw [lawComplete_b3] at h
                refine cd h (fun hc1185 h => ?_) (fun hc1185 h => ?_)
                ·
                  refine bk ?_
                  refine ixO h fun x1186 h => ?_
                  refine ldO ?_
                  refine jn (fun x => x) (fun x1205 => mkS 4 [.box (Opn.cl rRCase false x), .box (Opn.cl rTProb true r931.1), .row (rInt .i64) true r931.2, .row rStr true texts1153] [vp 1 0, vp 12 1, vo 13 2, vo 14 3, vi 16 x1186, vo 137 2, vi 138 (List.length r931.2 : Int), vi 139 x1157, vb 151 x1205]) h (fun s1206 h g1207 => ?_) ?_
                  ·
                    refine rg ?_
                    refine gd h (fun hc1208 h => ?_) (fun hc1208 h => ?_)
                    ·
                      cases h
                      exact bj _ [0, 1, 2, 3]
                    ·
                      cases h
                      exact bj _ [0, 1, 2, 3]
                  ·
                    intro x1205 h
                    try dsimp only at h
                    refine cd h (fun hc1213 h => ?_) (fun hc1213 h => ?_)
                    ·
                      cases h
                      cases hd1173 _ rfl
                      replace h := g1171
                      try dsimp only at h
                      cases h
                      exact rt []
                    ·
                      refine ixR h fun x1214 h => ?_
                      refine litO rStr true [x1214.Text] ?_
                      refine apO true h fun x1237 h => ?_
                      cases h
                      exact bl [0, 1, 2, 5]
                ·
                  cases h
                  cases hd1173 _ rfl
                  replace h := g1171
                  try dsimp only at h
                  exact bj _ [0, 1, 2, 3]
              ·
                intro texts1166 h
                try dsimp only at h
                refine cl none [] 1 h (wTexts_c N _ _ _) fun r1262 h => ?_
                refine rg ?_
                refine cl none [] 0 h (lproblem_c N _ _) fun r1310 h => ?_
                refine gd h (fun hc1327 h => ?_) (fun hc1327 h => ?_)
                ·
                  refine cl none [] 0 h (lints_c N _ _) fun r1328 h => ?_
                  refine gd h (fun hc1337 h => ?_) (fun hc1337 h => ?_)
                  ·
                    refine cl none [] 0 h (rSatisfies_c N _ _) fun r1338 h => ?_
                    cases h
                    exact rt []
                  ·
                    cases h
                    exact rt []
                ·
                  cases h
                  exact rt []
end Go.Proofs.YtcakdidcpoolcaaGreatDoor.SL

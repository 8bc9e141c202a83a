/- Walks of the symbolic machine, written by a program of mine (wip/tool). -/
import Derived.Test.YtcakdidcpoolcaaGreatDoorTB
import Derived.Test.YtcakdidcpoolcaaGreatDoorAd
import Derived.Test.YtcakdidcpoolcaaGreatDoorSR
set_option maxRecDepth 100000
set_option maxHeartbeats 4000000
set_option linter.unusedVariables false
set_option linter.unusedSimpArgs false
namespace Go.Proofs.YtcakdidcpoolcaaGreatDoor.SD
open Go Go.RowKit Go.X Go.Q Go.D Go.Proofs.YtcakdidcpoolcaaGreatDoor.TB Go.Proofs.YtcakdidcpoolcaaGreatDoor.SR
theorem rzero_c (N : Nat) (n : Int) (r : Ineq) (h : rzero N n = some r) : Cn Tryz.prog 84 [sI .i64 n] [.row rBig true r.Coefs, .row (rInt .u32) true r.Bound.Digits] [.agg [.own 0, lB r.Bound.Negative, .own 1]] := by
  unfold rzero at h
  refine fn tb en84 Tryz.func84 fun X w H ν => ?_
  refine mkO rBig h fun x7 h => ?_
  refine pr (nb 0 2 (rInt .u32)) ?_
  cases h
  exact rt [1, 2]
theorem rRight_c (N : Nat) (c : Constraint) (n : Int) (r : Bool) (h : rRight N c n = some r) : Cn Tryz.prog 55 [sA rConstraint false c, sI .i64 n] [] [sB r] := by
  unfold rRight at h
  refine fn tb en55 Tryz.func55 fun X w H ν => ?_
  refine jn (fun x => (Sum.inl x)) (fun (_ : Unit) => mkS 0 [] [vi 1 n]) h (fun s133 hl135 g134 => ?_) ?_
  ·
    refine bk ?_
    refine lp (fun i132 => mkS 1 [.box (Opn.cl rConstraint false c)] [vi 1 n, vp 2 0, vi 5 i132]) hl135 [0] ?_
    rintro i132 oo h hd136
    rw [rRight_b1] at h
    refine cd h (fun hc141 h => ?_) (fun hc141 h => ?_)
    ·
      refine bk ?_
      refine ixR h fun x142 h => ?_
      refine jn (fun x => x) (fun x174 => mkS 1 [.box (Opn.cl rConstraint false c)] [vi 1 n, vp 2 0, vi 5 i132, vb 44 x174]) h (fun s175 h g176 => ?_) ?_
      ·
        refine rg ?_
        refine gd h (fun hc177 h => ?_) (fun hc177 h => ?_)
        ·
          cases h
          exact bj _ [0]
        ·
          refine gd h (fun hc178 h => ?_) (fun hc178 h => ?_)
          ·
            cases h
            exact bj _ [0]
          ·
            refine gd h (fun hc179 h => ?_) (fun hc179 h => ?_)
            ·
              refine ixR h fun x180 h => ?_
              cases h
              exact bj _ [0]
            ·
              cases h
              exact bj _ [0]
      ·
        intro x174 h
        try dsimp only at h
        refine cd h (fun hc197 h => ?_) (fun hc197 h => ?_)
        ·
          cases h
          cases hd136 _ rfl
          replace h := g134
          try dsimp only at h
          cases h
          exact rt []
        ·
          cases h
          exact bl [0]
    ·
      cases h
      cases hd136 _ rfl
      replace h := g134
      try dsimp only at h
      exact bj _ []
  ·
    intro _ h
    try dsimp only at h
    refine rg ?_
    refine gd h (fun hc204 h => ?_) (fun hc204 h => ?_)
    ·
      cases h
      exact rt []
    ·
      cases h
      exact rt []
theorem rflip_c (N : Nat) (q : Ineq) (bound : Big) (r : Ineq) (h : rflip N q bound = some r) : Cn Tryz.prog 86 [sA rIneq false q, sA rBig false bound] [] [sA rIneq true r] := by
  unfold rflip at h
  refine fn tb en86 Tryz.func86 fun X w H ν => ?_
  refine cl none [] 0 h (rNormal_c N _) fun r16 h => ?_
  refine jn (fun x => x) (fun coefs194 => mkS 3 [.box [lN, (lB false), lN], .box [(.own 2), (lB r16.Negative), (.ro (rInt .u32) true r16.Digits)], .row rBig true coefs194] [vp 4 0, vp 5 1]) h (fun s198 hl200 g199 => ?_) ?_
  ·
    refine bk ?_
    refine ps (nb 3 0 rBig) ?_
    refine lp (fun ⟨coefs182, i186⟩ => mkS 4 [.box (Opn.cl rIneq false q), .box [lN, (lB false), lN], .box [(.own 3), (lB r16.Negative), (.ro (rInt .u32) true r16.Digits)], .row rBig true coefs182] [vp 2 0, vp 4 1, vp 5 2, vi 6 i186]) hl200 [0, 2, 3, 4] ?_
    rintro ⟨coefs182, i186⟩ oo h hd201
    rw [rflip_b1] at h
    refine cd h (fun hc214 h => ?_) (fun hc214 h => ?_)
    ·
      refine bk ?_
      refine dr mixed ?_
      refine ixR h fun x215 h => ?_
      refine cl none [] 0 h (rNeg_c N _) fun r230 h => ?_
      refine litO rBig true [r230] ?_
      refine apO true h fun x247 h => ?_
      refine dk ?_
      cases h
      exact bl [0, 1, 2, 5]
    ·
      cases h
      cases hd201 _ rfl
      replace h := g199
      try dsimp only at h
      exact bj _ [1, 2, 3]
  ·
    intro coefs194 h
    try dsimp only at h
    cases h
    exact rt []
theorem rIOf_c (N : Nat) (c : Constraint) (n : Int) (r : (List Ineq)) (h : rIOf N c n = some r) : Cn Tryz.prog 56 [sA rConstraint false c, sI .i64 n] [.row rIneq true r] [sO 0] := by
  unfold rIOf at h
  refine fn tb en56 Tryz.func56 fun X w H ν => ?_
  refine cl none [] 0 h (rRight_c N _ _) fun r6 h => ?_
  refine cd h (fun hc14 h => ?_) (fun hc14 h => ?_)
  ·
    refine pr (nl 4 rIneq) ?_
    cases h
    exact rt [1]
  ·
    refine cl none [] 2 h (rzero_c N _) fun r20 h => ?_
    refine jn (fun x => x) (fun coefs211 => mkS 4 [.box (Opn.cl rConstraint false c), .box [(.own 2), (lB r20.Bound.Negative), (.own 3)], .row rBig true coefs211, .row (rInt .u32) true r20.Bound.Digits] [vp 2 0, vp 5 1]) h (fun s216 hl218 g217 => ?_) ?_
    ·
      refine bk ?_
      refine lp (fun ⟨coefs201, i206⟩ => mkS 4 [.box (Opn.cl rConstraint false c), .box [(.own 2), (lB r20.Bound.Negative), (.own 3)], .row rBig true coefs201, .row (rInt .u32) true r20.Bound.Digits] [vp 2 0, vp 5 1, vi 6 i206]) hl218 [0, 3, 1, 2] ?_
      rintro ⟨coefs201, i206⟩ oo h hd219
      rw [rIOf_b1] at h
      refine cd h (fun hc228 h => ?_) (fun hc228 h => ?_)
      ·
        refine bk ?_
        refine dr mixed ?_
        refine ixR h fun x229 h => ?_
        refine ixR h fun x243 h => ?_
        refine cl none [] 0 h (rOf_c N _) fun r257 h => ?_
        refine ixQ h fun x266 q267 h => ?_
        refine stO true h fun x275 h => ?_
        refine dk ?_
        cases h
        exact bl [0, 1, 2, 3]
      ·
        cases h
        cases hd219 _ rfl
        replace h := g217
        try dsimp only at h
        exact bj _ [0, 1, 2, 3]
    ·
      intro coefs211 h
      try dsimp only at h
      refine cl none [] 0 h (rOf_c N _) fun r294 h => ?_
      refine cl none [] 0 h (rNeg_c N _) fun r313 h => ?_
      refine cd h (fun hc327 h => ?_) (fun hc327 h => ?_)
      ·
        refine po (fzk 2 [50] [1]) ?_
        refine litO rIneq true [(Ineq.mk coefs211 r313)] ?_
        cases h
        exact rt [5]
      ·
        refine dr mixed ?_
        refine cl none [] 0 h (rflip_c N _ _) fun r343 h => ?_
        refine po (fzk 2 [52, 53] [1]) ?_
        refine litO rIneq true [(Ineq.mk coefs211 r313), r343] ?_
        refine dk ?_
        cases h
        exact rt [5]
theorem rSystem_c (N : Nat) (l : (List Constraint)) (n : Int) (r : (List Ineq)) (h : rSystem N l n = some r) : Cn Tryz.prog 24 [sR rConstraint false l, sI .i64 n] [.row rIneq true r] [sO 0] := by
  unfold rSystem at h
  refine fn tb en24 Tryz.func24 fun X w H ν => ?_
  refine litZ rIneq ?_
  refine jn (fun x => (Sum.inl x)) (fun out198 => mkS 1 [.row rIneq true out198] [vo 5 0]) h (fun s202 hl204 g203 => ?_) ?_
  ·
    refine bk ?_
    refine lp (fun ⟨out188, i192⟩ => mkS 1 [.row rIneq true out188] [vr 0 rConstraint false l, vi 1 n, vo 5 0, vi 6 i192]) hl204 [0] ?_
    rintro ⟨out188, i192⟩ oo h hd205
    rw [rSystem_b1] at h
    refine cd h (fun hc211 h => ?_) (fun hc211 h => ?_)
    ·
      refine bk ?_
      refine ixR h fun x212 h => ?_
      refine cl none [] 0 h (rRight_c N _ _) fun r227 h => ?_
      refine cd h (fun hc234 h => ?_) (fun hc234 h => ?_)
      ·
        refine pr (nl 4 rIneq) ?_
        cases h
        cases hd205 _ rfl
        replace h := g203
        try dsimp only at h
        cases h
        exact rt [1]
      ·
        refine ixR h fun x240 h => ?_
        refine cl none [] 1 h (rIOf_c N _ _) fun r256 h => ?_
        refine apO true h fun x271 h => ?_
        cases h
        exact bl [2]
    ·
      cases h
      cases hd205 _ rfl
      replace h := g203
      try dsimp only at h
      exact bj _ [0]
  ·
    intro out198 h
    try dsimp only at h
    cases h
    exact rt [0]
theorem rHolds_c (N : Nat) (q : Ineq) (x : (List Big)) (r : Bool) (h : rHolds N q x = some r) : Cn Tryz.prog 54 [sA rIneq false q, sR rBig false x] [] [sB r] := by
  unfold rHolds at h
  refine fn tb en54 Tryz.func54 fun X w H ν => ?_
  refine cd h (fun hc8 h => ?_) (fun hc8 h => ?_)
  ·
    cases h
    exact rt []
  ·
    refine jn (fun x => x) (fun ⟨negative153, digits154⟩ => mkS 2 [.box (Opn.cl rIneq false q), .box [(lB negative153), (.ro (rInt .u32) true digits154)]] [vp 2 0, vp 5 1]) h (fun s157 hl159 g158 => ?_) ?_
    ·
      refine bk ?_
      refine lp (fun ⟨negative146, digits147, i150⟩ => mkS 2 [.box (Opn.cl rIneq false q), .box [(lB negative146), (.ro (rInt .u32) true digits147)]] [vr 1 rBig false x, vp 2 0, vp 5 1, vi 6 i150]) hl159 [0, 1] ?_
      rintro ⟨negative146, digits147, i150⟩ oo h hd160
      rw [rHolds_b1] at h
      refine cd h (fun hc168 h => ?_) (fun hc168 h => ?_)
      ·
        refine bk ?_
        refine dr mixed ?_
        refine ixR h fun x169 h => ?_
        refine ixR h fun x185 h => ?_
        refine cl none [] 0 h (rMul_c N _ _) fun r200 h => ?_
        refine cl none [] 0 h (rAdd_c N _ _) fun r209 h => ?_
        refine dk ?_
        cases h
        exact bl [0, 1]
      ·
        cases h
        cases hd160 _ rfl
        replace h := g158
        try dsimp only at h
        exact bj _ [0, 1]
    ·
      rintro ⟨negative153, digits154⟩ h
      try dsimp only at h
      refine cl none [] 0 h (rCompare_c N _ _) fun r227 h => ?_
      cases h
      exact rt []
theorem rAll_c (N : Nat) (l : (List Ineq)) (x : (List Big)) (r : Bool) (h : rAll N l x = some r) : Cn Tryz.prog 23 [sR rIneq false l, sR rBig false x] [] [sB r] := by
  unfold rAll at h
  refine fn tb en23 Tryz.func23 fun X w H ν => ?_
  refine jn (fun x => (Sum.inl x)) (fun (_ : Unit) => mkS 0 [] []) h (fun s65 hl67 g66 => ?_) ?_
  ·
    refine bk ?_
    refine lp (fun i64 => mkS 0 [] [vr 0 rIneq false l, vr 1 rBig false x, vi 5 i64]) hl67 [] ?_
    rintro i64 oo h hd68
    rw [rAll_b1] at h
    refine cd h (fun hc73 h => ?_) (fun hc73 h => ?_)
    ·
      refine bk ?_
      refine ixR h fun x74 h => ?_
      refine cl none [] 0 h (rHolds_c N _ _) fun r91 h => ?_
      refine cd h (fun hc99 h => ?_) (fun hc99 h => ?_)
      ·
        cases h
        cases hd68 _ rfl
        replace h := g66
        try dsimp only at h
        cases h
        exact rt []
      ·
        cases h
        exact bl []
    ·
      cases h
      cases hd68 _ rfl
      replace h := g66
      try dsimp only at h
      exact bj _ []
  ·
    intro _ h
    try dsimp only at h
    cases h
    exact rt []
end Go.Proofs.YtcakdidcpoolcaaGreatDoor.SD

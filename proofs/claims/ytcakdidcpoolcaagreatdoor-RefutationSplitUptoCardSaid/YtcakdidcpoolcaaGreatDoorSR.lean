/- Walks of the symbolic machine, written by a program of mine (wip/tool). -/
import Derived.Test.YtcakdidcpoolcaaGreatDoorTB
import Derived.Test.YtcakdidcpoolcaaGreatDoorAd
set_option maxRecDepth 100000
set_option maxHeartbeats 4000000
set_option linter.unusedVariables false
set_option linter.unusedSimpArgs false
namespace Go.Proofs.YtcakdidcpoolcaaGreatDoor.SR
open Go Go.RowKit Go.X Go.Q Go.D Go.Proofs.YtcakdidcpoolcaaGreatDoor.TB 
theorem rtrim_c (N : Nat) (l : (List Int)) (r : (List Int)) (h : rtrim N l = some r) : Cn Tryz.prog 110 [sR (rInt .i64) false l] [] [sR (rInt .i64) false r] := by
  unfold rtrim at h
  refine fn tb en110 Tryz.func110 fun X w H ν => ?_
  refine jn (fun x => x) (fun l115 => mkS 0 [] [vr 0 (rInt .i64) false l115]) h (fun s118 hl120 g119 => ?_) ?_
  ·
    refine bk ?_
    refine lp (fun l112 => mkS 0 [] [vr 0 (rInt .i64) false l112]) hl120 [] ?_
    rintro l112 oo h hd121
    rw [rtrim_b1] at h
    refine jn (fun x => x) (fun x139 => mkS 0 [] [vr 0 (rInt .i64) false l112, vb 14 x139]) h (fun s140 h g141 => ?_) ?_
    ·
      refine rg ?_
      refine gd h (fun hc142 h => ?_) (fun hc142 h => ?_)
      ·
        refine ixR h fun x143 h => ?_
        cases h
        exact bj _ []
      ·
        cases h
        exact bj _ []
    ·
      intro x139 h
      try dsimp only at h
      refine cd h (fun hc159 h => ?_) (fun hc159 h => ?_)
      ·
        refine bk ?_
        refine cutR h fun x161 h => ?_
        cases h
        exact bl []
      ·
        cases h
        cases hd121 _ rfl
        replace h := g119
        try dsimp only at h
        exact bj _ []
  ·
    intro l115 h
    try dsimp only at h
    cases h
    exact rt []
theorem rbig_c (N : Nat) (negative : Bool) (l : (List Int)) (r : Big) (h : rbig N negative l = some r) : Cn Tryz.prog 80 [sB negative, sR (rInt .i64) false l] [] [sA rBig true r] := by
  unfold rbig at h
  refine fn tb en80 Tryz.func80 fun X w H ν => ?_
  refine cl (some false) [] 0 h (rtrim_c N _) fun r6 h => ?_
  refine jn (fun x => x) (fun negative38 => mkS 2 [.box [(lB false), lN], .box [(lB negative38), lN]] [vr 1 (rInt .i64) false r6, vp 4 0, vp 5 1]) h (fun s39 h g40 => ?_) ?_
  ·
    refine rg ?_
    refine gd h (fun hc41 h => ?_) (fun hc41 h => ?_)
    ·
      cases h
      exact bj _ [0, 1]
    ·
      cases h
      exact bj _ [0, 1]
  ·
    intro negative38 h
    try dsimp only at h
    refine jn (fun x => x) (fun digits275 => mkS 3 [.box [(lB false), lN], .box [(lB negative38), (.own 2)], .row (rInt .u32) true digits275] [vp 4 0, vp 5 1]) h (fun s279 hl281 g280 => ?_) ?_
    ·
      refine bk ?_
      refine ps (nb 1 1 (rInt .u32)) ?_
      refine lp (fun ⟨digits263, i267⟩ => mkS 3 [.box [(lB false), lN], .box [(lB negative38), (.own 2)], .row (rInt .u32) true digits263] [vr 1 (rInt .i64) false r6, vp 4 0, vp 5 1, vi 6 i267]) hl281 [0, 1, 2] ?_
      rintro ⟨digits263, i267⟩ oo h hd282
      rw [rbig_b1] at h
      refine cd h (fun hc295 h => ?_) (fun hc295 h => ?_)
      ·
        refine bk ?_
        refine ixR h fun x296 h => ?_
        refine jn (fun x => x) (fun d326 => mkS 3 [.box [(lB false), lN], .box [(lB negative38), (.own 2)], .row (rInt .u32) true digits263] [vr 1 (rInt .i64) false r6, vp 4 0, vp 5 1, vi 6 i267, vk 7 .u32 d326]) h (fun s327 h g328 => ?_) ?_
        ·
          refine cd h (fun hc329 h => ?_) (fun hc329 h => ?_)
          ·
            refine ixR h fun x330 h => ?_
            cases h
            exact bj _ [0, 1, 2]
          ·
            cases h
            exact bj _ [0, 1, 2]
        ·
          intro d326 h
          try dsimp only at h
          refine litO (rInt .u32) true [d326] ?_
          refine apO true h fun x354 h => ?_
          cases h
          exact bl [0, 1, 4]
      ·
        cases h
        cases hd282 _ rfl
        replace h := g280
        try dsimp only at h
        exact bj _ [0, 1, 2]
    ·
      intro digits275 h
      try dsimp only at h
      cases h
      exact rt []
theorem rOf_c (N : Nat) (n : Int) (r : Big) (h : rOf N n = some r) : Cn Tryz.prog 52 [sI .i64 n] [] [sA rBig true r] := by
  unfold rOf at h
  refine fn tb en52 Tryz.func52 fun X w H ν => ?_
  refine jn (fun x => x) (fun u8 => mkS 1 [.box [(lB false), lN]] [vi 0 n, vp 2 0, vk 3 .u64 u8]) h (fun s9 h g10 => ?_) ?_
  ·
    refine cd h (fun hc11 h => ?_) (fun hc11 h => ?_)
    ·
      cases h
      exact bj _ [0]
    ·
      cases h
      exact bj _ [0]
  ·
    intro u8 h
    try dsimp only at h
    refine litZ (rInt .i64) ?_
    refine jn (fun x => x) (fun l114 => mkS 2 [.box [(lB false), lN], .row (rInt .i64) true l114] [vi 0 n, vp 2 0, vo 4 1]) h (fun s118 hl120 g119 => ?_) ?_
    ·
      refine bk ?_
      refine lp (fun ⟨u98, l104⟩ => mkS 2 [.box [(lB false), lN], .row (rInt .i64) true l104] [vi 0 n, vp 2 0, vk 3 .u64 u98, vo 4 1]) hl120 [0, 1] ?_
      rintro ⟨u98, l104⟩ oo h hd121
      rw [rOf_b1] at h
      refine cd h (fun hc129 h => ?_) (fun hc129 h => ?_)
      ·
        refine bk ?_
        refine reL ?_
        refine litO (rInt .i64) true [(iw (Int.tmod u98 65536))] ?_
        refine apO true h fun x138 h => ?_
        refine quL ?_
        cases h
        exact bl [0, 3]
      ·
        cases h
        cases hd121 _ rfl
        replace h := g119
        try dsimp only at h
        exact bj _ [0, 1]
    ·
      intro l114 h
      try dsimp only at h
      refine cl none [] 0 h (rbig_c N _ _) fun r163 h => ?_
      cases h
      exact rt []
end Go.Proofs.YtcakdidcpoolcaaGreatDoor.SR

/- Walks of the symbolic machine, written by a program of mine (wip/tool). -/
import Derived.Test.YtcakdidcpoolcaaGreatDoorTB
import Derived.Test.YtcakdidcpoolcaaGreatDoorAd
set_option maxRecDepth 100000
set_option maxHeartbeats 4000000
set_option linter.unusedVariables false
set_option linter.unusedSimpArgs false
namespace Go.Proofs.YtcakdidcpoolcaaGreatDoor.SR
open Go Go.RowKit Go.X Go.Q Go.D Go.Proofs.YtcakdidcpoolcaaGreatDoor.TB 
theorem rtrim_c (N : Nat) (l : (List Int)) (r : (List Int)) (h : rtrim N l = some r) : Cn Tryz.prog 110 [sR (rInt .i64) false l] [] [sR (rInt .i64) false r] := by
  unfold rtrim at h
  refine fn tb en110 Tryz.func110 fun X w H ν => ?_
  refine jn (fun x => x) (fun l115 => mkS 0 [] [vr 0 (rInt .i64) false l115]) h (fun s118 hl120 g119 => ?_) ?_
  ·
    refine bk ?_
    refine lp (fun l112 => mkS 0 [] [vr 0 (rInt .i64) false l112]) hl120 [] ?_
    rintro l112 oo h hd121
    rw [rtrim_b1] at h
    refine jn (fun x => x) (fun x139 => mkS 0 [] [vr 0 (rInt .i64) false l112, vb 14 x139]) h (fun s140 h g141 => ?_) ?_
    ·
      refine rg ?_
      refine gd h (fun hc142 h => ?_) (fun hc142 h => ?_)
      ·
        refine ixR h fun x143 h => ?_
        cases h
        exact bj _ []
      ·
        cases h
        exact bj _ []
    ·
      intro x139 h
      try dsimp only at h
      refine cd h (fun hc159 h => ?_) (fun hc159 h => ?_)
      ·
        refine bk ?_
        refine cutR h fun x161 h => ?_
        cases h
        exact bl []
      ·
        cases h
        cases hd121 _ rfl
        replace h := g119
        try dsimp only at h
        exact bj _ []
  ·
    intro l115 h
    try dsimp only at h
    cases h
    exact rt []
theorem halves_c (N : Nat) (x : Big) (r : (List Int)) (h : halves N x = some r) : Cn Tryz.prog 111 [sA rBig false x] [] [sR (rInt .i64) true r] := by
  unfold halves at h
  refine fn tb en111 Tryz.func111 fun X w H ν => ?_
  refine litZ (rInt .i64) ?_
  refine jn (fun x => x) (fun l158 => mkS 1 [.row (rInt .i64) true l158] [vo 3 0]) h (fun s162 hl164 g163 => ?_) ?_
  ·
    refine bk ?_
    refine lp (fun ⟨l148, i152⟩ => mkS 2 [.box (Opn.cl rBig false x), .row (rInt .i64) true l148] [vp 1 0, vo 3 1, vi 4 i152]) hl164 [0, 1] ?_
    rintro ⟨l148, i152⟩ oo h hd165
    rw [halves_b1] at h
    refine cd h (fun hc174 h => ?_) (fun hc174 h => ?_)
    ·
      refine bk ?_
      refine dr mixed ?_
      refine ixR h fun x175 h => ?_
      refine reL ?_
      refine ixR h fun x188 h => ?_
      refine quL ?_
      refine litO (rInt .i64) true [(iw (Int.tmod x175 65536)), (iw (uw32 (Int.tdiv x188 65536)))] ?_
      refine apO true h fun x209 h => ?_
      refine dk ?_
      cases h
      exact bl [0, 3]
    ·
      cases h
      cases hd165 _ rfl
      replace h := g163
      try dsimp only at h
      exact bj _ [1]
  ·
    intro l158 h
    try dsimp only at h
    refine po (fzk 0 [3, 30] []) ?_
    refine cl (some true) [] 0 h (rtrim_c N _) fun r242 h => ?_
    cases h
    exact rt []
theorem rbig_c (N : Nat) (negative : Bool) (l : (List Int)) (r : Big) (h : rbig N negative l = some r) : Cn Tryz.prog 80 [sB negative, sR (rInt .i64) false l] [] [sA rBig true r] := by
  unfold rbig at h
  refine fn tb en80 Tryz.func80 fun X w H ν => ?_
  refine cl (some false) [] 0 h (rtrim_c N _) fun r6 h => ?_
  refine jn (fun x => x) (fun negative38 => mkS 2 [.box [(lB false), lN], .box [(lB negative38), lN]] [vr 1 (rInt .i64) false r6, vp 4 0, vp 5 1]) h (fun s39 h g40 => ?_) ?_
  ·
    refine rg ?_
    refine gd h (fun hc41 h => ?_) (fun hc41 h => ?_)
    ·
      cases h
      exact bj _ [0, 1]
    ·
      cases h
      exact bj _ [0, 1]
  ·
    intro negative38 h
    try dsimp only at h
    refine jn (fun x => x) (fun digits275 => mkS 3 [.box [(lB false), lN], .box [(lB negative38), (.own 2)], .row (rInt .u32) true digits275] [vp 4 0, vp 5 1]) h (fun s279 hl281 g280 => ?_) ?_
    ·
      refine bk ?_
      refine ps (nb 1 1 (rInt .u32)) ?_
      refine lp (fun ⟨digits263, i267⟩ => mkS 3 [.box [(lB false), lN], .box [(lB negative38), (.own 2)], .row (rInt .u32) true digits263] [vr 1 (rInt .i64) false r6, vp 4 0, vp 5 1, vi 6 i267]) hl281 [0, 1, 2] ?_
      rintro ⟨digits263, i267⟩ oo h hd282
      rw [rbig_b1] at h
      refine cd h (fun hc295 h => ?_) (fun hc295 h => ?_)
      ·
        refine bk ?_
        refine ixR h fun x296 h => ?_
        refine jn (fun x => x) (fun d326 => mkS 3 [.box [(lB false), lN], .box [(lB negative38), (.own 2)], .row (rInt .u32) true digits263] [vr 1 (rInt .i64) false r6, vp 4 0, vp 5 1, vi 6 i267, vk 7 .u32 d326]) h (fun s327 h g328 => ?_) ?_
        ·
          refine cd h (fun hc329 h => ?_) (fun hc329 h => ?_)
          ·
            refine ixR h fun x330 h => ?_
            cases h
            exact bj _ [0, 1, 2]
          ·
            cases h
            exact bj _ [0, 1, 2]
        ·
          intro d326 h
          try dsimp only at h
          refine litO (rInt .u32) true [d326] ?_
          refine apO true h fun x354 h => ?_
          cases h
          exact bl [0, 1, 4]
      ·
        cases h
        cases hd282 _ rfl
        replace h := g280
        try dsimp only at h
        exact bj _ [0, 1, 2]
    ·
      intro digits275 h
      try dsimp only at h
      cases h
      exact rt []
theorem rNormal_c (N : Nat) (x : Big) (r : Big) (h : rNormal N x = some r) : Cn Tryz.prog 117 [sA rBig false x] [] [sA rBig true r] := by
  unfold rNormal at h
  refine fn tb en117 Tryz.func117 fun X w H ν => ?_
  refine dr mixed ?_
  refine cl none [] 0 h (halves_c N _) fun r11 h => ?_
  refine cl none [] 0 h (rbig_c N _ _) fun r21 h => ?_
  refine dk ?_
  cases h
  exact rt []
theorem rorder_c (N : Nat) (a : (List Int)) (b : (List Int)) (r : Int) (h : rorder N a b = some r) : Cn Tryz.prog 113 [sR (rInt .i64) false a, sR (rInt .i64) false b] [] [sI .i64 r] := by
  unfold rorder at h
  refine fn tb en113 Tryz.func113 fun X w H ν => ?_
  refine cd h (fun hc1 h => ?_) (fun hc1 h => ?_)
  ·
    refine cd h (fun hc2 h => ?_) (fun hc2 h => ?_)
    ·
      cases h
      exact rt []
    ·
      cases h
      exact rt []
  ·
    refine jn (fun x => (Sum.inl x)) (fun (_ : Unit) => mkS 0 [] []) h (fun s125 hl127 g126 => ?_) ?_
    ·
      refine bk ?_
      refine lp (fun i124 => mkS 0 [] [vr 0 (rInt .i64) false a, vr 1 (rInt .i64) false b, vi 5 i124]) hl127 [] ?_
      rintro i124 oo h hd128
      rw [rorder_b1] at h
      refine cd h (fun hc132 h => ?_) (fun hc132 h => ?_)
      ·
        refine bk ?_
        refine dr mixed ?_
        refine ixR h fun x133 h => ?_
        refine ixR h fun x147 h => ?_
        refine dk ?_
        refine cd h (fun hc161 h => ?_) (fun hc161 h => ?_)
        ·
          cases h
          cases hd128 _ rfl
          replace h := g126
          try dsimp only at h
          cases h
          exact rt []
        ·
          refine dr mixed ?_
          refine ixR h fun x162 h => ?_
          refine ixR h fun x175 h => ?_
          refine dk ?_
          refine cd h (fun hc188 h => ?_) (fun hc188 h => ?_)
          ·
            cases h
            cases hd128 _ rfl
            replace h := g126
            try dsimp only at h
            cases h
            exact rt []
          ·
            cases h
            exact bl []
      ·
        cases h
        cases hd128 _ rfl
        replace h := g126
        try dsimp only at h
        exact bj _ []
    ·
      intro _ h
      try dsimp only at h
      cases h
      exact rt []
theorem rplus_c (N : Nat) (a : (List Int)) (b : (List Int)) (r : (List Int)) (h : rplus N a b = some r) : Cn Tryz.prog 112 [sR (rInt .i64) false a, sR (rInt .i64) false b] [] [sR (rInt .i64) true r] := by
  unfold rplus at h
  refine fn tb en112 Tryz.func112 fun X w H ν => ?_
  refine litZ (rInt .i64) ?_
  refine jn (fun x => x) (fun out272 => mkS 1 [.row (rInt .i64) true out272] [vo 5 0]) h (fun s276 hl278 g277 => ?_) ?_
  ·
    refine bk ?_
    refine lp (fun ⟨out261, carry265, i266⟩ => mkS 1 [.row (rInt .i64) true out261] [vr 0 (rInt .i64) false a, vr 1 (rInt .i64) false b, vo 5 0, vi 6 carry265, vi 7 i266]) hl278 [0] ?_
    rintro ⟨out261, carry265, i266⟩ oo h hd279
    rw [rplus_b1] at h
    refine jn (fun x => x) (fun x289 => mkS 1 [.row (rInt .i64) true out261] [vr 0 (rInt .i64) false a, vr 1 (rInt .i64) false b, vo 5 0, vi 6 carry265, vi 7 i266, vb 22 x289]) h (fun s290 h g291 => ?_) ?_
    ·
      refine rg ?_
      refine gd h (fun hc293 h => ?_) (fun hc293 h => ?_)
      ·
        cases h
        exact bj _ [0]
      ·
        refine gd h (fun hc295 h => ?_) (fun hc295 h => ?_)
        ·
          cases h
          exact bj _ [0]
        ·
          cases h
          exact bj _ [0]
    ·
      intro x289 h
      try dsimp only at h
      refine cd h (fun hc299 h => ?_) (fun hc299 h => ?_)
      ·
        refine bk ?_
        refine jn (fun x => x) (fun carry316 => mkS 1 [.row (rInt .i64) true out261] [vr 0 (rInt .i64) false a, vr 1 (rInt .i64) false b, vo 5 0, vi 6 carry316, vi 7 i266]) h (fun s317 h g318 => ?_) ?_
        ·
          refine cd h (fun hc319 h => ?_) (fun hc319 h => ?_)
          ·
            refine ixR h fun x320 h => ?_
            cases h
            exact bj _ [0]
          ·
            cases h
            exact bj _ [0]
        ·
          intro carry316 h
          try dsimp only at h
          refine jn (fun x => x) (fun carry352 => mkS 1 [.row (rInt .i64) true out261] [vr 0 (rInt .i64) false a, vr 1 (rInt .i64) false b, vo 5 0, vi 6 carry352, vi 7 i266]) h (fun s353 h g354 => ?_) ?_
          ·
            refine cd h (fun hc355 h => ?_) (fun hc355 h => ?_)
            ·
              refine ixR h fun x356 h => ?_
              cases h
              exact bj _ [0]
            ·
              cases h
              exact bj _ [0]
          ·
            intro carry352 h
            try dsimp only at h
            refine reL ?_
            refine litO (rInt .i64) true [(Int.tmod carry352 65536)] ?_
            refine apO true h fun x380 h => ?_
            refine quL ?_
            cases h
            exact bl [2]
      ·
        cases h
        cases hd279 _ rfl
        replace h := g277
        try dsimp only at h
        exact bj _ [0]
  ·
    intro out272 h
    try dsimp only at h
    refine po (fzk 0 [5, 52] []) ?_
    refine cl (some true) [] 0 h (rtrim_c N _) fun r410 h => ?_
    cases h
    exact rt []
theorem rminus_c (N : Nat) (a : (List Int)) (b : (List Int)) (r : (List Int)) (h : rminus N a b = some r) : Cn Tryz.prog 114 [sR (rInt .i64) false a, sR (rInt .i64) false b] [] [sR (rInt .i64) true r] := by
  unfold rminus at h
  refine fn tb en114 Tryz.func114 fun X w H ν => ?_
  refine litZ (rInt .i64) ?_
  refine jn (fun x => x) (fun out218 => mkS 1 [.row (rInt .i64) true out218] [vo 5 0]) h (fun s222 hl224 g223 => ?_) ?_
  ·
    refine bk ?_
    refine lp (fun ⟨out207, borrow211, i212⟩ => mkS 1 [.row (rInt .i64) true out207] [vr 0 (rInt .i64) false a, vr 1 (rInt .i64) false b, vo 5 0, vi 6 borrow211, vi 7 i212]) hl224 [0] ?_
    rintro ⟨out207, borrow211, i212⟩ oo h hd225
    rw [rminus_b1] at h
    refine cd h (fun hc231 h => ?_) (fun hc231 h => ?_)
    ·
      refine bk ?_
      refine ixR h fun x232 h => ?_
      refine jn (fun x => x) (fun n261 => mkS 1 [.row (rInt .i64) true out207] [vr 0 (rInt .i64) false a, vr 1 (rInt .i64) false b, vo 5 0, vi 7 i212, vi 8 n261]) h (fun s262 h g263 => ?_) ?_
      ·
        refine cd h (fun hc264 h => ?_) (fun hc264 h => ?_)
        ·
          refine ixR h fun x265 h => ?_
          cases h
          exact bj _ [0]
        ·
          cases h
          exact bj _ [0]
      ·
        intro n261 h
        try dsimp only at h
        refine jn (fun x => x) (fun ⟨borrow283, n284⟩ => mkS 1 [.row (rInt .i64) true out207] [vr 0 (rInt .i64) false a, vr 1 (rInt .i64) false b, vo 5 0, vi 6 borrow283, vi 7 i212, vi 8 n284]) h (fun s285 h g286 => ?_) ?_
        ·
          refine cd h (fun hc287 h => ?_) (fun hc287 h => ?_)
          ·
            cases h
            exact bj _ [0]
          ·
            cases h
            exact bj _ [0]
        ·
          rintro ⟨borrow283, n284⟩ h
          try dsimp only at h
          refine litO (rInt .i64) true [n284] ?_
          refine apO true h fun x299 h => ?_
          cases h
          exact bl [2]
    ·
      cases h
      cases hd225 _ rfl
      replace h := g223
      try dsimp only at h
      exact bj _ [0]
  ·
    intro out218 h
    try dsimp only at h
    refine po (fzk 0 [5, 40] []) ?_
    refine cl (some true) [] 0 h (rtrim_c N _) fun r328 h => ?_
    cases h
    exact rt []
theorem rSign_c (N : Nat) (x : Big) (r : Int) (h : rSign N x = some r) : Cn Tryz.prog 116 [sA rBig false x] [] [sI .i64 r] := by
  unfold rSign at h
  refine fn tb en116 Tryz.func116 fun X w H ν => ?_
  refine cl none [] 0 h (halves_c N _) fun r6 h => ?_
  refine cd h (fun hc16 h => ?_) (fun hc16 h => ?_)
  ·
    cases h
    exact rt []
  ·
    refine cd h (fun hc17 h => ?_) (fun hc17 h => ?_)
    ·
      cases h
      exact rt []
    ·
      cases h
      exact rt []
theorem rCompare_c (N : Nat) (a : Big) (b : Big) (r : Int) (h : rCompare N a b = some r) : Cn Tryz.prog 83 [sA rBig false a, sA rBig false b] [] [sI .i64 r] := by
  unfold rCompare at h
  refine fn tb en83 Tryz.func83 fun X w H ν => ?_
  refine dr mixed ?_
  refine cl none [] 0 h (rSign_c N _) fun r11 h => ?_
  refine cl none [] 0 h (rSign_c N _) fun r19 h => ?_
  refine dk ?_
  refine cd h (fun hc27 h => ?_) (fun hc27 h => ?_)
  ·
    cases h
    exact rt []
  ·
    refine cd h (fun hc28 h => ?_) (fun hc28 h => ?_)
    ·
      cases h
      exact rt []
    ·
      refine dr mixed ?_
      refine cl none [] 0 h (halves_c N _) fun r29 h => ?_
      refine cl none [] 0 h (halves_c N _) fun r39 h => ?_
      refine cl none [] 0 h (rorder_c N _ _) fun r49 h => ?_
      refine dk ?_
      cases h
      exact rt []
theorem rNeg_c (N : Nat) (x : Big) (r : Big) (h : rNeg N x = some r) : Cn Tryz.prog 85 [sA rBig false x] [] [sA rBig true r] := by
  unfold rNeg at h
  refine fn tb en85 Tryz.func85 fun X w H ν => ?_
  refine dr mixed ?_
  refine cl none [] 0 h (halves_c N _) fun r11 h => ?_
  refine cl none [] 0 h (rbig_c N _ _) fun r21 h => ?_
  refine dk ?_
  cases h
  exact rt []
theorem rAdd_c (N : Nat) (a : Big) (b : Big) (r : Big) (h : rAdd N a b = some r) : Cn Tryz.prog 81 [sA rBig false a, sA rBig false b] [] [sA rBig true r] := by
  unfold rAdd at h
  refine fn tb en81 Tryz.func81 fun X w H ν => ?_
  refine dr mixed ?_
  refine cl none [] 0 h (halves_c N _) fun r16 h => ?_
  refine cl none [] 0 h (halves_c N _) fun r26 h => ?_
  refine dk ?_
  refine cd h (fun hc36 h => ?_) (fun hc36 h => ?_)
  ·
    refine dr mixed ?_
    refine cl none [] 0 h (rplus_c N _ _) fun r37 h => ?_
    refine cl none [] 0 h (rbig_c N _ _) fun r47 h => ?_
    refine dk ?_
    cases h
    exact rt []
  ·
    refine cl none [] 0 h (rorder_c N _ _) fun r61 h => ?_
    refine cd h (fun hc69 h => ?_) (fun hc69 h => ?_)
    ·
      refine dr mixed ?_
      refine cl none [] 0 h (rminus_c N _ _) fun r70 h => ?_
      refine cl none [] 0 h (rbig_c N _ _) fun r81 h => ?_
      refine dk ?_
      cases h
      exact rt []
    ·
      refine dr mixed ?_
      refine cl none [] 0 h (rminus_c N _ _) fun r95 h => ?_
      refine cl none [] 0 h (rbig_c N _ _) fun r106 h => ?_
      refine dk ?_
      cases h
      exact rt []
theorem rtimes_c (N : Nat) (a : (List Int)) (d : Int) (r : (List Int)) (h : rtimes N a d = some r) : Cn Tryz.prog 115 [sR (rInt .i64) false a, sI .i64 d] [] [sR (rInt .i64) true r] := by
  unfold rtimes at h
  refine fn tb en115 Tryz.func115 fun X w H ν => ?_
  refine litZ (rInt .i64) ?_
  refine jn (fun x => x) (fun out192 => mkS 1 [.row (rInt .i64) true out192] [vo 5 0]) h (fun s196 hl198 g197 => ?_) ?_
  ·
    refine bk ?_
    refine lp (fun ⟨out181, carry185, i186⟩ => mkS 1 [.row (rInt .i64) true out181] [vr 0 (rInt .i64) false a, vi 1 d, vo 5 0, vi 6 carry185, vi 7 i186]) hl198 [0] ?_
    rintro ⟨out181, carry185, i186⟩ oo h hd199
    rw [rtimes_b1] at h
    refine jn (fun x => x) (fun x207 => mkS 1 [.row (rInt .i64) true out181] [vr 0 (rInt .i64) false a, vi 1 d, vo 5 0, vi 6 carry185, vi 7 i186, vb 16 x207]) h (fun s208 h g209 => ?_) ?_
    ·
      refine rg ?_
      refine gd h (fun hc211 h => ?_) (fun hc211 h => ?_)
      ·
        cases h
        exact bj _ [0]
      ·
        cases h
        exact bj _ [0]
    ·
      intro x207 h
      try dsimp only at h
      refine cd h (fun hc215 h => ?_) (fun hc215 h => ?_)
      ·
        refine bk ?_
        refine jn (fun x => x) (fun carry232 => mkS 1 [.row (rInt .i64) true out181] [vr 0 (rInt .i64) false a, vi 1 d, vo 5 0, vi 6 carry232, vi 7 i186]) h (fun s233 h g234 => ?_) ?_
        ·
          refine cd h (fun hc235 h => ?_) (fun hc235 h => ?_)
          ·
            refine ixR h fun x236 h => ?_
            cases h
            exact bj _ [0]
          ·
            cases h
            exact bj _ [0]
        ·
          intro carry232 h
          try dsimp only at h
          refine reL ?_
          refine litO (rInt .i64) true [(Int.tmod carry232 65536)] ?_
          refine apO true h fun x260 h => ?_
          refine quL ?_
          cases h
          exact bl [2]
      ·
        cases h
        cases hd199 _ rfl
        replace h := g197
        try dsimp only at h
        exact bj _ [0]
  ·
    intro out192 h
    try dsimp only at h
    refine po (fzk 0 [5, 38] []) ?_
    refine cl (some true) [] 0 h (rtrim_c N _) fun r290 h => ?_
    cases h
    exact rt []
theorem rMul_c (N : Nat) (a : Big) (b : Big) (r : Big) (h : rMul N a b = some r) : Cn Tryz.prog 82 [sA rBig false a, sA rBig false b] [] [sA rBig true r] := by
  unfold rMul at h
  refine fn tb en82 Tryz.func82 fun X w H ν => ?_
  refine dr mixed ?_
  refine cl none [] 0 h (halves_c N _) fun r16 h => ?_
  refine cl none [] 0 h (halves_c N _) fun r26 h => ?_
  refine dk ?_
  refine litZ (rInt .i64) ?_
  refine jn (fun x => x) (fun sum198 => mkS 3 [.box (Opn.cl rBig false a), .box (Opn.cl rBig false b), .box [(lB false), lN]] [vp 2 0, vp 3 1, vp 4 2, vr 7 (rInt .i64) true sum198]) h (fun s201 hl203 g202 => ?_) ?_
  ·
    refine bk ?_
    refine lp (fun ⟨sum191, i194⟩ => mkS 3 [.box (Opn.cl rBig false a), .box (Opn.cl rBig false b), .box [(lB false), lN]] [vp 2 0, vp 3 1, vp 4 2, vr 5 (rInt .i64) true r16, vr 6 (rInt .i64) true r26, vr 7 (rInt .i64) true sum191, vi 8 i194]) hl203 [0, 1, 2] ?_
    rintro ⟨sum191, i194⟩ oo h hd204
    rw [rMul_b1] at h
    refine cd h (fun hc217 h => ?_) (fun hc217 h => ?_)
    ·
      refine bk ?_
      refine dr mixed ?_
      refine litO (rInt .i64) true [0] ?_
      refine apO true h fun x226 h => ?_
      refine ixR h fun x247 h => ?_
      refine cl none [] 0 h (rtimes_c N _ _) fun r261 h => ?_
      refine cl none [] 0 h (rplus_c N _ _) fun r271 h => ?_
      refine dk ?_
      cases h
      exact bl [0, 1, 2]
    ·
      cases h
      cases hd204 _ rfl
      replace h := g202
      try dsimp only at h
      exact bj _ [0, 1, 2]
  ·
    intro sum198 h
    try dsimp only at h
    refine cl none [] 0 h (rbig_c N _ _) fun r288 h => ?_
    cases h
    exact rt []
theorem rOf_c (N : Nat) (n : Int) (r : Big) (h : rOf N n = some r) : Cn Tryz.prog 52 [sI .i64 n] [] [sA rBig true r] := by
  unfold rOf at h
  refine fn tb en52 Tryz.func52 fun X w H ν => ?_
  refine jn (fun x => x) (fun u8 => mkS 1 [.box [(lB false), lN]] [vi 0 n, vp 2 0, vk 3 .u64 u8]) h (fun s9 h g10 => ?_) ?_
  ·
    refine cd h (fun hc11 h => ?_) (fun hc11 h => ?_)
    ·
      cases h
      exact bj _ [0]
    ·
      cases h
      exact bj _ [0]
  ·
    intro u8 h
    try dsimp only at h
    refine litZ (rInt .i64) ?_
    refine jn (fun x => x) (fun l114 => mkS 2 [.box [(lB false), lN], .row (rInt .i64) true l114] [vi 0 n, vp 2 0, vo 4 1]) h (fun s118 hl120 g119 => ?_) ?_
    ·
      refine bk ?_
      refine lp (fun ⟨u98, l104⟩ => mkS 2 [.box [(lB false), lN], .row (rInt .i64) true l104] [vi 0 n, vp 2 0, vk 3 .u64 u98, vo 4 1]) hl120 [0, 1] ?_
      rintro ⟨u98, l104⟩ oo h hd121
      rw [rOf_b1] at h
      refine cd h (fun hc129 h => ?_) (fun hc129 h => ?_)
      ·
        refine bk ?_
        refine reL ?_
        refine litO (rInt .i64) true [(iw (Int.tmod u98 65536))] ?_
        refine apO true h fun x138 h => ?_
        refine quL ?_
        cases h
        exact bl [0, 3]
      ·
        cases h
        cases hd121 _ rfl
        replace h := g119
        try dsimp only at h
        exact bj _ [0, 1]
    ·
      intro l114 h
      try dsimp only at h
      refine cl none [] 0 h (rbig_c N _ _) fun r163 h => ?_
      cases h
      exact rt []
end Go.Proofs.YtcakdidcpoolcaaGreatDoor.SR

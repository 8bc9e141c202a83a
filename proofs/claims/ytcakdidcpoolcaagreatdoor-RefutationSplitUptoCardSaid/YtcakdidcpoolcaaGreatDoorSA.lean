/- Walks of the symbolic machine, written by a program of mine (wip/tool). -/
import Derived.Test.YtcakdidcpoolcaaGreatDoorTB
import Derived.Test.YtcakdidcpoolcaaGreatDoorAd
set_option maxRecDepth 100000
set_option maxHeartbeats 4000000
set_option linter.unusedVariables false
set_option linter.unusedSimpArgs false
namespace Go.Proofs.YtcakdidcpoolcaaGreatDoor.SA
open Go Go.RowKit Go.X Go.Q Go.D Go.Proofs.YtcakdidcpoolcaaGreatDoor.TB 
theorem cloneU32_c (N : Nat) (s : (List Int)) (r : (List Int)) (h : cloneU32 N s = some r) : Cn Tryz.prog 192 [sR (rInt .u32) false s] [.row (rInt .u32) true r] [sO 0] := by
  unfold cloneU32 at h
  refine fn tb en192 Tryz.func192 fun X w H ν => ?_
  refine eqn ?_
  refine cn (fun hnil => ?_) ?_
  ·
    replace h : some [] = some r := by rw [hnil] at h; simpa [apnd] using h
    refine pr (nl 2 (rInt .u32)) ?_
    cases h
    exact rt [0]
  ·
    refine litZ (rInt .u32) ?_
    refine apO true h fun x16 h => ?_
    cases h
    exact rt [1]
theorem digit_c (N : Nat) (d : (List Int)) (i : Int) (r : Int) (h : digit N d i = some r) : Cn Tryz.prog 186 [sR (rInt .u32) false d, sI .i64 i] [] [sI .u64 r] := by
  unfold digit at h
  refine fn tb en186 Tryz.func186 fun X w H ν => ?_
  refine cd h (fun hc1 h => ?_) (fun hc1 h => ?_)
  ·
    refine ixR h fun x2 h => ?_
    cases h
    exact rt []
  ·
    cases h
    exact rt []
theorem bsign_c (N : Nat) (n : Int) (r : Int) (h : bsign N n = some r) : Cn Tryz.prog 187 [sI .i64 n] [] [sI .i64 r] := by
  unfold bsign at h
  refine fn tb en187 Tryz.func187 fun X w H ν => ?_
  cases h
  exact rt []
theorem btrim_c (N : Nat) (d : (List Int)) (r : (List Int)) (h : btrim N d = some r) : Cn Tryz.prog 175 [sR (rInt .u32) false d] [.row (rInt .u32) true r] [sO 0] := by
  unfold btrim at h
  refine fn tb en175 Tryz.func175 fun X w H ν => ?_
  refine jn (fun x => x) (fun n83 => mkS 0 [] [vr 0 (rInt .u32) false d, vi 3 n83]) h (fun s84 hl86 g85 => ?_) ?_
  ·
    refine bk ?_
    refine lp (fun n82 => mkS 0 [] [vr 0 (rInt .u32) false d, vi 3 n82]) hl86 [] ?_
    rintro n82 oo h hd87
    rw [btrim_b1] at h
    refine jn (fun x => x) (fun x106 => mkS 0 [] [vr 0 (rInt .u32) false d, vi 3 n82, vb 15 x106]) h (fun s107 h g108 => ?_) ?_
    ·
      refine rg ?_
      refine gd h (fun hc109 h => ?_) (fun hc109 h => ?_)
      ·
        refine ixR h fun x110 h => ?_
        cases h
        exact bj _ []
      ·
        cases h
        exact bj _ []
    ·
      intro x106 h
      try dsimp only at h
      refine cd h (fun hc127 h => ?_) (fun hc127 h => ?_)
      ·
        refine bk ?_
        cases h
        exact bl []
      ·
        cases h
        cases hd87 _ rfl
        replace h := g85
        try dsimp only at h
        exact bj _ []
  ·
    intro n83 h
    try dsimp only at h
    refine cutR h fun x131 h => ?_
    refine cl none [] 1 h (cloneU32_c N _) fun r146 h => ?_
    cases h
    exact rt [0]
theorem bnormal_c (N : Nat) (negative : Bool) (d : (List Int)) (r : Big) (h : bnormal N negative d = some r) : Cn Tryz.prog 160 [sB negative, sR (rInt .u32) false d] [] [sA rBig true r] := by
  unfold bnormal at h
  refine fn tb en160 Tryz.func160 fun X w H ν => ?_
  refine cl none [] 1 h (btrim_c N _) fun r6 h => ?_
  refine cd h (fun hc22 h => ?_) (fun hc22 h => ?_)
  ·
    cases h
    exact rt []
  ·
    cases h
    exact rt []
theorem bcompare_c (N : Nat) (a : (List Int)) (b : (List Int)) (r : Int) (h : bcompare N a b = some r) : Cn Tryz.prog 171 [sR (rInt .u32) false a, sR (rInt .u32) false b] [] [sI .i64 r] := by
  unfold bcompare at h
  refine fn tb en171 Tryz.func171 fun X w H ν => ?_
  refine cd h (fun hc1 h => ?_) (fun hc1 h => ?_)
  ·
    refine cl none [] 0 h (bsign_c N _) fun r2 h => ?_
    cases h
    exact rt []
  ·
    refine jn (fun x => (Sum.inl x)) (fun (_ : Unit) => mkS 0 [] []) h (fun s131 hl133 g132 => ?_) ?_
    ·
      refine bk ?_
      refine lp (fun i130 => mkS 0 [] [vr 0 (rInt .u32) false a, vr 1 (rInt .u32) false b, vi 5 i130]) hl133 [] ?_
      rintro i130 oo h hd134
      rw [bcompare_b1] at h
      refine cd h (fun hc138 h => ?_) (fun hc138 h => ?_)
      ·
        refine bk ?_
        refine dr mixed ?_
        refine ixR h fun x139 h => ?_
        refine ixR h fun x153 h => ?_
        refine dk ?_
        refine cd h (fun hc167 h => ?_) (fun hc167 h => ?_)
        ·
          cases h
          cases hd134 _ rfl
          replace h := g132
          try dsimp only at h
          cases h
          exact rt []
        ·
          refine dr mixed ?_
          refine ixR h fun x168 h => ?_
          refine ixR h fun x181 h => ?_
          refine dk ?_
          refine cd h (fun hc194 h => ?_) (fun hc194 h => ?_)
          ·
            cases h
            cases hd134 _ rfl
            replace h := g132
            try dsimp only at h
            cases h
            exact rt []
          ·
            cases h
            exact bl []
      ·
        cases h
        cases hd134 _ rfl
        replace h := g132
        try dsimp only at h
        exact bj _ []
    ·
      intro _ h
      try dsimp only at h
      cases h
      exact rt []
theorem bplus_c (N : Nat) (a : (List Int)) (b : (List Int)) (r : (List Int)) (h : bplus N a b = some r) : Cn Tryz.prog 170 [sR (rInt .u32) false a, sR (rInt .u32) false b] [.row (rInt .u32) true r] [sO 0] := by
  unfold bplus at h
  refine fn tb en170 Tryz.func170 fun X w H ν => ?_
  refine mkO (rInt .u32) h fun x2 h => ?_
  refine jn (fun x => x) (fun out121 => mkS 1 [.row (rInt .u32) true out121] [vo 5 0]) h (fun s125 hl127 g126 => ?_) ?_
  ·
    refine bk ?_
    refine lp (fun ⟨out113, carry117, x118⟩ => mkS 1 [.row (rInt .u32) true out113] [vr 0 (rInt .u32) false a, vr 1 (rInt .u32) false b, vo 5 0, vk 6 .u64 carry117, vi 16 (List.length x2 : Int), vi 17 x118]) hl127 [0] ?_
    rintro ⟨out113, carry117, x118⟩ oo h hd128
    rw [bplus_b1] at h
    refine cd h (fun hc132 h => ?_) (fun hc132 h => ?_)
    ·
      refine bk ?_
      refine cl none [] 0 h (digit_c N _ _) fun r133 h => ?_
      refine cl none [] 0 h (digit_c N _ _) fun r141 h => ?_
      refine ixO h fun x149 h => ?_
      refine stO true h fun x155 h => ?_
      refine srL ?_
      cases h
      exact bl [0]
    ·
      cases h
      cases hd128 _ rfl
      replace h := g126
      try dsimp only at h
      exact bj _ [0]
  ·
    intro out121 h
    try dsimp only at h
    cases h
    exact rt [0]
theorem bminus_c (N : Nat) (a : (List Int)) (b : (List Int)) (r : (List Int)) (h : bminus N a b = some r) : Cn Tryz.prog 172 [sR (rInt .u32) false a, sR (rInt .u32) false b] [.row (rInt .u32) true r] [sO 0] := by
  unfold bminus at h
  refine fn tb en172 Tryz.func172 fun X w H ν => ?_
  refine mkO (rInt .u32) h fun x2 h => ?_
  refine jn (fun x => x) (fun out133 => mkS 1 [.row (rInt .u32) true out133] [vo 5 0]) h (fun s137 hl139 g138 => ?_) ?_
  ·
    refine bk ?_
    refine lp (fun ⟨out125, borrow129, x130⟩ => mkS 1 [.row (rInt .u32) true out125] [vr 0 (rInt .u32) false a, vr 1 (rInt .u32) false b, vo 5 0, vk 6 .u64 borrow129, vi 13 (List.length a : Int), vi 14 x130]) hl139 [0] ?_
    rintro ⟨out125, borrow129, x130⟩ oo h hd140
    rw [bminus_b1] at h
    refine cd h (fun hc145 h => ?_) (fun hc145 h => ?_)
    ·
      refine bk ?_
      refine dr mixed ?_
      refine ixR h fun x146 h => ?_
      refine cl none [] 0 h (digit_c N _ _) fun r160 h => ?_
      refine dk ?_
      refine ixO h fun x168 h => ?_
      refine stO true h fun x174 h => ?_
      refine srL ?_
      cases h
      exact bl [0]
    ·
      cases h
      cases hd140 _ rfl
      replace h := g138
      try dsimp only at h
      exact bj _ [0]
  ·
    intro out133 h
    try dsimp only at h
    cases h
    exact rt [0]
theorem btimes_c (N : Nat) (a : (List Int)) (b : (List Int)) (r : (List Int)) (h : btimes N a b = some r) : Cn Tryz.prog 173 [sR (rInt .u32) false a, sR (rInt .u32) false b] [.row (rInt .u32) true r] [sO 0] := by
  unfold btimes at h
  refine fn tb en173 Tryz.func173 fun X w H ν => ?_
  refine mkO (rInt .u32) h fun x2 h => ?_
  refine jn (fun x => x) (fun out478 => mkS 1 [.row (rInt .u32) true out478] [vo 5 0]) h (fun s482 hl484 g483 => ?_) ?_
  ·
    refine bk ?_
    refine lp (fun ⟨out471, x475⟩ => mkS 1 [.row (rInt .u32) true out471] [vr 1 (rInt .u32) false b, vo 5 0, vr 17 (rInt .u32) false a, vi 18 (List.length a : Int), vi 19 x475]) hl484 [0] ?_
    rintro ⟨out471, x475⟩ oo h hd485
    rw [btimes_b1] at h
    refine cd h (fun hc490 h => ?_) (fun hc490 h => ?_)
    ·
      refine bk ?_
      refine ixR h fun x491 h => ?_
      refine jn (fun x => x) (fun ⟨out624, carry628⟩ => mkS 1 [.row (rInt .u32) true out624] [vr 1 (rInt .u32) false b, vo 5 0, vi 6 x475, vk 8 .u64 carry628, vr 17 (rInt .u32) false a, vi 18 (List.length a : Int), vi 19 x475]) h (fun s629 hl631 g630 => ?_) ?_
      ·
        refine bk ?_
        refine lp (fun ⟨out616, carry620, x621⟩ => mkS 1 [.row (rInt .u32) true out616] [vr 1 (rInt .u32) false b, vo 5 0, vi 6 x475, vk 7 .u32 x491, vk 8 .u64 carry620, vr 17 (rInt .u32) false a, vi 18 (List.length a : Int), vi 19 x475, vr 24 (rInt .u32) false b, vi 25 (List.length b : Int), vi 26 x621]) hl631 [0] ?_
        rintro ⟨out616, carry620, x621⟩ oo h hd632
        rw [btimes_b2] at h
        refine cd h (fun hc636 h => ?_) (fun hc636 h => ?_)
        ·
          refine bk ?_
          refine ixR h fun x637 h => ?_
          refine ixO h fun x651 h => ?_
          refine ldO ?_
          refine ixO h fun x661 h => ?_
          refine stO true h fun x667 h => ?_
          refine srL ?_
          cases h
          exact bl [0]
        ·
          cases h
          cases hd632 _ rfl
          replace h := g630
          try dsimp only at h
          exact bj _ [0]
      ·
        rintro ⟨out624, carry628⟩ h
        try dsimp only at h
        refine ixO h fun x687 h => ?_
        refine stO true h fun x693 h => ?_
        cases h
        exact bl [0]
    ·
      cases h
      cases hd485 _ rfl
      replace h := g483
      try dsimp only at h
      exact bj _ [0]
  ·
    intro out478 h
    try dsimp only at h
    cases h
    exact rt [0]
theorem bshort_c (N : Nat) (a : (List Int)) (pb : Int) (r : ((List Int) × Int)) (h : bshort N a pb = some r) : Cn Tryz.prog 188 [sR (rInt .u32) false a, sI .u32 pb] [.row (rInt .u32) true r.1] [sO 0, sI .u32 r.2] := by
  unfold bshort at h
  refine fn tb en188 Tryz.func188 fun X w H ν => ?_
  refine mkO (rInt .u32) h fun x2 h => ?_
  refine jn (fun x => x) (fun ⟨out132, rest136⟩ => mkS 1 [.row (rInt .u32) true out132] [vo 6 0, vk 7 .u64 rest136]) h (fun s137 hl139 g138 => ?_) ?_
  ·
    refine bk ?_
    refine lp (fun ⟨out124, rest128, i129⟩ => mkS 1 [.row (rInt .u32) true out124] [vr 0 (rInt .u32) false a, vk 1 .u32 pb, vo 6 0, vk 7 .u64 rest128, vi 8 i129]) hl139 [0] ?_
    rintro ⟨out124, rest128, i129⟩ oo h hd140
    rw [bshort_b1] at h
    refine cd h (fun hc145 h => ?_) (fun hc145 h => ?_)
    ·
      refine bk ?_
      refine slL ?_
      refine ixR h fun x146 h => ?_
      refine quB h fun x160 h => ?_
      refine ixO h fun x164 h => ?_
      refine stO true h fun x170 h => ?_
      refine reB h fun x185 h => ?_
      cases h
      exact bl [0]
    ·
      cases h
      cases hd140 _ rfl
      replace h := g138
      try dsimp only at h
      exact bj _ [0]
  ·
    rintro ⟨out132, rest136⟩ h
    try dsimp only at h
    cases h
    exact rt [0]
end Go.Proofs.YtcakdidcpoolcaaGreatDoor.SA

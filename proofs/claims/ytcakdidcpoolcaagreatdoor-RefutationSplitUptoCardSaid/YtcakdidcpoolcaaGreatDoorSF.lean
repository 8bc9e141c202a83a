/- Walks of the symbolic machine, written by a program of mine (wip/tool). -/
import Derived.Test.YtcakdidcpoolcaaGreatDoorTB
import Derived.Test.YtcakdidcpoolcaaGreatDoorAd
set_option maxRecDepth 100000
set_option maxHeartbeats 4000000
set_option linter.unusedVariables false
set_option linter.unusedSimpArgs false
namespace Go.Proofs.YtcakdidcpoolcaaGreatDoor.SF
open Go Go.RowKit Go.X Go.Q Go.D Go.Proofs.YtcakdidcpoolcaaGreatDoor.TB 
theorem pClosure_c (N : Nat) (pattern : (List UInt8)) (vset : Int) (r : Int) (h : pClosure N pattern vset = some r) : Cn Tryz.prog 195 [sT pattern, sI .u32 vset] [] [sI .u32 r] := by
  unfold pClosure at h
  refine fn tb en195 Tryz.func195 fun X w H ν => ?_
  refine jn (fun x => x) (fun vset63 => mkS 0 [] [vk 1 .u32 vset63]) h (fun s64 hl66 g65 => ?_) ?_
  ·
    refine bk ?_
    refine lp (fun ⟨vset61, x62⟩ => mkS 0 [] [vt 0 pattern, vk 1 .u32 vset61, vi 7 (List.length pattern : Int), vi 8 x62]) hl66 [] ?_
    rintro ⟨vset61, x62⟩ oo h hd67
    rw [pClosure_b1] at h
    refine cd h (fun hc71 h => ?_) (fun hc71 h => ?_)
    ·
      refine bk ?_
      refine jn (fun x => x) (fun x81 => mkS 0 [] [vt 0 pattern, vk 1 .u32 vset61, vi 5 x62, vi 7 (List.length pattern : Int), vi 8 x62, vb 21 x81]) h (fun s82 h g83 => ?_) ?_
      ·
        refine rg ?_
        refine ixS h fun x84 h => ?_
        refine gd h (fun hc89 h => ?_) (fun hc89 h => ?_)
        ·
          refine srB h fun u90 h => ?_
          cases h
          exact bj _ []
        ·
          cases h
          exact bj _ []
      ·
        intro x81 h
        try dsimp only at h
        refine cd h (fun hc96 h => ?_) (fun hc96 h => ?_)
        ·
          refine slB h fun u97 h => ?_
          cases h
          exact bl []
        ·
          cases h
          exact bl []
    ·
      cases h
      cases hd67 _ rfl
      replace h := g65
      try dsimp only at h
      exact bj _ []
  ·
    intro vset63 h
    try dsimp only at h
    cases h
    exact rt []
theorem pBegin_c (N : Nat) (t : TTest) (r : Int) (h : pBegin N t = some r) : Cn Tryz.prog 184 [sA rTTest false t] [] [sI .u32 r] := by
  unfold pBegin at h
  refine fn tb en184 Tryz.func184 fun X w H ν => ?_
  refine cd h (fun hc6 h => ?_) (fun hc6 h => ?_)
  ·
    refine cl none [] 0 h (pClosure_c N _ _) fun r7 h => ?_
    cases h
    exact rt []
  ·
    cases h
    exact rt []
theorem pNext_c (N : Nat) (t : TTest) (s : Int) (c : Int) (r : Int) (h : pNext N t s c = some r) : Cn Tryz.prog 183 [sA rTTest false t, sI .u32 s, sI .u8 c] [] [sI .u32 r] := by
  unfold pNext at h
  refine fn tb en183 Tryz.func183 fun X w H ν => ?_
  refine cd h (fun hc6 h => ?_) (fun hc6 h => ?_)
  ·
    refine jn (fun x => x) (fun out69 => mkS 1 [.box (Opn.cl rTTest true t)] [vp 3 0, vk 7 .u32 out69]) h (fun s70 hl72 g71 => ?_) ?_
    ·
      refine bk ?_
      refine lp (fun ⟨out66, x67⟩ => mkS 1 [.box (Opn.cl rTTest true t)] [vk 1 .u32 s, vk 2 .u8 c, vp 3 0, vk 7 .u32 out66, vi 15 (List.length t.Text : Int), vi 16 x67]) hl72 [0] ?_
      rintro ⟨out66, x67⟩ oo h hd73
      rw [pNext_b1] at h
      refine cd h (fun hc77 h => ?_) (fun hc77 h => ?_)
      ·
        refine bk ?_
        refine srB h fun u78 h => ?_
        refine cd h (fun hc81 h => ?_) (fun hc81 h => ?_)
        ·
          cases h
          exact bl [0]
        ·
          refine ixS h fun x82 h => ?_
          refine bk ?_
          refine cd h (fun hc87 h => ?_) (fun hc87 h => ?_)
          ·
            refine slB h fun u88 h => ?_
            cases h
            exact bl [0]
          ·
            refine jn (fun x => x) (fun x93 => mkS 1 [.box (Opn.cl rTTest true t)] [vk 1 .u32 s, vk 2 .u8 c, vp 3 0, vk 7 .u32 out66, vi 8 x67, vi 15 (List.length t.Text : Int), vi 16 x67, vb 35 x93]) h (fun s94 h g95 => ?_) ?_
            ·
              refine rg ?_
              refine gd h (fun hc96 h => ?_) (fun hc96 h => ?_)
              ·
                cases h
                exact bj _ [0]
              ·
                cases h
                exact bj _ [0]
            ·
              intro x93 h
              try dsimp only at h
              refine cd h (fun hc100 h => ?_) (fun hc100 h => ?_)
              ·
                refine slB h fun u101 h => ?_
                cases h
                exact bl [0]
              ·
                cases h
                exact bl [0]
      ·
        cases h
        cases hd73 _ rfl
        replace h := g71
        try dsimp only at h
        exact bj _ [0]
    ·
      intro out69 h
      try dsimp only at h
      refine cl none [] 0 h (pClosure_c N _ _) fun r107 h => ?_
      cases h
      exact rt []
  ·
    refine bk ?_
    refine cd h (fun hc114 h => ?_) (fun hc114 h => ?_)
    ·
      cases h
      exact rt []
    ·
      refine jn (fun x => x) (fun x122 => mkS 1 [.box (Opn.cl rTTest true t)] [vk 1 .u32 s, vk 2 .u8 c, vp 3 0, vb 57 x122]) h (fun s123 h g124 => ?_) ?_
      ·
        refine rg ?_
        refine gd h (fun hc125 h => ?_) (fun hc125 h => ?_)
        ·
          cases h
          exact bj _ [0]
        ·
          refine ixS h fun x126 h => ?_
          cases h
          exact bj _ [0]
      ·
        intro x122 h
        try dsimp only at h
        refine cd h (fun hc134 h => ?_) (fun hc134 h => ?_)
        ·
          cases h
          exact rt []
        ·
          refine ixS h fun x135 h => ?_
          refine cd h (fun hc140 h => ?_) (fun hc140 h => ?_)
          ·
            cases h
            exact rt []
          ·
            cases h
            exact rt []
theorem pPassed_c (N : Nat) (t : TTest) (s : Int) (r : Bool) (h : pPassed N t s = some r) : Cn Tryz.prog 181 [sA rTTest false t, sI .u32 s] [] [sB r] := by
  unfold pPassed at h
  refine fn tb en181 Tryz.func181 fun X w H ν => ?_
  refine jn (fun x => x) (fun ok15 => mkS 1 [.box (Opn.cl rTTest true t)] [vp 2 0, vb 5 ok15]) h (fun s16 h g17 => ?_) ?_
  ·
    refine bk ?_
    refine cd h (fun hc18 h => ?_) (fun hc18 h => ?_)
    ·
      refine srB h fun u19 h => ?_
      cases h
      exact bj _ [0]
    ·
      refine cd h (fun hc22 h => ?_) (fun hc22 h => ?_)
      ·
        cases h
        exact bj _ [0]
      ·
        refine cd h (fun hc23 h => ?_) (fun hc23 h => ?_)
        ·
          refine rg ?_
          refine gd h (fun hc24 h => ?_) (fun hc24 h => ?_)
          ·
            cases h
            exact bj _ [0]
          ·
            cases h
            exact bj _ [0]
        ·
          refine rg ?_
          refine gd h (fun hc25 h => ?_) (fun hc25 h => ?_)
          ·
            cases h
            exact bj _ [0]
          ·
            cases h
            exact bj _ [0]
  ·
    intro ok15 h
    try dsimp only at h
    cases h
    exact rt []
theorem pKey_c (N : Nat) (l : (List Int)) (left : Int) (r : (List UInt8)) (h : pKey N l left = some r) : Cn Tryz.prog 182 [sR (rInt .u32) false l, sI .i64 left] [] [sT r] := by
  unfold pKey at h
  refine fn tb en182 Tryz.func182 fun X w H ν => ?_
  refine litO (rInt .u8) true [(uw8 left)] ?_
  refine jn (fun x => x) (fun b124 => mkS 1 [.row (rInt .u8) true b124] [vo 5 0]) h (fun s128 hl130 g129 => ?_) ?_
  ·
    refine bk ?_
    refine lp (fun ⟨b114, x118⟩ => mkS 1 [.row (rInt .u8) true b114] [vo 5 0, vr 11 (rInt .u32) false l, vi 12 (List.length l : Int), vi 13 x118]) hl130 [0] ?_
    rintro ⟨b114, x118⟩ oo h hd131
    rw [pKey_b1] at h
    refine cd h (fun hc136 h => ?_) (fun hc136 h => ?_)
    ·
      refine bk ?_
      refine ixR h fun x137 h => ?_
      refine srL ?_
      refine srL ?_
      refine litO (rInt .u8) true [(uw8 x137), (uw8 (bshr .u32 x137 8)), (uw8 (bshr .u32 x137 16))] ?_
      refine apO true h fun x159 h => ?_
      cases h
      exact bl [2]
    ·
      cases h
      cases hd131 _ rfl
      replace h := g129
      try dsimp only at h
      exact bj _ [0]
  ·
    intro b124 h
    try dsimp only at h
    refine cvT ?_
    cases h
    exact rt []
theorem pFind_c (N : Nat) : ∀ (f : TFinder) (l : (List Int)) (text : (List Int)) (left : Int) (r : (Bool × (List (List UInt8)) × (List ((List UInt8) × Bool)))) (h : pFind N f l text left = some r), Cx Tryz.prog 165 [.lf (.ptr 0 0), sR (rInt .u32) false l, sO 3, sI .i64 left] [.box [.ro rTTest false f.tests, lI .i64 f.most, .own 1, .mp 2], .row rStr true f.out, .map inferInstance ((fun x : List UInt8 => Value.string (s8 x))) ((fun x : Bool => Value.bool x)) f.dead, .row (rInt .u8) true text] [(0, some (.box [.ro rTTest false f.tests, lI .i64 f.most, .own 4, .mp 2])), (2, some (.map inferInstance ((fun x : List UInt8 => Value.string (s8 x))) ((fun x : Bool => Value.bool x)) r.2.2)), (3, some (.row (rInt .u8) true text)), (4, some (.row rStr true r.2.1))] [sB r.1] := by
  induction N with
  | zero => intro f l text left r h; cases h
  | succ N ih =>
    intro f l text left r h
    replace h : pFind_step N (pFind N) f l text left = some r := h
    unfold pFind_step at h
    refine fnv (m := 4) tb (mvb 0 2 1) en165 Tryz.func165 fun X w H ν => ?_
    refine cd h (fun hc5 h => ?_) (fun hc5 h => ?_)
    ·
      refine jn (fun x => (Sum.inl x)) (fun (_ : Unit) => mkG 5 [some (.box [(.ro rTTest false f.tests), (lI .i64 f.most), (.own 4), (.mp 2)]), none, some (.map inferInstance ((fun x : List UInt8 => Value.string (s8 x))) ((fun x : Bool => Value.bool x)) f.dead), some (.row (rInt .u8) true text), some (.row rStr true f.out)] [vp 0 0, vo 2 3]) h (fun s150 hl152 g151 => ?_) ?_
      ·
        refine bk ?_
        refine lp (fun x141 => mkG 5 [some (.box [(.ro rTTest false f.tests), (lI .i64 f.most), (.own 4), (.mp 2)]), none, some (.map inferInstance ((fun x : List UInt8 => Value.string (s8 x))) ((fun x : Bool => Value.bool x)) f.dead), some (.row (rInt .u8) true text), some (.row rStr true f.out)] [vp 0 0, vr 1 (rInt .u32) false l, vo 2 3, vr 22 rTTest false f.tests, vi 23 (List.length f.tests : Int), vi 24 x141]) hl152 [0, 1, 2, 3, 4] ?_
        rintro x141 oo h hd153
        rw [pFind_b1] at h
        refine cd h (fun hc157 h => ?_) (fun hc157 h => ?_)
        ·
          refine bk ?_
          refine ixR h fun x158 h => ?_
          refine dr mixed ?_
          refine ixR h fun x181 h => ?_
          refine cl none [] 0 h (pPassed_c N _ _) fun r195 h => ?_
          refine dk ?_
          refine cd h (fun hc202 h => ?_) (fun hc202 h => ?_)
          ·
            cases h
            cases hd153 _ rfl
            replace h := g151
            try dsimp only at h
            cases h
            exact rt [0, 1, 2, 3, 4]
          ·
            cases h
            exact bl [0, 1, 2, 3, 4]
        ·
          cases h
          cases hd153 _ rfl
          replace h := g151
          try dsimp only at h
          exact bj _ [0, 1, 2, 3, 4]
      ·
        intro _ h
        try dsimp only at h
        refine dr mixed ?_
        refine cvT ?_
        refine litO rStr true [(bstr text)] ?_
        refine apO true h fun x224 h => ?_
        refine dk ?_
        cases h
        exact rt [0, 1, 2, 3, 6]
    ·
      refine cl none [] 0 h (pKey_c N _ _) fun r253 h => ?_
      refine luN (false : Bool) r253 mky_9 (fun _ => rfl) ?_
      refine cd h (fun hc260 h => ?_) (fun hc260 h => ?_)
      ·
        cases h
        exact rt [0, 1, 2, 3, 4]
      ·
        refine jn (fun x => x) (fun ⟨out1054, dead1059, found1065⟩ => mkG 5 [some (.box [(.ro rTTest false f.tests), (lI .i64 f.most), (.own 4), (.mp 2)]), none, some (.map inferInstance ((fun x : List UInt8 => Value.string (s8 x))) ((fun x : Bool => Value.bool x)) dead1059), some (.row (rInt .u8) true text), some (.row rStr true out1054)] [vp 0 0, vo 2 3, vt 11 r253, vb 12 found1065]) h (fun s1066 hl1068 g1067 => ?_) ?_
        ·
          refine bk ?_
          refine lp (fun ⟨out1035, dead1040, found1046, c1047⟩ => mkG 5 [some (.box [(.ro rTTest false f.tests), (lI .i64 f.most), (.own 4), (.mp 2)]), none, some (.map inferInstance ((fun x : List UInt8 => Value.string (s8 x))) ((fun x : Bool => Value.bool x)) dead1040), some (.row (rInt .u8) true text), some (.row rStr true out1035)] [vp 0 0, vr 1 (rInt .u32) false l, vo 2 3, vi 3 left, vt 11 r253, vb 12 found1046, vk 13 .i32 c1047]) hl1068 [0, 1, 2, 3, 4] ?_
          rintro ⟨out1035, dead1040, found1046, c1047⟩ oo h hd1069
          rw [pFind_b2] at h
          refine jn (fun x => x) (fun x1084 => mkG 5 [some (.box [(.ro rTTest false f.tests), (lI .i64 f.most), (.own 4), (.mp 2)]), none, some (.map inferInstance ((fun x : List UInt8 => Value.string (s8 x))) ((fun x : Bool => Value.bool x)) dead1040), some (.row (rInt .u8) true text), some (.row rStr true out1035)] [vp 0 0, vr 1 (rInt .u32) false l, vo 2 3, vi 3 left, vt 11 r253, vb 12 found1046, vk 13 .i32 c1047, vb 70 x1084]) h (fun s1085 h g1086 => ?_) ?_
          ·
            refine dr mixed ?_
            refine gd h (fun hc1087 h => ?_) (fun hc1087 h => ?_)
            ·
              refine dk ?_
              cases h
              exact bj _ [0, 1, 2, 3, 4]
            ·
              refine dk ?_
              cases h
              exact bj _ [0, 1, 2, 3, 4]
          ·
            intro x1084 h
            try dsimp only at h
            refine cd h (fun hc1091 h => ?_) (fun hc1091 h => ?_)
            ·
              refine bk ?_
              refine mkO (rInt .u32) h fun x1094 h => ?_
              refine jn (fun x => x) (fun more1299 => mkG 6 [some (.box [(.ro rTTest false f.tests), (lI .i64 f.most), (.own 4), (.mp 2)]), none, some (.map inferInstance ((fun x : List UInt8 => Value.string (s8 x))) ((fun x : Bool => Value.bool x)) dead1040), some (.row (rInt .u8) true text), some (.row rStr true out1035), some (.row (rInt .u32) true more1299)] [vp 0 0, vr 1 (rInt .u32) false l, vo 2 3, vi 3 left, vt 11 r253, vb 12 found1046, vk 13 .i32 c1047, vo 14 5]) h (fun s1303 hl1305 g1304 => ?_) ?_
              ·
                refine bk ?_
                refine lp (fun ⟨more1284, x1288⟩ => mkG 6 [some (.box [(.ro rTTest false f.tests), (lI .i64 f.most), (.own 4), (.mp 2)]), none, some (.map inferInstance ((fun x : List UInt8 => Value.string (s8 x))) ((fun x : Bool => Value.bool x)) dead1040), some (.row (rInt .u8) true text), some (.row rStr true out1035), some (.row (rInt .u32) true more1284)] [vp 0 0, vr 1 (rInt .u32) false l, vo 2 3, vi 3 left, vt 11 r253, vb 12 found1046, vk 13 .i32 c1047, vo 14 5, vr 79 rTTest false f.tests, vi 80 (List.length f.tests : Int), vi 81 x1288]) hl1305 [0, 1, 2, 3, 4, 5] ?_
                rintro ⟨more1284, x1288⟩ oo h hd1306
                rw [pFind_b3] at h
                refine cd h (fun hc1315 h => ?_) (fun hc1315 h => ?_)
                ·
                  refine bk ?_
                  refine ixR h fun x1316 h => ?_
                  refine dr mixed ?_
                  refine ixR h fun x1339 h => ?_
                  refine cl none [] 0 h (pNext_c N _ _ _) fun r1353 h => ?_
                  refine ixO h fun x1360 h => ?_
                  refine stO true h fun x1366 h => ?_
                  refine dk ?_
                  cases h
                  exact bl [0, 1, 2, 3, 4, 5]
                ·
                  cases h
                  cases hd1306 _ rfl
                  replace h := g1304
                  try dsimp only at h
                  exact bj _ [0, 1, 2, 3, 4, 5]
              ·
                intro more1299 h
                try dsimp only at h
                refine litO (rInt .u8) true [(uw8 c1047)] ?_
                refine apX h fun x1398 q1399 h => ?_
                refine po (fzk 5 [14, 99] []) ?_
                refine cl (some false) [0, 4, 2, 7] 1 h (ih _ _ _ _) (fun r1412 h => ?_)
                refine ps (shX 8 7 q1399) ?_
                refine cd h (fun hc1439 h => ?_) (fun hc1439 h => ?_)
                ·
                  cases h
                  exact bl [0, 1, 2, 3, 9]
                ·
                  cases h
                  exact bl [0, 1, 2, 3, 9]
            ·
              cases h
              cases hd1069 _ rfl
              replace h := g1067
              try dsimp only at h
              exact bj _ [0, 1, 2, 3, 4]
        ·
          rintro ⟨out1054, dead1059, found1065⟩ h
          try dsimp only at h
          refine cd h (fun hc1454 h => ?_) (fun hc1454 h => ?_)
          ·
            refine puM r253 true mky_9 ?_
            cases h
            exact rt [0, 1, 2, 3, 4]
          ·
            cases h
            exact rt [0, 1, 2, 3, 4]
theorem pFBegin_c (N : Nat) (f : TFinder) (r : ((List Int) × (List (List UInt8)) × (List ((List UInt8) × Bool)))) (h : pFBegin N f = some r) : Cx Tryz.prog 166 [.lf (.ptr 0 0)] [.box [.ro rTTest false f.tests, lI .i64 f.most, .own 1, .mp 2], .row rStr true f.out, .map inferInstance ((fun x : List UInt8 => Value.string (s8 x))) ((fun x : Bool => Value.bool x)) f.dead] [(0, some (.box [.ro rTTest false f.tests, lI .i64 f.most, .own 3, .mp 2])), (2, some (.map inferInstance ((fun x : List UInt8 => Value.string (s8 x))) ((fun x : Bool => Value.bool x)) r.2.2)), (3, some (.row rStr true r.2.1))] [sR (rInt .u32) true r.1] := by
  unfold pFBegin at h
  refine fnv (m := 3) tb (mvb 0 2 1) en166 Tryz.func166 fun X w H ν => ?_
  refine jn (fun x => x) (fun l165 => mkG 5 [some (.box [(.ro rTTest false f.tests), (lI .i64 f.most), (.own 3), (.mp 2)]), none, some (.map inferInstance ((fun x : List UInt8 => Value.string (s8 x))) ((fun x : Bool => Value.bool x)) f.dead), some (.row rStr true f.out), some (.row (rInt .u32) true l165)] [vp 0 0, vo 3 4]) h (fun s169 hl171 g170 => ?_) ?_
  ·
    refine bk ?_
    refine ps (nl 3 (rInt .u32)) ?_
    refine lp (fun ⟨l152, x156⟩ => mkG 5 [some (.box [(.ro rTTest false f.tests), (lI .i64 f.most), (.own 3), (.mp 2)]), none, some (.map inferInstance ((fun x : List UInt8 => Value.string (s8 x))) ((fun x : Bool => Value.bool x)) f.dead), some (.row rStr true f.out), some (.row (rInt .u32) true l152)] [vp 0 0, vo 3 4, vr 9 rTTest false f.tests, vi 10 (List.length f.tests : Int), vi 11 x156]) hl171 [0, 1, 2, 3, 4] ?_
    rintro ⟨l152, x156⟩ oo h hd172
    rw [pFBegin_b1] at h
    refine cd h (fun hc184 h => ?_) (fun hc184 h => ?_)
    ·
      refine bk ?_
      refine ixR h fun x185 h => ?_
      refine cl none [] 0 h (pBegin_c N _) fun r208 h => ?_
      refine litO (rInt .u32) true [r208] ?_
      refine apO true h fun x223 h => ?_
      cases h
      exact bl [0, 1, 2, 3, 7]
    ·
      cases h
      cases hd172 _ rfl
      replace h := g170
      try dsimp only at h
      exact bj _ [0, 1, 2, 3, 4]
  ·
    intro l165 h
    try dsimp only at h
    cases h
    exact rt [0, 1, 2, 3]
theorem pWords_c (N : Nat) (l : (List TTest)) (length : Int) (most : Int) (r : (List (List UInt8))) (h : pWords N l length most = some r) : Cn Tryz.prog 149 [sR rTTest false l, sI .i64 length, sI .i64 most] [.row rStr true r] [sO 0] := by
  unfold pWords at h
  refine fn tb en149 Tryz.func149 fun X w H ν => ?_
  refine jn (fun x => x) (fun x2 => mkS 0 [] [vr 0 rTTest false l, vi 1 length, vi 2 most, vb 13 x2]) h (fun s3 h g4 => ?_) ?_
  ·
    refine rg ?_
    refine gd h (fun hc5 h => ?_) (fun hc5 h => ?_)
    ·
      cases h
      exact bj _ []
    ·
      cases h
      exact bj _ []
  ·
    intro x2 h
    try dsimp only at h
    refine cd h (fun hc9 h => ?_) (fun hc9 h => ?_)
    ·
      refine pr (nl 6 rStr) ?_
      cases h
      exact rt [0]
    ·
      refine mkM inferInstance (fun x : List UInt8 => Value.string (s8 x)) (fun x : Bool => Value.bool x) ?_
      refine po (nb 1 2 rStr) ?_
      refine cl (some false) [1, 2, 0] 1 h (pFBegin_c N _) (fun r32 h => ?_)
      refine cl (some false) [1, 3, 0] 2 h (fun r hr => nil3 rfl (pFind_c N _ _ _ _ r hr)) (fun r58 h => ?_)
      cases h
      exact rt [5]
end Go.Proofs.YtcakdidcpoolcaaGreatDoor.SF

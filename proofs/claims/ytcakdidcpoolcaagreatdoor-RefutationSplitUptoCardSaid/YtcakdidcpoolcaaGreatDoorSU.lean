/- Walks of the symbolic machine, written by a program of mine (wip/tool). -/
import Derived.Test.YtcakdidcpoolcaaGreatDoorTB
import Derived.Test.YtcakdidcpoolcaaGreatDoorAd
import Derived.Test.YtcakdidcpoolcaaGreatDoorSD
set_option maxRecDepth 100000
set_option maxHeartbeats 4000000
set_option linter.unusedVariables false
set_option linter.unusedSimpArgs false
namespace Go.Proofs.YtcakdidcpoolcaaGreatDoor.SU
open Go Go.RowKit Go.X Go.Q Go.D Go.Proofs.YtcakdidcpoolcaaGreatDoor.TB Go.Proofs.YtcakdidcpoolcaaGreatDoor.SD
theorem wRanges_c (N : Nat) (l : (List RVar)) (r : (List Arr2Int)) (h : wRanges N l = some r) : Cn Tryz.prog 26 [sR rRVar false l] [.row rArr2Int true r] [sO 0] := by
  unfold wRanges at h
  refine fn tb en26 Tryz.func26 fun X w H ν => ?_
  refine jn (fun x => x) (fun out237 => mkS 1 [.row rArr2Int true out237] [vo 3 0]) h (fun s241 hl243 g242 => ?_) ?_
  ·
    refine bk ?_
    refine ps (nl 3 rArr2Int) ?_
    refine lp (fun ⟨out227, i231⟩ => mkS 1 [.row rArr2Int true out227] [vr 0 rRVar false l, vo 3 0, vi 4 i231]) hl243 [0] ?_
    rintro ⟨out227, i231⟩ oo h hd244
    rw [wRanges_b1] at h
    refine cd h (fun hc253 h => ?_) (fun hc253 h => ?_)
    ·
      refine bk ?_
      refine ixR h fun x263 h => ?_
      refine jn (fun x => x) (fun x299 => mkS 2 [.row rArr2Int true out227, .box (Opn.cl rArr2Int true x299)] [vr 0 rRVar false l, vo 3 0, vi 4 i231, vp 5 1]) h (fun s300 h g301 => ?_) ?_
      ·
        refine cd h (fun hc302 h => ?_) (fun hc302 h => ?_)
        ·
          refine ixR h fun x303 h => ?_
          cases h
          exact bj _ [0, 1]
        ·
          cases h
          exact bj _ [0, 1]
      ·
        intro x299 h
        try dsimp only at h
        refine litO rArr2Int true [x299] ?_
        refine apO true h fun x338 h => ?_
        cases h
        exact bl [3]
    ·
      cases h
      cases hd244 _ rfl
      replace h := g242
      try dsimp only at h
      exact bj _ [0]
  ·
    intro out237 h
    try dsimp only at h
    cases h
    exact rt [0]
theorem wparts_c (N : Nat) : ∀ (pa : Refut) (r : Int) (h : wparts N pa = some r), Cn Tryz.prog 59 [sA rRefut false pa] [] [sI .i64 r] := by
  induction N with
  | zero => intro pa r h; cases h
  | succ N ih =>
    intro pa r h
    replace h : wparts_step N (wparts N) pa = some r := h
    unfold wparts_step at h
    refine fn tb en59 Tryz.func59 fun X w H ν => ?_
    refine cl none [] 0 h (rSmallProof_c N _) fun r6 h => ?_
    refine cd h (fun hc17 h => ?_) (fun hc17 h => ?_)
    ·
      cases h
      exact rt []
    ·
      refine jn (fun x => x) (fun n117 => mkS 0 [] [vi 3 n117]) h (fun s118 hl120 g119 => ?_) ?_
      ·
        refine bk ?_
        refine lp (fun ⟨n115, i116⟩ => mkS 1 [.box (Opn.cl rRefut false pa)] [vp 1 0, vi 3 n115, vi 4 i116]) hl120 [0] ?_
        rintro ⟨n115, i116⟩ oo h hd121
        rw [wparts_b1] at h
        refine jn (fun x => x) (fun x128 => mkS 1 [.box (Opn.cl rRefut false pa)] [vp 1 0, vi 3 n115, vi 4 i116, vb 17 x128]) h (fun s129 h g130 => ?_) ?_
        ·
          refine rg ?_
          refine gd h (fun hc132 h => ?_) (fun hc132 h => ?_)
          ·
            cases h
            exact bj _ [0]
          ·
            cases h
            exact bj _ [0]
        ·
          intro x128 h
          try dsimp only at h
          refine cd h (fun hc136 h => ?_) (fun hc136 h => ?_)
          ·
            refine bk ?_
            refine ixR h fun x137 h => ?_
            refine cl none [] 0 h (ih _) fun r161 h => ?_
            cases h
            exact bl [0]
          ·
            cases h
            cases hd121 _ rfl
            replace h := g119
            try dsimp only at h
            exact bj _ []
      ·
        intro n117 h
        try dsimp only at h
        cases h
        exact rt []
theorem wSmall_c (N : Nat) (pa : Refut) (r : Bool) (h : wSmall N pa = some r) : Cn Tryz.prog 28 [sA rRefut false pa] [] [sB r] := by
  unfold wSmall at h
  refine fn tb en28 Tryz.func28 fun X w H ν => ?_
  refine cl none [] 0 h (wparts_c N _) fun r6 h => ?_
  cases h
  exact rt []
theorem wRight_c (N : Nat) (l : (List RVar)) (ranges : (List Arr2Int)) (r : Bool) (h : wRight N l ranges = some r) : Cn Tryz.prog 38 [sR rRVar false l, sR rArr2Int false ranges] [] [sB r] := by
  unfold wRight at h
  refine fn tb en38 Tryz.func38 fun X w H ν => ?_
  refine cd h (fun hc1 h => ?_) (fun hc1 h => ?_)
  ·
    cases h
    exact rt []
  ·
    refine jn (fun x => (Sum.inl x)) (fun (_ : Unit) => mkS 0 [] []) h (fun s264 hl266 g265 => ?_) ?_
    ·
      refine bk ?_
      refine lp (fun i263 => mkS 0 [] [vr 1 rArr2Int false ranges, vi 5 i263]) hl266 [] ?_
      rintro i263 oo h hd267
      rw [wRight_b1] at h
      refine cd h (fun hc272 h => ?_) (fun hc272 h => ?_)
      ·
        refine bk ?_
        refine jn (fun x => x) (fun x332 => mkS 0 [] [vr 1 rArr2Int false ranges, vi 5 i263, vb 46 x332]) h (fun s333 h g334 => ?_) ?_
        ·
          refine rg ?_
          refine ixR h fun x335 h => ?_
          refine gd h (fun hc349 h => ?_) (fun hc349 h => ?_)
          ·
            cases h
            exact bj _ []
          ·
            refine ixR h fun x350 h => ?_
            refine gd h (fun hc364 h => ?_) (fun hc364 h => ?_)
            ·
              cases h
              exact bj _ []
            ·
              refine ixR h fun x365 h => ?_
              refine gd h (fun hc379 h => ?_) (fun hc379 h => ?_)
              ·
                cases h
                exact bj _ []
              ·
                refine ixR h fun x380 h => ?_
                cases h
                exact bj _ []
        ·
          intro x332 h
          try dsimp only at h
          refine cd h (fun hc397 h => ?_) (fun hc397 h => ?_)
          ·
            cases h
            cases hd267 _ rfl
            replace h := g265
            try dsimp only at h
            cases h
            exact rt []
          ·
            cases h
            exact bl []
      ·
        cases h
        cases hd267 _ rfl
        replace h := g265
        try dsimp only at h
        exact bj _ []
    ·
      intro _ h
      try dsimp only at h
      cases h
      exact rt []
theorem wShort_c (N : Nat) (l : (List RVar)) (c : RClause) (r : Bool) (h : wShort N l c = some r) : Cn Tryz.prog 27 [sR rRVar false l, sA rRClause false c] [] [sB r] := by
  unfold wShort at h
  refine fn tb en27 Tryz.func27 fun X w H ν => ?_
  refine jn (fun x => (Sum.inl x)) (fun n84 => mkS 1 [.box (Opn.cl rRClause false c)] [vr 0 rRVar false l, vp 3 0, vi 5 n84]) h (fun s85 hl87 g86 => ?_) ?_
  ·
    refine bk ?_
    refine lp (fun ⟨n81, i82⟩ => mkS 1 [.box (Opn.cl rRClause false c)] [vr 0 rRVar false l, vp 3 0, vi 5 n81, vi 6 i82]) hl87 [0] ?_
    rintro ⟨n81, i82⟩ oo h hd88
    rw [wShort_b1] at h
    refine cd h (fun hc93 h => ?_) (fun hc93 h => ?_)
    ·
      refine bk ?_
      refine ixR h fun x94 h => ?_
      refine cd h (fun hc108 h => ?_) (fun hc108 h => ?_)
      ·
        refine ixR h fun x109 h => ?_
        refine cd h (fun hc123 h => ?_) (fun hc123 h => ?_)
        ·
          cases h
          cases hd88 _ rfl
          replace h := g86
          try dsimp only at h
          cases h
          exact rt []
        ·
          cases h
          exact bl [0]
      ·
        cases h
        exact bl [0]
    ·
      cases h
      cases hd88 _ rfl
      replace h := g86
      try dsimp only at h
      exact bj _ [0]
  ·
    intro n84 h
    try dsimp only at h
    refine rg ?_
    refine gd h (fun hc127 h => ?_) (fun hc127 h => ?_)
    ·
      cases h
      exact rt []
    ·
      cases h
      exact rt []
theorem wDomains_c (N : Nat) (l : (List RVar)) (r : Bool) (h : wDomains N l = some r) : Cn Tryz.prog 35 [sR rRVar false l] [] [sB r] := by
  unfold wDomains at h
  refine fn tb en35 Tryz.func35 fun X w H ν => ?_
  refine jn (fun x => (Sum.inl x)) (fun (_ : Unit) => mkS 0 [] [vr 0 rRVar false l]) h (fun s159 hl161 g160 => ?_) ?_
  ·
    refine bk ?_
    refine lp (fun i158 => mkS 0 [] [vr 0 rRVar false l, vi 3 i158]) hl161 [] ?_
    rintro i158 oo h hd162
    rw [wDomains_b1] at h
    refine cd h (fun hc167 h => ?_) (fun hc167 h => ?_)
    ·
      refine bk ?_
      refine ixR h fun x168 h => ?_
      refine jn (fun x => x) (fun x195 => mkS 1 [.box (Opn.cl rRVar true x168)] [vr 0 rRVar false l, vi 3 i158, vp 4 0, vb 37 x195]) h (fun s196 h g197 => ?_) ?_
      ·
        refine rg ?_
        refine gd h (fun hc198 h => ?_) (fun hc198 h => ?_)
        ·
          refine gd h (fun hc199 h => ?_) (fun hc199 h => ?_)
          ·
            cases h
            exact bj _ [0]
          ·
            refine gd h (fun hc200 h => ?_) (fun hc200 h => ?_)
            ·
              cases h
              exact bj _ [0]
            ·
              refine gd h (fun hc201 h => ?_) (fun hc201 h => ?_)
              ·
                cases h
                exact bj _ [0]
              ·
                cases h
                exact bj _ [0]
        ·
          cases h
          exact bj _ [0]
      ·
        intro x195 h
        try dsimp only at h
        refine cd h (fun hc205 h => ?_) (fun hc205 h => ?_)
        ·
          cases h
          cases hd162 _ rfl
          replace h := g160
          try dsimp only at h
          cases h
          exact rt []
        ·
          refine jn (fun x => x) (fun x211 => mkS 0 [] [vr 0 rRVar false l, vi 3 i158, vb 60 x211]) h (fun s212 h g213 => ?_) ?_
          ·
            refine rg ?_
            refine gd h (fun hc214 h => ?_) (fun hc214 h => ?_)
            ·
              refine gd h (fun hc215 h => ?_) (fun hc215 h => ?_)
              ·
                cases h
                exact bj _ []
              ·
                refine gd h (fun hc219 h => ?_) (fun hc219 h => ?_)
                ·
                  cases h
                  exact bj _ []
                ·
                  refine gd h (fun hc223 h => ?_) (fun hc223 h => ?_)
                  ·
                    cases h
                    exact bj _ []
                  ·
                    cases h
                    exact bj _ []
            ·
              refine gd h (fun hc230 h => ?_) (fun hc230 h => ?_)
              ·
                cases h
                exact bj _ []
              ·
                cases h
                exact bj _ []
          ·
            intro x211 h
            try dsimp only at h
            refine cd h (fun hc240 h => ?_) (fun hc240 h => ?_)
            ·
              cases h
              cases hd162 _ rfl
              replace h := g160
              try dsimp only at h
              cases h
              exact rt []
            ·
              cases h
              exact bl []
    ·
      cases h
      cases hd162 _ rfl
      replace h := g160
      try dsimp only at h
      exact bj _ []
  ·
    intro _ h
    try dsimp only at h
    cases h
    exact rt []
end Go.Proofs.YtcakdidcpoolcaaGreatDoor.SU

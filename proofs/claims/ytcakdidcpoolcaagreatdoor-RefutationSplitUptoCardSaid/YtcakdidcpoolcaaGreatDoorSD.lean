/- Walks of the symbolic machine, written by a program of mine (wip/tool). -/
import Derived.Test.YtcakdidcpoolcaaGreatDoorTB
import Derived.Test.YtcakdidcpoolcaaGreatDoorAd
set_option maxRecDepth 100000
set_option maxHeartbeats 4000000
set_option linter.unusedVariables false
set_option linter.unusedSimpArgs false
namespace Go.Proofs.YtcakdidcpoolcaaGreatDoor.SD
open Go Go.RowKit Go.X Go.Q Go.D Go.Proofs.YtcakdidcpoolcaaGreatDoor.TB 
theorem rbigs_c (N : Nat) (l : (List Big)) (r : Bool) (h : rbigs N l = some r) : Cn Tryz.prog 145 [sR rBig false l] [] [sB r] := by
  unfold rbigs at h
  refine fn tb en145 Tryz.func145 fun X w H ν => ?_
  refine jn (fun x => (Sum.inl x)) (fun (_ : Unit) => mkS 0 [] [vr 0 rBig false l]) h (fun s47 hl49 g48 => ?_) ?_
  ·
    refine bk ?_
    refine lp (fun i46 => mkS 0 [] [vr 0 rBig false l, vi 3 i46]) hl49 [] ?_
    rintro i46 oo h hd50
    rw [rbigs_b1] at h
    refine cd h (fun hc55 h => ?_) (fun hc55 h => ?_)
    ·
      refine bk ?_
      refine ixR h fun x56 h => ?_
      refine cd h (fun hc72 h => ?_) (fun hc72 h => ?_)
      ·
        cases h
        cases hd50 _ rfl
        replace h := g48
        try dsimp only at h
        cases h
        exact rt []
      ·
        cases h
        exact bl []
    ·
      cases h
      cases hd50 _ rfl
      replace h := g48
      try dsimp only at h
      exact bj _ []
  ·
    intro _ h
    try dsimp only at h
    cases h
    exact rt []
theorem rSmallStep_c (N : Nat) (s : Step) (r : Bool) (h : rSmallStep N s = some r) : Cn Tryz.prog 146 [sA rStep false s] [] [sB r] := by
  unfold rSmallStep at h
  refine fn tb en146 Tryz.func146 fun X w H ν => ?_
  refine jn (fun x => (Sum.inl x)) (fun (_ : Unit) => mkS 1 [.box (Opn.cl rStep false s)] [vp 1 0]) h (fun s58 hl60 g59 => ?_) ?_
  ·
    refine bk ?_
    refine lp (fun i56 => mkS 1 [.box (Opn.cl rStep false s)] [vp 1 0, vi 3 i56]) hl60 [0] ?_
    rintro i56 oo h hd61
    rw [rSmallStep_b1] at h
    refine cd h (fun hc66 h => ?_) (fun hc66 h => ?_)
    ·
      refine bk ?_
      refine ixR h fun x67 h => ?_
      refine cd h (fun hc84 h => ?_) (fun hc84 h => ?_)
      ·
        cases h
        cases hd61 _ rfl
        replace h := g59
        try dsimp only at h
        cases h
        exact rt []
      ·
        cases h
        exact bl [0]
    ·
      cases h
      cases hd61 _ rfl
      replace h := g59
      try dsimp only at h
      exact bj _ [0]
  ·
    intro _ h
    try dsimp only at h
    refine rg ?_
    refine gd h (fun hc89 h => ?_) (fun hc89 h => ?_)
    ·
      cases h
      exact rt []
    ·
      cases h
      exact rt []
theorem rweight_c (N : Nat) : ∀ (p : Proof) (r : Int) (h : rweight N p = some r), Cn Tryz.prog 119 [sA rProof false p] [] [sI .i64 r] := by
  induction N with
  | zero => intro p r h; cases h
  | succ N ih =>
    intro p r h
    replace h : rweight_step N (rweight N) p = some r := h
    unfold rweight_step at h
    refine fn tb en119 Tryz.func119 fun X w H ν => ?_
    refine jn (fun x => x) (fun x18 => mkS 1 [.box (Opn.cl rProof false p)] [vp 1 0, vi 3 (iw (1 + (List.length p.Steps : Int))), vb 20 x18]) h (fun s19 h g20 => ?_) ?_
    ·
      refine rg ?_
      refine cl none [] 0 h (rbigs_c N _) fun r21 h => ?_
      refine gd h (fun hc29 h => ?_) (fun hc29 h => ?_)
      ·
        cases h
        exact bj _ [0]
      ·
        cases h
        exact bj _ [0]
    ·
      intro x18 h
      try dsimp only at h
      refine cd h (fun hc34 h => ?_) (fun hc34 h => ?_)
      ·
        cases h
        exact rt []
      ·
        refine jn (fun x => (Sum.inl x)) (fun (_ : Unit) => mkS 1 [.box (Opn.cl rProof false p)] [vp 1 0, vi 3 (iw (1 + (List.length p.Steps : Int)))]) h (fun s123 hl125 g124 => ?_) ?_
        ·
          refine bk ?_
          refine lp (fun i121 => mkS 1 [.box (Opn.cl rProof false p)] [vp 1 0, vi 3 (iw (1 + (List.length p.Steps : Int))), vi 4 i121]) hl125 [0] ?_
          rintro i121 oo h hd126
          rw [rweight_b1] at h
          refine jn (fun x => x) (fun x133 => mkS 1 [.box (Opn.cl rProof false p)] [vp 1 0, vi 3 (iw (1 + (List.length p.Steps : Int))), vi 4 i121, vb 29 x133]) h (fun s134 h g135 => ?_) ?_
          ·
            refine rg ?_
            refine gd h (fun hc137 h => ?_) (fun hc137 h => ?_)
            ·
              cases h
              exact bj _ [0]
            ·
              cases h
              exact bj _ [0]
          ·
            intro x133 h
            try dsimp only at h
            refine cd h (fun hc141 h => ?_) (fun hc141 h => ?_)
            ·
              refine bk ?_
              refine ixR h fun x142 h => ?_
              refine cl none [] 0 h (rSmallStep_c N _) fun r160 h => ?_
              refine cd h (fun hc167 h => ?_) (fun hc167 h => ?_)
              ·
                cases h
                cases hd126 _ rfl
                replace h := g124
                try dsimp only at h
                cases h
                exact rt []
              ·
                cases h
                exact bl [0]
            ·
              cases h
              cases hd126 _ rfl
              replace h := g124
              try dsimp only at h
              exact bj _ [0]
        ·
          intro _ h
          try dsimp only at h
          refine jn (fun x => x) (fun n266 => mkS 0 [] [vi 3 n266]) h (fun s267 hl269 g268 => ?_) ?_
          ·
            refine bk ?_
            refine lp (fun ⟨n264, i265⟩ => mkS 1 [.box (Opn.cl rProof false p)] [vp 1 0, vi 3 n264, vi 5 i265]) hl269 [0] ?_
            rintro ⟨n264, i265⟩ oo h hd270
            rw [rweight_b2] at h
            refine jn (fun x => x) (fun x277 => mkS 1 [.box (Opn.cl rProof false p)] [vp 1 0, vi 3 n264, vi 5 i265, vb 47 x277]) h (fun s278 h g279 => ?_) ?_
            ·
              refine rg ?_
              refine gd h (fun hc281 h => ?_) (fun hc281 h => ?_)
              ·
                cases h
                exact bj _ [0]
              ·
                cases h
                exact bj _ [0]
            ·
              intro x277 h
              try dsimp only at h
              refine cd h (fun hc285 h => ?_) (fun hc285 h => ?_)
              ·
                refine bk ?_
                refine ixR h fun x286 h => ?_
                refine cl none [] 0 h (ih _) fun r308 h => ?_
                cases h
                exact bl [0]
              ·
                cases h
                cases hd270 _ rfl
                replace h := g268
                try dsimp only at h
                exact bj _ []
          ·
            intro n266 h
            try dsimp only at h
            cases h
            exact rt []
theorem rSmallProof_c (N : Nat) (p : Proof) (r : Bool) (h : rSmallProof N p = some r) : Cn Tryz.prog 90 [sA rProof false p] [] [sB r] := by
  unfold rSmallProof at h
  refine fn tb en90 Tryz.func90 fun X w H ν => ?_
  refine cl none [] 0 h (rweight_c N _) fun r6 h => ?_
  cases h
  exact rt []
end Go.Proofs.YtcakdidcpoolcaaGreatDoor.SD

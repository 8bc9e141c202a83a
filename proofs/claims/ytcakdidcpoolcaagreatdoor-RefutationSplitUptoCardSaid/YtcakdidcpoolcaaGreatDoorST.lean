/- Walks of the symbolic machine, written by a program of mine (wip/tool). -/
import Derived.Test.YtcakdidcpoolcaaGreatDoorTB
import Derived.Test.YtcakdidcpoolcaaGreatDoorAd
import Derived.Test.YtcakdidcpoolcaaGreatDoorSI
import Derived.Test.YtcakdidcpoolcaaGreatDoorSF
set_option maxRecDepth 100000
set_option maxHeartbeats 4000000
set_option linter.unusedVariables false
set_option linter.unusedSimpArgs false
namespace Go.Proofs.YtcakdidcpoolcaaGreatDoor.ST
open Go Go.RowKit Go.X Go.Q Go.D Go.Proofs.YtcakdidcpoolcaaGreatDoor.TB Go.Proofs.YtcakdidcpoolcaaGreatDoor.SI Go.Proofs.YtcakdidcpoolcaaGreatDoor.SF
theorem indexInt_c (N : Nat) (s : (List Int)) (f : (Int → Option Bool)) (r : Int) (h : indexInt N s f = some r) : Cx Tryz.prog 169 [sR (rInt .i64) false s, .lf (.pd (fnPd Tryz.prog (fun x : Int => [sI .i64 x]) (fun r : Bool => [sB r]) f))] [] [] [sI .i64 r] := by
  unfold indexInt at h
  refine fn tb en169 Tryz.func169 fun X w H ν => ?_
  refine jn (fun x => (Sum.inl x)) (fun (_ : Unit) => mkS 0 [] []) h (fun s55 hl57 g56 => ?_) ?_
  ·
    refine bk ?_
    refine lp (fun x54 => mkS 0 [] [vr 0 (rInt .i64) false s, vl 1 (.pd (fnPd Tryz.prog (fun x : Int => [sI .i64 x]) (fun r : Bool => [sB r]) f)), vi 7 (List.length s : Int), vi 8 x54]) hl57 [] ?_
    rintro x54 oo h hd58
    rw [indexInt_b1] at h
    refine cd h (fun hc62 h => ?_) (fun hc62 h => ?_)
    ·
      refine bk ?_
      refine ixR h fun x63 h => ?_
      refine cvl (g := f) x63 h fun r77 h => ?_
      refine cd h (fun hc84 h => ?_) (fun hc84 h => ?_)
      ·
        cases h
        cases hd58 _ rfl
        replace h := g56
        try dsimp only at h
        cases h
        exact rt []
      ·
        cases h
        exact bl []
    ·
      cases h
      cases hd58 _ rfl
      replace h := g56
      try dsimp only at h
      exact bj _ []
  ·
    intro _ h
    try dsimp only at h
    cases h
    exact rt []
theorem containsInt_c (N : Nat) (s : (List Int)) (f : (Int → Option Bool)) (r : Bool) (h : containsInt N s f = some r) : Cx Tryz.prog 151 [sR (rInt .i64) false s, .lf (.pd (fnPd Tryz.prog (fun x : Int => [sI .i64 x]) (fun r : Bool => [sB r]) f))] [] [] [sB r] := by
  unfold containsInt at h
  refine fn tb en151 Tryz.func151 fun X w H ν => ?_
  refine cl none [] 0 h (indexInt_c N _ _) fun r1 h => ?_
  cases h
  exact rt []
theorem tclasses_c (N : Nat) (p : TProb) (r : ((List Int) × Int)) (h : tclasses N p = some r) : Cn Tryz.prog 147 [sA rTProb false p] [.row (rInt .i64) true r.1] [sO 0, sI .i64 r.2] := by
  unfold tclasses at h
  refine fn tb en147 Tryz.func147 fun X w H ν => ?_
  refine mkO (rInt .i64) h fun x8 h => ?_
  refine jn (fun x => x) (fun least96 => mkS 2 [.box (Opn.cl rTProb false p), .row (rInt .i64) true least96] [vp 1 0, vo 4 1]) h (fun s100 hl102 g101 => ?_) ?_
  ·
    refine bk ?_
    refine lp (fun ⟨least88, x92⟩ => mkS 2 [.box (Opn.cl rTProb false p), .row (rInt .i64) true least88] [vp 1 0, vo 4 1, vi 20 (List.length x8 : Int), vi 21 x92]) hl102 [0, 1] ?_
    rintro ⟨least88, x92⟩ oo h hd103
    rw [tclasses_b1] at h
    refine cd h (fun hc111 h => ?_) (fun hc111 h => ?_)
    ·
      refine bk ?_
      refine ixO h fun x112 h => ?_
      refine stO true h fun x118 h => ?_
      cases h
      exact bl [0, 1]
    ·
      cases h
      cases hd103 _ rfl
      replace h := g101
      try dsimp only at h
      exact bj _ [0, 1]
  ·
    intro least96 h
    try dsimp only at h
    refine jn (fun x => x) (fun least805 => mkS 1 [.row (rInt .i64) true least805] [vo 4 0]) h (fun s809 hl811 g810 => ?_) ?_
    ·
      refine bk ?_
      refine lp (fun ⟨least798, changed802⟩ => mkS 2 [.box (Opn.cl rTProb false p), .row (rInt .i64) true least798] [vp 1 0, vo 4 1, vb 6 changed802]) hl811 [0, 1] ?_
      rintro ⟨least798, changed802⟩ oo h hd812
      rw [tclasses_b2] at h
      refine cd h (fun hc816 h => ?_) (fun hc816 h => ?_)
      ·
        refine bk ?_
        refine jn (fun x => x) (fun ⟨least1025, changed1029⟩ => mkS 2 [.box (Opn.cl rTProb false p), .row (rInt .i64) true least1025] [vp 1 0, vo 4 1, vb 6 changed1029]) h (fun s1030 hl1032 g1031 => ?_) ?_
        ·
          refine bk ?_
          refine lp (fun ⟨least1016, changed1020, x1021⟩ => mkS 2 [.box (Opn.cl rTProb false p), .row (rInt .i64) true least1016] [vp 1 0, vo 4 1, vb 6 changed1020, vr 31 rArr2Int false p.Same, vi 32 (List.length p.Same : Int), vi 33 x1021]) hl1032 [0, 1] ?_
          rintro ⟨least1016, changed1020, x1021⟩ oo h hd1033
          rw [tclasses_b3] at h
          refine cd h (fun hc1037 h => ?_) (fun hc1037 h => ?_)
          ·
            refine bk ?_
            refine ixR h fun x1038 h => ?_
            refine dr mixed ?_
            refine ixO h fun x1061 h => ?_
            refine ldO ?_
            refine ixO h fun x1072 h => ?_
            refine ldO ?_
            refine dk ?_
            refine cd h (fun hc1082 h => ?_) (fun hc1082 h => ?_)
            ·
              refine dr mixed ?_
              refine ixO h fun x1083 h => ?_
              refine stO true h fun x1089 h => ?_
              refine ixO h fun x1104 h => ?_
              refine stO true h fun x1110 h => ?_
              refine dk ?_
              cases h
              exact bl [0, 1]
            ·
              cases h
              exact bl [0, 1]
          ·
            cases h
            cases hd1033 _ rfl
            replace h := g1031
            try dsimp only at h
            exact bj _ [0, 1]
        ·
          rintro ⟨least1025, changed1029⟩ h
          try dsimp only at h
          cases h
          exact bl [0, 1]
      ·
        cases h
        cases hd812 _ rfl
        replace h := g810
        try dsimp only at h
        exact bj _ [1]
    ·
      intro least805 h
      try dsimp only at h
      refine mkO (rInt .i64) h fun x1145 h => ?_
      refine jn (fun x => x) (fun ⟨number1321, n1325⟩ => mkS 1 [.row (rInt .i64) true number1321] [vo 11 0, vi 12 n1325]) h (fun s1326 hl1328 g1327 => ?_) ?_
      ·
        refine bk ?_
        refine lp (fun ⟨number1312, n1316, x1318⟩ => mkS 2 [.row (rInt .i64) true number1312, .row (rInt .i64) true least805] [vo 11 0, vi 12 n1316, vo 68 1, vi 69 (List.length least805 : Int), vi 70 x1318]) hl1328 [1, 0] ?_
        rintro ⟨number1312, n1316, x1318⟩ oo h hd1329
        rw [tclasses_b4] at h
        refine cd h (fun hc1334 h => ?_) (fun hc1334 h => ?_)
        ·
          refine bk ?_
          refine ixO h fun x1335 h => ?_
          refine ldO ?_
          refine cd h (fun hc1346 h => ?_) (fun hc1346 h => ?_)
          ·
            refine ixO h fun x1347 h => ?_
            refine stO true h fun x1353 h => ?_
            cases h
            exact bl [0, 1]
          ·
            refine ixO h fun x1369 h => ?_
            refine ldO ?_
            refine ixO h fun x1379 h => ?_
            refine stO true h fun x1385 h => ?_
            cases h
            exact bl [0, 1]
        ·
          cases h
          cases hd1329 _ rfl
          replace h := g1327
          try dsimp only at h
          exact bj _ [0]
      ·
        rintro ⟨number1321, n1325⟩ h
        try dsimp only at h
        cases h
        exact rt [0]
theorem cloneTest_c (N : Nat) (s : (List TTest)) (r : (List TTest)) (h : cloneTest N s = some r) : Cn Tryz.prog 148 [sR rTTest false s] [.row rTTest true r] [sO 0] := by
  unfold cloneTest at h
  refine fn tb en148 Tryz.func148 fun X w H ν => ?_
  refine eqn ?_
  refine cn (fun hnil => ?_) ?_
  ·
    replace h : some [] = some r := by rw [hnil] at h; simpa [apnd] using h
    refine pr (nl 2 rTTest) ?_
    cases h
    exact rt [0]
  ·
    refine litZ rTTest ?_
    refine apO true h fun x16 h => ?_
    cases h
    exact rt [1]
theorem tgathered_c (N : Nat) (p : TProb) (r : ((List TClass) × (List Int) × Bool)) (h : tgathered N p = some r) : Cn Tryz.prog 121 [sA rTProb false p] [.row rTClass true r.1, .row (rInt .i64) true r.2.1] [sO 0, sO 1, sB r.2.2] := by
  unfold tgathered at h
  refine fn tb en121 Tryz.func121 fun X w H ν => ?_
  refine cl none [] 1 h (tclasses_c N _) fun r6 h => ?_
  refine mkD dkTClass h (fun x26 h => ?_) (hR := ⟨_, _, _, _, _, _, rfl, rfl, rfl, DS.nil, DS.nil, rfl⟩)
  refine lnD ?_
  refine jn (fun x => x) (fun l69 => mkS 3 [.box (Opn.cl rTProb false p), .row (rInt .i64) true r6.1, .deep 2 dkTClass l69 []] [vp 1 0, vo 5 1, vo 7 2]) h (fun s70 hl72 g71 => ?_) ?_
  ·
    refine bk ?_
    refine lp (fun ⟨l64, x65⟩ => mkS 3 [.box (Opn.cl rTProb false p), .row (rInt .i64) true r6.1, .deep 2 dkTClass l64 []] [vp 1 0, vo 5 1, vo 7 2, vi 26 (List.length x26 : Int), vi 27 x65]) hl72 [0, 1, 2] ?_
    rintro ⟨l64, x65⟩ oo h hd73
    rw [tgathered_b1] at h
    refine cd h (fun hc77 h => ?_) (fun hc77 h => ?_)
    ·
      refine bk ?_
      refine ixD h fun x78 q79 h => ?_
      refine stI (D := dkTClass) q79 h (fun x84 h => ?_) (hR := by rintro _ _ _ ⟨v0, b0, k0, v1, b1, k1, rfl, rfl, rfl, d0, d1, w0⟩; exact ⟨_, _, _, _, _, _, rfl, rfl, rfl, d0, d1, w0⟩)
      cases h
      exact bl [0, 1, 2]
    ·
      cases h
      cases hd73 _ rfl
      replace h := g71
      try dsimp only at h
      exact bj _ [0, 1, 2]
  ·
    intro l69 h
    try dsimp only at h
    refine jn (fun x => x) (fun l252 => mkS 3 [.box (Opn.cl rTProb false p), .row (rInt .i64) true r6.1, .deep 2 dkTClass l252 []] [vp 1 0, vo 5 1, vo 7 2]) h (fun s253 hl255 g254 => ?_) ?_
    ·
      refine bk ?_
      refine lp (fun ⟨l247, x248⟩ => mkS 3 [.box (Opn.cl rTProb false p), .row (rInt .i64) true r6.1, .deep 2 dkTClass l247 []] [vp 1 0, vo 5 1, vo 7 2, vo 35 1, vi 36 (List.length r6.1 : Int), vi 37 x248]) hl255 [0, 1, 2] ?_
      rintro ⟨l247, x248⟩ oo h hd256
      rw [tgathered_b2] at h
      refine cd h (fun hc260 h => ?_) (fun hc260 h => ?_)
      ·
        refine bk ?_
        refine ixO h fun x261 h => ?_
        refine ldO ?_
        refine dr mixed ?_
        refine ixD h fun x274 q275 h => ?_
        refine ldI (D := dkTClass) (v := .int .i64 x274.low) ?_ (hv := by rintro _ _ _ ⟨v0, b0, k0, v1, b1, k1, rfl, rfl, rfl, d0, d1, w0⟩; rfl)
        refine ixR h fun x280 h => ?_
        refine ixD h fun x294 q295 h => ?_
        refine ldI (D := dkTClass) (v := .int .i64 x294.high) ?_ (hv := by rintro _ _ _ ⟨v0, b0, k0, v1, b1, k1, rfl, rfl, rfl, d0, d1, w0⟩; rfl)
        refine ixR h fun x300 h => ?_
        refine ixD h fun x314 q315 h => ?_
        refine stI (D := dkTClass) q315 h (fun x320 h => ?_) (hR := by rintro _ _ _ ⟨v0, b0, k0, v1, b1, k1, rfl, rfl, rfl, d0, d1, w0⟩; exact ⟨_, _, _, _, _, _, rfl, rfl, rfl, d0, d1, w0⟩)
        refine ixD h fun x322 q323 h => ?_
        refine stI (D := dkTClass) q323 h (fun x328 h => ?_) (hR := by rintro _ _ _ ⟨v0, b0, k0, v1, b1, k1, rfl, rfl, rfl, d0, d1, w0⟩; exact ⟨_, _, _, _, _, _, rfl, rfl, rfl, d0, d1, w0⟩)
        refine dk ?_
        cases h
        exact bl [0, 1, 2]
      ·
        cases h
        cases hd256 _ rfl
        replace h := g254
        try dsimp only at h
        exact bj _ [0, 1, 2]
    ·
      intro l252 h
      try dsimp only at h
      refine jn (fun x => x) (fun l516 => mkS 3 [.box (Opn.cl rTProb false p), .row (rInt .i64) true r6.1, .deep 2 dkTClass l516 []] [vp 1 0, vo 5 1, vo 7 2]) h (fun s517 hl519 g518 => ?_) ?_
      ·
        refine bk ?_
        refine lp (fun ⟨l511, x512⟩ => mkS 3 [.box (Opn.cl rTProb false p), .row (rInt .i64) true r6.1, .deep 2 dkTClass l511 []] [vp 1 0, vo 5 1, vo 7 2, vr 74 rTTest false p.Tests, vi 75 (List.length p.Tests : Int), vi 76 x512]) hl519 [0, 1, 2] ?_
        rintro ⟨l511, x512⟩ oo h hd520
        rw [tgathered_b3] at h
        refine cd h (fun hc524 h => ?_) (fun hc524 h => ?_)
        ·
          refine bk ?_
          refine ixR h fun x525 h => ?_
          refine ixO h fun x548 h => ?_
          refine ldO ?_
          obtain ⟨x561, q562, h⟩ := bind_some h
          refine ps (tkS 2 dkTClass_tests q562) ?_
          refine dr mixed ?_
          refine ixD h fun x564 q565 h => ?_
          refine ldH 0 ?_
          refine litO rTTest true [x525] ?_
          refine apO true h fun x578 h => ?_
          refine ixD h fun x596 q597 h => ?_
          refine stS dkTClass_tests [] q597 h (fun x602 h => ?_)
          refine dk ?_
          cases h
          exact bl [0, 1, 2]
        ·
          cases h
          cases hd520 _ rfl
          replace h := g518
          try dsimp only at h
          exact bj _ [0, 1, 2]
      ·
        intro l516 h
        try dsimp only at h
        refine jn (fun x => (Sum.inl x)) (fun l934 => mkS 2 [.row (rInt .i64) true r6.1, .deep 1 dkTClass l934 []] [vo 5 0, vo 7 1]) h (fun s935 hl937 g936 => ?_) ?_
        ·
          refine bk ?_
          refine lp (fun ⟨l930, x931⟩ => mkS 2 [.row (rInt .i64) true r6.1, .deep 1 dkTClass l930 []] [vo 5 0, vo 7 1, vr 99 rArr2Int false p.Different, vi 100 (List.length p.Different : Int), vi 101 x931]) hl937 [1, 2] ?_
          rintro ⟨l930, x931⟩ oo h hd938
          rw [tgathered_b4] at h
          refine cd h (fun hc942 h => ?_) (fun hc942 h => ?_)
          ·
            refine bk ?_
            refine ixR h fun x943 h => ?_
            refine dr mixed ?_
            refine ixO h fun x966 h => ?_
            refine ldO ?_
            refine ixO h fun x979 h => ?_
            refine ldO ?_
            refine dk ?_
            refine cd h (fun hc989 h => ?_) (fun hc989 h => ?_)
            ·
              refine pr (fzD 1) ?_
              cases h
              cases hd938 _ rfl
              replace h := g936
              try dsimp only at h
              cases h
              exact rt [1, 0]
            ·
              obtain ⟨x992, q993, h⟩ := bind_some h
              refine po (tkS 1 dkTClass_apart q993) ?_
              refine ixD h fun x995 q996 h => ?_
              refine ldH 0 ?_
              refine cl none [] 0 h (containsOf_c N _ _) fun r1001 h => ?_
              refine ps (unS 1 3 dkTClass_apart q993) ?_
              refine cd h (fun hc1009 h => ?_) (fun hc1009 h => ?_)
              ·
                obtain ⟨x1010, q1011, h⟩ := bind_some h
                refine ps (tkS 1 dkTClass_apart q1011) ?_
                obtain ⟨x1013, q1014, h⟩ := bind_some h
                refine ps (tkS 1 dkTClass_apart q1014 (hm := tk2 dkTClass_apart q1011 q1014 (by assumption))) ?_
                refine dr mixed ?_
                refine ixD h fun x1016 q1017 h => ?_
                refine ldH 1 ?_
                refine litO (rInt .i64) true [x979] ?_
                refine apO true h fun x1030 h => ?_
                refine ixD h fun x1048 q1049 h => ?_
                refine ldH 0 ?_
                refine litO (rInt .i64) true [x966] ?_
                refine apO true h fun x1062 h => ?_
                refine ixD h fun x1080 q1081 h => ?_
                refine stS dkTClass_apart _ q1081 h (fun x1086 h => ?_) (hsub := two_sub dkTClass_apart q1011 q1014 (by assumption)) (hcov := two_cov)
                refine ixD h fun x1088 q1089 h => ?_
                refine stS dkTClass_apart [] q1089 h (fun x1094 h => ?_)
                refine dk ?_
                cases h
                exact bl [0, 1]
              ·
                cases h
                exact bl [0, 1]
          ·
            cases h
            cases hd938 _ rfl
            replace h := g936
            try dsimp only at h
            exact bj _ [0, 1]
        ·
          intro l934 h
          try dsimp only at h
          refine pr (fzD 1) ?_
          cases h
          exact rt [1, 0]
theorem tfirst_c (N : Nat) (c : TClass) (most : Int) (r : (List (List UInt8))) (h : tfirst N c most = some r) : Cn Tryz.prog 122 [sA rTClass false c, sI .i64 most] [.row rStr true r] [sO 0] := by
  unfold tfirst at h
  refine fn tb en122 Tryz.func122 fun X w H ν => ?_
  refine jn (fun x => x) (fun out814 => mkS 1 [.row rStr true out814] [vo 5 0]) h (fun s818 hl820 g819 => ?_) ?_
  ·
    refine bk ?_
    refine ps (nl 5 rStr) ?_
    refine lp (fun ⟨out804, n808⟩ => mkS 2 [.box (Opn.cl rTClass false c), .row rStr true out804] [vi 1 most, vp 2 0, vo 5 1, vi 6 n808]) hl820 [0, 1] ?_
    rintro ⟨out804, n808⟩ oo h hd821
    rw [tfirst_b1] at h
    refine jn (fun x => x) (fun x836 => mkS 2 [.box (Opn.cl rTClass false c), .row rStr true out804] [vi 1 most, vp 2 0, vo 5 1, vi 6 n808, vb 20 x836]) h (fun s837 h g838 => ?_) ?_
    ·
      refine rg ?_
      refine gd h (fun hc839 h => ?_) (fun hc839 h => ?_)
      ·
        cases h
        exact bj _ [0, 1]
      ·
        cases h
        exact bj _ [0, 1]
    ·
      intro x836 h
      try dsimp only at h
      refine cd h (fun hc843 h => ?_) (fun hc843 h => ?_)
      ·
        refine bk ?_
        refine cl none [] 1 h (cloneTest_c N _) fun r844 h => ?_
        refine jn (fun x => x) (fun out1095 => mkS 2 [.box (Opn.cl rTClass false c), .row rStr true out1095] [vi 1 most, vp 2 0, vo 5 1, vi 6 n808]) h (fun s1099 hl1101 g1100 => ?_) ?_
        ·
          refine bk ?_
          refine lp (fun ⟨out1076, tests1085⟩ => mkS 3 [.box (Opn.cl rTClass false c), .row rStr true out1076, .row rTTest true tests1085] [vi 1 most, vp 2 0, vo 5 1, vi 6 n808, vo 7 2]) hl1101 [0, 1, 2] ?_
          rintro ⟨out1076, tests1085⟩ oo h hd1102
          rw [tfirst_b2] at h
          refine cd h (fun hc1111 h => ?_) (fun hc1111 h => ?_)
          ·
            refine bk ?_
            refine cl none [] 1 h (pWords_c N _ _ _) fun r1112 h => ?_
            refine apO true h fun x1127 h => ?_
            refine cd h (fun hc1145 h => ?_) (fun hc1145 h => ?_)
            ·
              cases h
              cases hd1102 _ rfl
              replace h := g1100
              try dsimp only at h
              exact bj _ [0, 4]
            ·
              refine dr mixed ?_
              refine cl none [] 1 h (cloneTest_c N _) fun r1150 h => ?_
              refine ixO h fun x1167 h => ?_
              refine ldO ?_
              refine litO rTTest true [(TTest.mk 0 3 true x1167)] ?_
              refine apO true h fun x1187 h => ?_
              refine dk ?_
              cases h
              exact bl [0, 4, 7]
          ·
            cases h
            cases hd1102 _ rfl
            replace h := g1100
            try dsimp only at h
            exact bj _ [0, 1]
        ·
          intro out1095 h
          try dsimp only at h
          cases h
          exact bl [0, 1]
      ·
        cases h
        cases hd821 _ rfl
        replace h := g819
        try dsimp only at h
        exact bj _ [1]
  ·
    intro out814 h
    try dsimp only at h
    cases h
    exact rt [0]
theorem revInt_c (N : Nat) (s : (List Int)) (r : (List Int)) (h : revInt N s = some r) : Cx Tryz.prog 125 [sO 0] [.row (rInt .i64) true s] [(0, some (.row (rInt .i64) true r))] [] := by
  unfold revInt at h
  refine fn tb en125 Tryz.func125 fun X w H ν => ?_
  refine jn (fun x => x) (fun s160 => mkS 1 [.row (rInt .i64) true s160] [vo 0 0]) h (fun s164 hl166 g165 => ?_) ?_
  ·
    refine bk ?_
    refine lp (fun ⟨s152, i156, j157⟩ => mkS 1 [.row (rInt .i64) true s152] [vo 0 0, vi 2 i156, vi 3 j157]) hl166 [0] ?_
    rintro ⟨s152, i156, j157⟩ oo h hd167
    rw [revInt_b1] at h
    refine cd h (fun hc171 h => ?_) (fun hc171 h => ?_)
    ·
      refine bk ?_
      refine dr mixed ?_
      refine ixO h fun x172 h => ?_
      refine ldO ?_
      refine ixO h fun x184 h => ?_
      refine ldO ?_
      refine ixO h fun x194 h => ?_
      refine stO true h fun x200 h => ?_
      refine ixO h fun x215 h => ?_
      refine stO true h fun x221 h => ?_
      refine dk ?_
      cases h
      exact bl [0]
    ·
      cases h
      cases hd167 _ rfl
      replace h := g165
      try dsimp only at h
      exact bj _ [0]
  ·
    intro s160 h
    try dsimp only at h
    cases h
    exact rt [0]
theorem tchoose1_c (N : Nat) (other : Int) (ca : (List Bool)) (cb : (List (List UInt8))) (cc : (List UInt8)) (r : Bool) (h : tchoose1 N other ca cb cc = some r) : Cx Tryz.prog 152 [sI .i64 other, .lf (.pd (ppPd false [.ro rBool false ca])), .lf (.pd (ppPd false [.ro rStr false cb])), .lf (.pd (ppPd false [lT cc]))] [] [] [sB r] := by
  unfold tchoose1 at h
  refine fnv tb (.comp (vpp 1) (.comp (vpp 2) (vpp 3))) en152 Tryz.func152 fun X w H ν => ?_
  refine dr mixed ?_
  refine ixR h fun x1 h => ?_
  refine gd h (fun hc14 h => ?_) (fun hc14 h => ?_)
  ·
    refine ixR h fun x15 h => ?_
    refine dk ?_
    cases h
    exact rt []
  ·
    refine dk ?_
    cases h
    exact rt []
theorem tchoose_c (N : Nat) : ∀ (l : (List TClass)) (order : (List Int)) (words : (List (List UInt8))) (known : (List Bool)) (r : (Bool × Bool × (List (List UInt8)) × (List Bool))) (h : tchoose N l order words known = some r), Cx Tryz.prog 126 [sR rTClass false l, sR (rInt .i64) false order, sO 0, sO 1] [.row rStr true words, .row rBool true known] [(0, some (.row rStr true r.2.2.1)), (1, some (.row rBool true r.2.2.2))] [bif r.1 then sO 0 else .lf lN, sB r.2.1] := by
  induction N with
  | zero => intro l order words known r h; cases h
  | succ N ih =>
    intro l order words known r h
    replace h : tchoose_step N (tchoose N) l order words known = some r := h
    unfold tchoose_step at h
    refine fn tb en126 Tryz.func126 fun X w H ν => ?_
    refine cd h (fun hc14 h => ?_) (fun hc14 h => ?_)
    ·
      cases h
      exact rt [0, 1]
    ·
      refine ixR h fun x21 h => ?_
      refine ixO h fun x34 h => ?_
      refine stO true h fun x43 h => ?_
      refine ixR h fun x58 h => ?_
      refine jn (fun x => (Sum.inl x)) (fun ⟨words384, known391⟩ => mkS 3 [.row rStr true words384, .row rBool true known391, .box [(.own 1)]] [vo 2 0, vo 3 1, vp 7 2, vi 10 x21]) h (fun s396 hl398 g397 => ?_) ?_
      ·
        refine bk ?_
        refine lp (fun ⟨words367, known374, x380⟩ => mkS 4 [.row rStr true words367, .row rBool true known374, .box [(.own 0)], .box [(.own 1)]] [vr 0 rTClass false l, vr 1 (rInt .i64) false order, vo 2 0, vo 3 1, vp 6 2, vp 7 3, vi 10 x21, vr 29 rStr false x58.words, vi 30 (List.length x58.words : Int), vi 31 x380]) hl398 [0, 1, 2, 3] ?_
        rintro ⟨words367, known374, x380⟩ oo h hd399
        rw [tchoose_b1] at h
        refine cd h (fun hc408 h => ?_) (fun hc408 h => ?_)
        ·
          refine bk ?_
          refine ixR h fun x409 h => ?_
          refine ixR h fun x432 h => ?_
          refine mkFc ?_
          refine clC (az := [_]) h (fun r h => containsInt_c N _ _ r h) (fun x r h => tchoose1_c N x known374 words367 x409 r h) en152 (fun r454 h => ?_) (hcap := by exact .c rfl rfl rfl (.c rfl rfl rfl (.c rfl rfl rfl .n)))
          refine cd h (fun hc464 h => ?_) (fun hc464 h => ?_)
          ·
            cases h
            exact bl [0, 1, 2, 3]
          ·
            refine ixO h fun x470 h => ?_
            refine stO true h fun x479 h => ?_
            refine dr mixed ?_
            refine cutR h fun x494 h => ?_
            refine cl none [0, 1] 0 h (ih _ _ _ _) (fun r509 h => ?_) (h2 := by rintro ⟨_ | _, _⟩ <;> rfl)
            refine dk ?_
            refine cd h (fun hc535 h => ?_) (fun hc535 h => ?_)
            ·
              cases h
              cases hd399 _ rfl
              replace h := g397
              try dsimp only at h
              cases h
              cases r509.1 <;> exact rt [0, 1]
            ·
              cases h
              exact bl [0, 1, 2, 3]
        ·
          cases h
          cases hd399 _ rfl
          replace h := g397
          try dsimp only at h
          exact bj _ [0, 1, 3]
      ·
        rintro ⟨words384, known391⟩ h
        try dsimp only at h
        refine ixO h fun x555 h => ?_
        refine stO true h fun x563 h => ?_
        cases h
        exact rt [0, 1]
theorem insSort_c (N : Nat) (data : (List Int)) (a : Int) (b : Int) (cmp : (Int → Int → Option Int)) (r : (List Int)) (h : insSort N data a b cmp = some r) : Cx Tryz.prog 167 [sO 0, sI .i64 a, sI .i64 b, .lf (.pd (fnPd Tryz.prog (fun x : Int × Int => [sI .i64 x.1, sI .i64 x.2]) (fun r : Int => [sI .i64 r]) (fun x : Int × Int => cmp x.1 x.2)))] [.row (rInt .i64) true data] [(0, some (.row (rInt .i64) true r))] [] := by
  unfold insSort at h
  refine fn tb en167 Tryz.func167 fun X w H ν => ?_
  refine jn (fun x => x) (fun data914 => mkS 1 [.row (rInt .i64) true data914] [vo 0 0]) h (fun s918 hl920 g919 => ?_) ?_
  ·
    refine bk ?_
    refine lp (fun ⟨data907, i911⟩ => mkS 1 [.row (rInt .i64) true data907] [vo 0 0, vi 1 a, vi 2 b, vl 3 (.pd (fnPd Tryz.prog (fun x : Int × Int => [sI .i64 x.1, sI .i64 x.2]) (fun r : Int => [sI .i64 r]) (fun x : Int × Int => cmp x.1 x.2))), vi 8 i911]) hl920 [0] ?_
    rintro ⟨data907, i911⟩ oo h hd921
    rw [insSort_b1] at h
    refine cd h (fun hc925 h => ?_) (fun hc925 h => ?_)
    ·
      refine bk ?_
      refine jn (fun x => x) (fun data1219 => mkS 1 [.row (rInt .i64) true data1219] [vo 0 0, vi 1 a, vi 2 b, vl 3 (.pd (fnPd Tryz.prog (fun x : Int × Int => [sI .i64 x.1, sI .i64 x.2]) (fun r : Int => [sI .i64 r]) (fun x : Int × Int => cmp x.1 x.2))), vi 8 i911]) h (fun s1223 hl1225 g1224 => ?_) ?_
      ·
        refine bk ?_
        refine lp (fun ⟨data1212, j1216⟩ => mkS 1 [.row (rInt .i64) true data1212] [vo 0 0, vi 1 a, vi 2 b, vl 3 (.pd (fnPd Tryz.prog (fun x : Int × Int => [sI .i64 x.1, sI .i64 x.2]) (fun r : Int => [sI .i64 r]) (fun x : Int × Int => cmp x.1 x.2))), vi 8 i911, vi 9 j1216]) hl1225 [0] ?_
        rintro ⟨data1212, j1216⟩ oo h hd1226
        rw [insSort_b2] at h
        refine jn (fun x => x) (fun x1261 => mkS 1 [.row (rInt .i64) true data1212] [vo 0 0, vi 1 a, vi 2 b, vl 3 (.pd (fnPd Tryz.prog (fun x : Int × Int => [sI .i64 x.1, sI .i64 x.2]) (fun r : Int => [sI .i64 r]) (fun x : Int × Int => cmp x.1 x.2))), vi 8 i911, vi 9 j1216, vb 34 x1261]) h (fun s1262 h g1263 => ?_) ?_
        ·
          refine dr mixed ?_
          refine gd h (fun hc1264 h => ?_) (fun hc1264 h => ?_)
          ·
            refine ixO h fun x1265 h => ?_
            refine ldO ?_
            refine ixO h fun x1277 h => ?_
            refine ldO ?_
            refine cvl (g := (fun x : Int × Int => cmp x.1 x.2)) (x1265, x1277) h fun r1287 h => ?_
            refine dk ?_
            cases h
            exact bj _ [0]
          ·
            refine dk ?_
            cases h
            exact bj _ [0]
        ·
          intro x1261 h
          try dsimp only at h
          refine cd h (fun hc1297 h => ?_) (fun hc1297 h => ?_)
          ·
            refine bk ?_
            refine dr mixed ?_
            refine ixO h fun x1298 h => ?_
            refine ldO ?_
            refine ixO h fun x1311 h => ?_
            refine ldO ?_
            refine ixO h fun x1321 h => ?_
            refine stO true h fun x1327 h => ?_
            refine ixO h fun x1342 h => ?_
            refine stO true h fun x1348 h => ?_
            refine dk ?_
            cases h
            exact bl [0]
          ·
            cases h
            cases hd1226 _ rfl
            replace h := g1224
            try dsimp only at h
            exact bj _ [0]
      ·
        intro data1219 h
        try dsimp only at h
        cases h
        exact bl [0]
    ·
      cases h
      cases hd921 _ rfl
      replace h := g919
      try dsimp only at h
      exact bj _ [0]
  ·
    intro data914 h
    try dsimp only at h
    cases h
    exact rt [0]
theorem stableSort_c (N : Nat) (data : (List Int)) (n : Int) (cmp : (Int → Int → Option Int)) (r : (List Int)) (h : stableSort N data n cmp = some r) : Cx Tryz.prog 150 [sO 0, sI .i64 n, .lf (.pd (fnPd Tryz.prog (fun x : Int × Int => [sI .i64 x.1, sI .i64 x.2]) (fun r : Int => [sI .i64 r]) (fun x : Int × Int => cmp x.1 x.2)))] [.row (rInt .i64) true data] [(0, some (.row (rInt .i64) true r))] [] := by
  unfold stableSort at h
  refine fn tb en150 Tryz.func150 fun X w H ν => ?_
  refine jn (fun x => x) (fun ⟨data65, a69⟩ => mkS 1 [.row (rInt .i64) true data65] [vo 0 0, vi 1 n, vl 2 (.pd (fnPd Tryz.prog (fun x : Int × Int => [sI .i64 x.1, sI .i64 x.2]) (fun r : Int => [sI .i64 r]) (fun x : Int × Int => cmp x.1 x.2))), vi 6 20, vi 7 a69]) h (fun s70 hl72 g71 => ?_) ?_
  ·
    refine bk ?_
    refine lp (fun ⟨data56, a60, b61⟩ => mkS 1 [.row (rInt .i64) true data56] [vo 0 0, vi 1 n, vl 2 (.pd (fnPd Tryz.prog (fun x : Int × Int => [sI .i64 x.1, sI .i64 x.2]) (fun r : Int => [sI .i64 r]) (fun x : Int × Int => cmp x.1 x.2))), vi 6 20, vi 7 a60, vi 8 b61]) hl72 [0] ?_
    rintro ⟨data56, a60, b61⟩ oo h hd73
    rw [stableSort_b1] at h
    refine cd h (fun hc77 h => ?_) (fun hc77 h => ?_)
    ·
      refine bk ?_
      refine cl none [0] 0 h (insSort_c N _ _ _ _) (fun r78 h => ?_)
      cases h
      exact bl [0]
    ·
      cases h
      cases hd73 _ rfl
      replace h := g71
      try dsimp only at h
      exact bj _ [0]
  ·
    rintro ⟨data65, a69⟩ h
    try dsimp only at h
    refine cl none [0] 0 h (insSort_c N _ _ _ _) (fun r97 h => ?_)
    refine jn (fun x => x) (fun (_ : Unit) => mkS 1 [.row (rInt .i64) true r97] [vo 0 0]) h (fun s165 hl167 g166 => ?_) ?_
    ·
      refine bk ?_
      refine lp (fun blockSize163 => mkS 1 [.row (rInt .i64) true r97] [vo 0 0, vi 1 n, vl 2 (.pd (fnPd Tryz.prog (fun x : Int × Int => [sI .i64 x.1, sI .i64 x.2]) (fun r : Int => [sI .i64 r]) (fun x : Int × Int => cmp x.1 x.2))), vi 6 blockSize163]) hl167 [0] ?_
      rintro blockSize163 oo h hd168
      rw [stableSort_b2] at h
      refine cd h (fun hc172 h => ?_) (fun hc172 h => ?_)
      ·
        refine bk ?_
        refine jn (fun x => x) (fun (_ : Unit) => mkS 1 [.row (rInt .i64) true r97] [vo 0 0, vi 1 n, vl 2 (.pd (fnPd Tryz.prog (fun x : Int × Int => [sI .i64 x.1, sI .i64 x.2]) (fun r : Int => [sI .i64 r]) (fun x : Int × Int => cmp x.1 x.2))), vi 6 blockSize163, vi 7 0]) h (fun s180 hl182 g181 => ?_) ?_
        ·
          refine bk ?_
          refine lp (fun (_ : Unit) => mkS 1 [.row (rInt .i64) true r97] [vo 0 0, vi 1 n, vl 2 (.pd (fnPd Tryz.prog (fun x : Int × Int => [sI .i64 x.1, sI .i64 x.2]) (fun r : Int => [sI .i64 r]) (fun x : Int × Int => cmp x.1 x.2))), vi 6 blockSize163, vi 7 0, vi 8 (iw (2 * blockSize163))]) hl182 [0] ?_
          rintro _ oo h hd183
          rw [stableSort_b3] at h
          refine cd h (fun hc187 h => ?_) (fun hc187 h => ?_)
          ·
            refine bk ?_
            cases h
          ·
            cases h
            cases hd183 _ rfl
            replace h := g181
            try dsimp only at h
            exact bj _ [0]
        ·
          intro _ h
          try dsimp only at h
          refine cd h (fun hc191 h => ?_) (fun hc191 h => ?_)
          ·
            cases h
          ·
            cases h
            exact bl [0]
      ·
        cases h
        cases hd168 _ rfl
        replace h := g166
        try dsimp only at h
        exact bj _ [0]
    ·
      intro _ h
      try dsimp only at h
      cases h
      exact rt [0]
theorem sortStable_c (N : Nat) (x : (List Int)) (cmp : (Int → Int → Option Int)) (r : (List Int)) (h : sortStable N x cmp = some r) : Cx Tryz.prog 123 [sO 0, .lf (.pd (fnPd Tryz.prog (fun x : Int × Int => [sI .i64 x.1, sI .i64 x.2]) (fun r : Int => [sI .i64 r]) (fun x : Int × Int => cmp x.1 x.2)))] [.row (rInt .i64) true x] [(0, some (.row (rInt .i64) true r))] [] := by
  unfold sortStable at h
  refine fn tb en123 Tryz.func123 fun X w H ν => ?_
  refine cl none [0] 0 h (stableSort_c N _ _ _) (fun r2 h => ?_)
  cases h
  exact rt [0]
theorem tSolve1_c (N : Nat) (a : Int) (b : Int) (ca : (List TClass)) (r : Int) (h : tSolve1 N a b ca = some r) : Cx Tryz.prog 124 [sI .i64 a, sI .i64 b, .lf (.pd (ppPd false [.ro rTClass false ca]))] [] [] [sI .i64 r] := by
  unfold tSolve1 at h
  refine fnv tb (vpp 2) en124 Tryz.func124 fun X w H ν => ?_
  refine dr mixed ?_
  refine ixR h fun x1 h => ?_
  refine ixR h fun x21 h => ?_
  refine dk ?_
  cases h
  exact rt []
theorem tSolve_c (N : Nat) (p : TProb) (r : ((List (List UInt8)) × Bool)) (h : tSolve N p = some r) : Cn Tryz.prog 92 [sA rTProb false p] [.row rStr true r.1] [sO 0, sB r.2] := by
  unfold tSolve at h
  refine fn tb en92 Tryz.func92 fun X w H ν => ?_
  refine cl none [] 2 h (tgathered_c N _) fun r6 h => ?_
  refine cd h (fun hc42 h => ?_) (fun hc42 h => ?_)
  ·
    refine pr (nl 2 rStr) ?_
    cases h
    exact rt [4]
  ·
    refine jn (fun x => (Sum.inl x)) (fun l302 => mkS 3 [.box [(.own 1)], .row rTClass true l302, .row (rInt .i64) true r6.2.1] [vp 4 0, vo 5 2]) h (fun s307 hl309 g308 => ?_) ?_
    ·
      refine bk ?_
      refine lp (fun ⟨l293, x298⟩ => mkS 3 [.box [(.own 1)], .row rTClass true l293, .row (rInt .i64) true r6.2.1] [vp 4 0, vo 5 2, vi 32 (List.length r6.1 : Int), vi 33 x298]) hl309 [3, 1, 2] ?_
      rintro ⟨l293, x298⟩ oo h hd310
      rw [tSolve_b1] at h
      refine cd h (fun hc318 h => ?_) (fun hc318 h => ?_)
      ·
        refine bk ?_
        refine dr mixed ?_
        refine ixQ h fun x319 q320 h => ?_
        refine ldO ?_
        refine ixQ h fun x337 q338 h => ?_
        refine ldO ?_
        refine cl none [] 1 h (tfirst_c N _ _) fun r354 h => ?_
        refine ixQ h fun x369 q370 h => ?_
        refine po (fzk 3 [49] []) ?_
        refine stP h (fun x390 h => ?_) (by assumption)
        refine dk ?_
        refine ixQ h fun x405 q406 h => ?_
        refine ldO ?_
        refine cd h (fun hc423 h => ?_) (fun hc423 h => ?_)
        ·
          refine pr (nl 2 rStr) ?_
          cases h
          cases hd310 _ rfl
          replace h := g308
          try dsimp only at h
          cases h
          exact rt [4]
        ·
          cases h
          exact bl [0, 1, 2]
      ·
        cases h
        cases hd310 _ rfl
        replace h := g308
        try dsimp only at h
        exact bj _ [0, 1, 2]
    ·
      intro l302 h
      try dsimp only at h
      refine mkO (rInt .i64) h fun x433 h => ?_
      refine mkO rBool h fun x450 h => ?_
      refine jn (fun x => x) (fun left589 => mkS 5 [.box [(.own 1)], .row rTClass true l302, .row (rInt .i64) true r6.2.1, .row (rInt .i64) true left589, .row rBool true x450] [vp 4 0, vo 5 2, vl 8 lN, vo 9 3, vo 10 4]) h (fun s594 hl596 g595 => ?_) ?_
      ·
        refine bk ?_
        refine lp (fun ⟨left578, x583⟩ => mkS 5 [.box [(.own 1)], .row rTClass true l302, .row (rInt .i64) true r6.2.1, .row (rInt .i64) true left578, .row rBool true x450] [vp 4 0, vo 5 2, vl 8 lN, vo 9 3, vo 10 4, vi 67 (List.length l302 : Int), vi 68 x583]) hl596 [0, 1, 2, 3, 4] ?_
        rintro ⟨left578, x583⟩ oo h hd597
        rw [tSolve_b2] at h
        refine cd h (fun hc605 h => ?_) (fun hc605 h => ?_)
        ·
          refine bk ?_
          refine ixQ h fun x606 q607 h => ?_
          refine ldO ?_
          refine ixO h fun x626 h => ?_
          refine stO true h fun x632 h => ?_
          cases h
          exact bl [0, 1, 2, 3, 4]
        ·
          cases h
          cases hd597 _ rfl
          replace h := g595
          try dsimp only at h
          exact bj _ [0, 1, 2, 3, 4]
      ·
        intro left589 h
        try dsimp only at h
        refine jn (fun x => x) (fun ⟨last3141, removed3147⟩ => mkS 5 [.box [(.own 1)], .row rTClass true l302, .row (rInt .i64) true r6.2.1, .row (rInt .i64) true last3141, .row rBool true removed3147] [vp 4 0, vo 5 2, vo 8 3, vo 10 4]) h (fun s3151 hl3153 g3152 => ?_) ?_
        ·
          refine bk ?_
          refine ps (nl 8 (rInt .i64)) ?_
          refine lp (fun ⟨last3116, left3122, removed3128, changed3132⟩ => mkS 6 [.box [(.own 1)], .row rTClass true l302, .row (rInt .i64) true r6.2.1, .row (rInt .i64) true last3116, .row (rInt .i64) true left3122, .row rBool true removed3128] [vp 4 0, vo 5 2, vo 8 3, vo 9 4, vo 10 5, vb 12 changed3132]) hl3153 [0, 1, 2, 5, 3, 4] ?_
          rintro ⟨last3116, left3122, removed3128, changed3132⟩ oo h hd3154
          rw [tSolve_b3] at h
          refine cd h (fun hc3168 h => ?_) (fun hc3168 h => ?_)
          ·
            refine bk ?_
            refine jn (fun x => x) (fun ⟨last3976, left3982, removed3988, changed3992⟩ => mkS 6 [.box [(.own 1)], .row rTClass true l302, .row (rInt .i64) true r6.2.1, .row (rInt .i64) true last3976, .row (rInt .i64) true left3982, .row rBool true removed3988] [vp 4 0, vo 5 2, vo 8 3, vo 9 4, vo 10 5, vb 12 changed3992]) h (fun s3993 hl3995 g3994 => ?_) ?_
            ·
              refine bk ?_
              refine lp (fun ⟨last3950, left3956, removed3962, changed3966, x3967⟩ => mkS 6 [.box [(.own 1)], .row rTClass true l302, .row (rInt .i64) true r6.2.1, .row (rInt .i64) true last3950, .row (rInt .i64) true left3956, .row rBool true removed3962] [vp 4 0, vo 5 2, vo 8 3, vo 9 4, vo 10 5, vb 12 changed3966, vi 83 (List.length l302 : Int), vi 84 x3967]) hl3995 [0, 1, 2, 3, 4, 5] ?_
              rintro ⟨last3950, left3956, removed3962, changed3966, x3967⟩ oo h hd3996
              rw [tSolve_b4] at h
              refine cd h (fun hc4000 h => ?_) (fun hc4000 h => ?_)
              ·
                refine bk ?_
                refine jn (fun x => x) (fun x4048 => mkS 6 [.box [(.own 1)], .row rTClass true l302, .row (rInt .i64) true r6.2.1, .row (rInt .i64) true last3950, .row (rInt .i64) true left3956, .row rBool true removed3962] [vp 4 0, vo 5 2, vo 8 3, vo 9 4, vo 10 5, vb 12 changed3966, vi 13 x3967, vi 83 (List.length l302 : Int), vi 84 x3967, vb 104 x4048]) h (fun s4049 h g4050 => ?_) ?_
                ·
                  refine dr mixed ?_
                  refine ixO h fun x4051 h => ?_
                  refine ldO ?_
                  refine gd h (fun hc4061 h => ?_) (fun hc4061 h => ?_)
                  ·
                    refine ixQ h fun x4062 q4063 h => ?_
                    refine ldO ?_
                    refine ixO h fun x4082 h => ?_
                    refine ldO ?_
                    refine dk ?_
                    cases h
                    exact bj _ [0, 1, 2, 3, 4, 5]
                  ·
                    refine dk ?_
                    cases h
                    exact bj _ [0, 1, 2, 3, 4, 5]
                ·
                  intro x4048 h
                  try dsimp only at h
                  refine cd h (fun hc4095 h => ?_) (fun hc4095 h => ?_)
                  ·
                    refine ixO h fun x4096 h => ?_
                    refine stO true h fun x4102 h => ?_
                    refine litO (rInt .i64) true [x3967] ?_
                    refine apO true h fun x4126 h => ?_
                    refine ixQ h fun x4144 q4145 h => ?_
                    refine ldO ?_
                    refine jn (fun x => x) (fun left4299 => mkS 6 [.box [(.own 1)], .row rTClass true l302, .row (rInt .i64) true r6.2.1, .row (rInt .i64) true x4126, .row (rInt .i64) true left4299, .row rBool true x4102] [vp 4 0, vo 5 2, vo 8 3, vo 9 4, vo 10 5, vb 12 true, vi 83 (List.length l302 : Int), vi 84 x3967]) h (fun s4304 hl4306 g4305 => ?_) ?_
                    ·
                      refine bk ?_
                      refine lp (fun ⟨left4287, x4292⟩ => mkS 6 [.box [(.own 1)], .row rTClass true l302, .row (rInt .i64) true r6.2.1, .row (rInt .i64) true x4126, .row (rInt .i64) true left4287, .row rBool true x4102] [vp 4 0, vo 5 2, vo 8 3, vo 9 4, vo 10 5, vb 12 true, vi 83 (List.length l302 : Int), vi 84 x3967, vr 116 (rInt .i64) true x4144.apart, vi 117 (List.length x4144.apart : Int), vi 118 x4292]) hl4306 [0, 1, 2, 7, 4, 5] ?_
                      rintro ⟨left4287, x4292⟩ oo h hd4307
                      rw [tSolve_b5] at h
                      refine cd h (fun hc4315 h => ?_) (fun hc4315 h => ?_)
                      ·
                        refine bk ?_
                        refine ixR h fun x4316 h => ?_
                        refine ixO h fun x4330 h => ?_
                        refine ldO ?_
                        refine ixO h fun x4340 h => ?_
                        refine stO true h fun x4346 h => ?_
                        cases h
                        exact bl [0, 1, 2, 3, 4, 5]
                      ·
                        cases h
                        cases hd4307 _ rfl
                        replace h := g4305
                        try dsimp only at h
                        exact bj _ [0, 1, 2, 3, 4, 5]
                    ·
                      intro left4299 h
                      try dsimp only at h
                      cases h
                      exact bl [0, 1, 2, 3, 4, 5]
                  ·
                    cases h
                    exact bl [0, 1, 2, 3, 4, 5]
              ·
                cases h
                cases hd3996 _ rfl
                replace h := g3994
                try dsimp only at h
                exact bj _ [0, 1, 2, 3, 4, 5]
            ·
              rintro ⟨last3976, left3982, removed3988, changed3992⟩ h
              try dsimp only at h
              cases h
              exact bl [0, 1, 2, 3, 4, 5]
          ·
            cases h
            cases hd3154 _ rfl
            replace h := g3152
            try dsimp only at h
            exact bj _ [0, 1, 2, 3, 5]
        ·
          rintro ⟨last3141, removed3147⟩ h
          try dsimp only at h
          refine jn (fun x => x) (fun hard4514 => mkS 5 [.box [(.own 1)], .row rTClass true l302, .row (rInt .i64) true r6.2.1, .row (rInt .i64) true last3141, .row (rInt .i64) true hard4514] [vp 4 0, vo 5 2, vo 8 3, vo 16 4]) h (fun s4518 hl4520 g4519 => ?_) ?_
          ·
            refine bk ?_
            refine ps (nl 16 (rInt .i64)) ?_
            refine lp (fun ⟨hard4500, x4504⟩ => mkS 6 [.box [(.own 1)], .row rTClass true l302, .row (rInt .i64) true r6.2.1, .row (rInt .i64) true last3141, .row rBool true removed3147, .row (rInt .i64) true hard4500] [vp 4 0, vo 5 2, vo 8 3, vo 10 4, vo 16 5, vi 131 (List.length l302 : Int), vi 132 x4504]) hl4520 [0, 1, 2, 3, 4, 5] ?_
            rintro ⟨hard4500, x4504⟩ oo h hd4521
            rw [tSolve_b6] at h
            refine cd h (fun hc4533 h => ?_) (fun hc4533 h => ?_)
            ·
              refine bk ?_
              refine ixO h fun x4534 h => ?_
              refine ldO ?_
              refine cd h (fun hc4545 h => ?_) (fun hc4545 h => ?_)
              ·
                refine litO (rInt .i64) true [x4504] ?_
                refine apO true h fun x4554 h => ?_
                cases h
                exact bl [0, 1, 2, 3, 4, 7]
              ·
                cases h
                exact bl [0, 1, 2, 3, 4, 5]
            ·
              cases h
              cases hd4521 _ rfl
              replace h := g4519
              try dsimp only at h
              exact bj _ [0, 1, 2, 3, 5]
          ·
            intro hard4514 h
            try dsimp only at h
            refine po (fzk 1 [] [0]) ?_
            refine po (fzb 0 4) ?_
            refine mkF (fun x : Int × Int => [sI .i64 x.1, sI .i64 x.2]) (fun r : Int => [sI .i64 r]) (fun x => tSolve1 N x.1 x.2 l302) (fun x r h => tSolve1_c N x.1 x.2 l302 r h) en124 ?_
            refine cl none [4] 0 h (sortStable_c N _ _) (fun r4590 h => ?_)
            refine cl none [3] 0 h (revInt_c N _) (fun r4609 h => ?_)
            refine dr mixed ?_
            refine apO true h fun x4626 h => ?_
            refine mkO rStr h fun x4645 h => ?_
            refine mkO rBool h fun x4662 h => ?_
            refine cl none [6, 7] 0 h (tchoose_c N _ _ _ _) (fun r4677 h => ?_) (h2 := by rintro ⟨_ | _, _⟩ <;> rfl)
            refine dk ?_
            refine cd h (fun hc4704 h => ?_) (fun hc4704 h => ?_)
            ·
              refine pr (nl 2 rStr) ?_
              cases h
              exact rt [8]
            ·
              obtain ⟨_, q4710, h⟩ := bind_some h
              refine po (alV 18 (chk_some q4710)) ?_
              refine mkO rStr h fun x4713 h => ?_
              refine jn (fun x => x) (fun out4851 => mkS 1 [.row rStr true out4851] [vo 20 0]) h (fun s4855 hl4857 g4856 => ?_) ?_
              ·
                refine bk ?_
                refine lp (fun ⟨out4843, x4848⟩ => mkS 3 [.row rStr true r4677.2.2.1, .row rStr true out4843, .row (rInt .i64) true r6.2.1] [vo 18 0, vo 20 1, vo 169 2, vi 170 (List.length r6.2.1 : Int), vi 171 x4848]) hl4857 [6, 8, 2] ?_
                rintro ⟨out4843, x4848⟩ oo h hd4858
                rw [tSolve_b7] at h
                refine cd h (fun hc4866 h => ?_) (fun hc4866 h => ?_)
                ·
                  refine bk ?_
                  refine ixO h fun x4867 h => ?_
                  refine ldO ?_
                  refine ixO h fun x4880 h => ?_
                  refine ldO ?_
                  refine ixO h fun x4891 h => ?_
                  refine stO true h fun x4897 h => ?_
                  cases h
                  exact bl [0, 1, 2]
                ·
                  cases h
                  cases hd4858 _ rfl
                  replace h := g4856
                  try dsimp only at h
                  exact bj _ [1]
              ·
                intro out4851 h
                try dsimp only at h
                cases h
                exact rt [0]
end Go.Proofs.YtcakdidcpoolcaaGreatDoor.ST

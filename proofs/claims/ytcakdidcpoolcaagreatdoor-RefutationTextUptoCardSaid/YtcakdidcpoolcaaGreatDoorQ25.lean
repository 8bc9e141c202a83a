/- Openers of the arguments. Written by a program of mine (wip/tool). -/
import Derived.Test.YtcakdidcpoolcaaGreatDoorProg
import Derived.Test.YtcakdidcpoolcaaGreatDoorZ
import Derived.Test.YtcakdidcpoolcaaGreatDoorX
import Derived.Test.YtcakdidcpoolcaaGreatDoorT25
import Derived.Test.YtcakdidcpoolcaaGreatDoorJ2
import Derived.Test.YtcakdidcpoolcaaGreatDoorRows
import Derived.Test.YtcakdidcpoolcaaGreatDoorF25
import Derived.ChangeMaps5
import Derived.Stop.LaidErr
import Derived.Lib.LaidTab
import Derived.Lib.AppendIntMem
set_option maxRecDepth 100000
set_option linter.unusedVariables false
set_option linter.unusedSimpArgs false
namespace Go.Proofs.YtcakdidcpoolcaaGreatDoor.Q25
open Go Go.ChangeShapes Go.WideShapes Go.ChangeAt Go.RowKit Go.X Go.D
section
variable {H : Type} {enc : TypeId × Value → H} {W : World}
def G3 (x : Int) : Prop := (Lit.int .i64 x).wf = true
theorem o3 : ∀ N, Opn enc Tryz.prog W N (rInt .i64) 3 G3 := fun N => Opn.int Tryz.underlying3
def G4 (_ : Bool) : Prop := True
theorem o4 : ∀ N, Opn enc Tryz.prog W N rBool 4 G4 := fun N => Opn.bool Tryz.underlying4
def G177 (x : Int) : Prop := (Lit.int .u32 x).wf = true
theorem o177 : ∀ N, Opn enc Tryz.prog W N (rInt .u32) 177 G177 := fun N => Opn.int Tryz.underlying177
def G55 (xs : (List Int)) : Prop := xs.length ≤ 9223372036854775807 ∧ ∀ x ∈ xs, G177 x
theorem o55 : ∀ N, Opn enc Tryz.prog W N (rSl (rInt .u32)) 55 G55 := fun N => Opn.less (Opn.slice Tryz.underlying55 (by kernel_rfl) rfl (o177 N))
def G57 (x : Big) : Prop := G4 x.Negative ∧ G55 x.Digits ∧ True
theorem o57 : ∀ N, Opn enc Tryz.prog W N rBig 57 G57 := by
  intro N fuel hf cs x h
  obtain ⟨hl, n, hn, hfs⟩ := trod_fields Tryz.underlying57 h
  have hl : cs.length = 2 := hl
  match cs, hl with
  | [c0, c1], _ =>
    obtain ⟨y0, h0⟩ := hfs 0 _ rfl
    obtain ⟨a0, r0, g0⟩ := o4 n n (Nat.le_refl _) _ _ h0
    have r0 : rBool.R (HW W) [c0] a0 := r0
    have r0 : [c0] = [.bool a0] := r0
    cases r0
    obtain ⟨y1, h1⟩ := hfs 1 _ rfl
    obtain ⟨a1, r1, g1⟩ := o55 n n (Nat.le_refl _) _ _ h1
    have r1 : (rSl (rInt .u32)).R (HW W) [c1] a1 := r1
    obtain ⟨v1, e1, k1⟩ := r1
    cases e1
    exact ⟨⟨a0, a1⟩, ⟨_, rfl, k1, trivial⟩, ⟨g0, g1, trivial⟩⟩
def G94 (x : Use) : Prop := G3 x.Index ∧ G57 x.N ∧ True
theorem o94 : ∀ N, Opn enc Tryz.prog W N rUse 94 G94 := by
  intro N fuel hf cs x h
  obtain ⟨hl, n, hn, hfs⟩ := trod_fields Tryz.underlying94 h
  have hl : cs.length = 3 := hl
  match cs, hl with
  | [c0, c1, c2], _ =>
    obtain ⟨y0, h0⟩ := hfs 0 _ rfl
    obtain ⟨a0, r0, g0⟩ := o3 n n (Nat.le_refl _) _ _ h0
    have r0 : (rInt .i64).R (HW W) [c0] a0 := r0
    have r0 : [c0] = [.int .i64 a0] := r0
    cases r0
    obtain ⟨y1, h1⟩ := hfs 1 _ rfl
    obtain ⟨a1, r1, g1⟩ := o57 n n (Nat.le_refl _) _ _ h1
    have r1 : rBig.R (HW W) [c1, c2] a1 := r1
    obtain ⟨v1_0, e1, k1_0, -⟩ := r1
    cases e1
    exact ⟨⟨a0, a1⟩, ⟨_, rfl, k1_0, trivial⟩, ⟨g0, g1, trivial⟩⟩
def G95 (xs : (List Use)) : Prop := xs.length ≤ 9223372036854775807 ∧ ∀ x ∈ xs, G94 x
theorem o95 : ∀ N, Opn enc Tryz.prog W N (rSl rUse) 95 G95 := fun N => Opn.less (Opn.slice Tryz.underlying95 (by kernel_rfl) rfl (o94 N))
def G97 (x : Step) : Prop := G95 x.Uses ∧ G57 x.Divisor ∧ True
theorem o97 : ∀ N, Opn enc Tryz.prog W N rStep 97 G97 := by
  intro N fuel hf cs x h
  obtain ⟨hl, n, hn, hfs⟩ := trod_fields Tryz.underlying97 h
  have hl : cs.length = 3 := hl
  match cs, hl with
  | [c0, c1, c2], _ =>
    obtain ⟨y0, h0⟩ := hfs 0 _ rfl
    obtain ⟨a0, r0, g0⟩ := o95 n n (Nat.le_refl _) _ _ h0
    have r0 : (rSl rUse).R (HW W) [c0] a0 := r0
    obtain ⟨v0, e0, k0⟩ := r0
    cases e0
    obtain ⟨y1, h1⟩ := hfs 1 _ rfl
    obtain ⟨a1, r1, g1⟩ := o57 n n (Nat.le_refl _) _ _ h1
    have r1 : rBig.R (HW W) [c1, c2] a1 := r1
    obtain ⟨v1_0, e1, k1_0, -⟩ := r1
    cases e1
    exact ⟨⟨a0, a1⟩, ⟨_, _, rfl, k0, k1_0, trivial⟩, ⟨g0, g1, trivial⟩⟩
def G51 (xs : (List Big)) : Prop := xs.length ≤ 9223372036854775807 ∧ ∀ x ∈ xs, G57 x
theorem o51 : ∀ N, Opn enc Tryz.prog W N (rSl rBig) 51 G51 := fun N => Opn.less (Opn.slice Tryz.underlying51 (by kernel_rfl) rfl (o57 N))
theorem mem_sum : ∀ {l : List Nat} {x : Nat}, x ∈ l → x ≤ l.sum
  | a :: r, x, h => by
    rw [List.sum_cons]
    rcases List.mem_cons.1 h with rfl | h
    · omega
    · have := mem_sum h; omega
theorem bk_one (d : DataW H) : 1 ≤ Rows.uptoBulk d := by
  cases d with
  | lit l => cases l <;> simp [Rows.uptoBulk]
  | _ => simp [Rows.uptoBulk]
theorem bk_all : ∀ l : List (DataW H), Rows.uptoBulkAll l = (l.map Rows.uptoBulk).sum
  | [] => rfl
  | d :: r => by simp only [Rows.uptoBulkAll, bk_all r, List.map_cons, List.sum_cons]
theorem bk_len : ∀ l : List (DataW H), l.length ≤ Rows.uptoBulkAll l
  | [] => Nat.zero_le _
  | d :: r => by have := bk_one d; have := bk_len r; simp only [Rows.uptoBulkAll, List.length_cons]; omega
theorem slT_len {α : Type} {T : α → DataW H → Prop} {xs : List α} {d : DataW H} (h : SlT T xs d) : xs.length ≤ Rows.uptoBulk d := by
  rcases h with ⟨_, rfl⟩ | ⟨es, sp, rfl, hl, _⟩
  · simp
  · have := bk_len es
    simp only [Rows.uptoBulk]; omega
theorem slT_sum {α : Type} {B : α → Nat} {xs : List α} {d : DataW H} (h : SlT (fun x y => B x ≤ Rows.uptoBulk y) xs d) : (xs.map B).sum ≤ Rows.uptoBulk d := by
  rcases h with ⟨_, rfl⟩ | ⟨es, sp, rfl, hl, hT⟩
  · simp
  · have := sum_le hl hT
    rw [← bk_all] at this
    simp only [Rows.uptoBulk]; omega
theorem bkPs_sum : ∀ l : List Proof, bkPs l = (l.map bkP).sum
  | [] => rfl
  | c :: r => by simp only [bkPs, bkPs_sum r, List.map_cons, List.sum_cons]
theorem bkRs_sum : ∀ l : List Refut, bkRs l = (l.map bkR).sum
  | [] => rfl
  | c :: r => by simp only [bkRs, bkRs_sum r, List.map_cons, List.sum_cons]
theorem bulk_at {ds : List (DataW H)} (hk : Rows.uptoSmall H ds = true) {i : Nat} {d : DataW H} (h : ds[i]? = some d) : Rows.uptoBulk d ≤ 1048576 := by
  have h1 : Rows.uptoBulkAll ds ≤ 1048576 := of_decide_eq_true hk
  rw [bk_all] at h1
  have : Rows.uptoBulk d ≤ (ds.map Rows.uptoBulk).sum := mem_sum (List.mem_map.2 ⟨_, List.mem_of_getElem? h, rfl⟩)
  omega
theorem oSteps : ∀ N, OpnT enc Tryz.prog W N (rSl rStep) 67 (fun xs => xs.length ≤ 9223372036854775807 ∧ ∀ x ∈ xs, G97 x) (SlT fun _ _ => True) := fun N => OpnT.less (OpnT.slice Tryz.underlying67 (by kernel_rfl) rfl (Opn.t (o97 N)))
theorem oProof : ∀ N, OpnT enc Tryz.prog W N rProof 70 InPt (fun p d => bkP p ≤ Rows.uptoBulk d) := by
  intro N
  induction N with
  | zero => intro fuel hf cs x h; obtain rfl : fuel = 0 := by omega
            simp [DataW.trod] at h
  | succ N ih =>
    intro fuel hf cs x h
    obtain ⟨hl, n, hn, ds, hx, hdl, hfs⟩ := trod_fieldsT Tryz.underlying70 h
    have hl : cs.length = 5 := hl
    match cs, hl with
    | [c0, c1, c2, c3, c4], _ =>
      obtain ⟨y0, h0, e0⟩ := hfs 0 _ rfl
      obtain ⟨a0, r0, g0, t0⟩ := oSteps n n (Nat.le_refl _) _ _ h0
      have r0 : (rSl rStep).R (HW W) [c0] a0 := r0
      obtain ⟨v0, q0, k0⟩ := r0
      cases q0
      obtain ⟨y1, h1, e1⟩ := hfs 1 _ rfl
      obtain ⟨a1, r1, g1⟩ := o51 n n (Nat.le_refl _) _ _ h1
      have r1 : (rSl rBig).R (HW W) [c1] a1 := r1
      obtain ⟨v1, q1, k1⟩ := r1
      cases q1
      obtain ⟨y2, h2, e2⟩ := hfs 2 _ rfl
      obtain ⟨a2, r2, g2⟩ := o57 n n (Nat.le_refl _) _ _ h2
      have r2 : rBig.R (HW W) [c2, c3] a2 := r2
      obtain ⟨v2, q2, k2, -⟩ := r2
      cases q2
      obtain ⟨y3, h3, e3⟩ := hfs 3 _ rfl
      obtain ⟨a3, r3, g3, t3⟩ := (OpnT.slice Tryz.underlying68 (by kernel_rfl) rfl ih) n (by omega) _ _ h3
      have r3 : (rSl rProof).R (HW W) [c4] a3 := r3
      obtain ⟨v3, q3, k3⟩ := r3
      cases q3
      refine ⟨⟨a0, a1, a2, a3⟩, rProof_close ⟨_, _, _, _, rfl, k0, k1, k2, k3, trivial⟩, .mk (fun s hs => (g0.2 s hs).1.1) g1.1 g0.1 g3.1 g3.2, ?_⟩
      show bkP _ ≤ Rows.uptoBulk x.1
      rw [bkP_eq, hx]
      have b0 := slT_len t0
      have b3 := slT_sum t3
      rw [← bkPs_sum] at b3
      have : Rows.uptoBulk y0.1 + Rows.uptoBulk y3.1 ≤ Rows.uptoBulkAll ds := by
        match ds, hdl with
        | [d0, d1, d2, d3], _ =>
          cases e0
          cases e3
          simp only [Rows.uptoBulkAll]; omega
      show a0.length + bkPs a3 + 1 ≤ Rows.uptoBulk (.agg ds)
      simp only [Rows.uptoBulk]; omega
theorem oRefut : ∀ N, OpnT enc Tryz.prog W N rRefut 73 InR (fun p d => bkR p ≤ Rows.uptoBulk d) := by
  intro N
  induction N with
  | zero => intro fuel hf cs x h; obtain rfl : fuel = 0 := by omega
            simp [DataW.trod] at h
  | succ N ih =>
    intro fuel hf cs x h
    obtain ⟨hl, n, hn, ds, hx, hdl, hfs⟩ := trod_fieldsT Tryz.underlying73 h
    have hl : cs.length = 9 := hl
    match cs, hl with
    | [c0, c1, c2, c3, c4, c5, c6, c7, c8], _ =>
      obtain ⟨y0, h0, e0⟩ := hfs 0 _ rfl
      obtain ⟨a0, r0, g0⟩ := o3 n n (Nat.le_refl _) _ _ h0
      have r0 : [c0] = [.int .i64 a0] := r0
      cases r0
      obtain ⟨y1, h1, e1⟩ := hfs 1 _ rfl
      obtain ⟨a1, r1, g1⟩ := o3 n n (Nat.le_refl _) _ _ h1
      have r1 : [c1] = [.int .i64 a1] := r1
      cases r1
      obtain ⟨y2, h2, e2⟩ := hfs 2 _ rfl
      obtain ⟨a2, r2, g2⟩ := o3 n n (Nat.le_refl _) _ _ h2
      have r2 : [c2] = [.int .i64 a2] := r2
      cases r2
      obtain ⟨y3, h3, e3⟩ := hfs 3 _ rfl
      obtain ⟨a3, r3, g3, t3⟩ := oProof n n (Nat.le_refl _) _ _ h3
      have r3 : rProof.R (HW W) [c3, c4, c5, c6, c7] a3 := r3
      obtain ⟨v0, v1, v2, v3, q3, k0, k1, k2, k3, -⟩ := rProof_open r3
      cases q3
      obtain ⟨y4, h4, e4⟩ := hfs 4 _ rfl
      obtain ⟨a4, r4, g4, t4⟩ := (OpnT.slice Tryz.underlying71 (by kernel_rfl) rfl ih) n (by omega) _ _ h4
      have r4 : (rSl rRefut).R (HW W) [c8] a4 := r4
      obtain ⟨v4, q4, k4⟩ := r4
      cases q4
      refine ⟨⟨a0, a1, a2, a3, a4⟩, rRefut_close ⟨_, _, _, _, _, rfl, k0, k1, k2, k3, k4, trivial⟩, .mk (bounds_i64 g1) (bounds_i64 g2) g3 g4.1 g4.2, ?_⟩
      show bkR _ ≤ Rows.uptoBulk x.1
      rw [bkR_eq, hx]
      have b4 := slT_sum t4
      rw [← bkRs_sum] at b4
      have : Rows.uptoBulk y3.1 + Rows.uptoBulk y4.1 ≤ Rows.uptoBulkAll ds := by
        match ds, hdl with
        | [d0, d1, d2, d3, d4], _ =>
          cases e3
          cases e4
          simp only [Rows.uptoBulkAll]; omega
      show bkP a3 + bkRs a4 + 1 ≤ Rows.uptoBulk (.agg ds)
      simp only [Rows.uptoBulk]; omega
theorem laid_eq : (Rows.laid_internal_strconv_uint64pow10 : DataW Unit) = Lib.tabData .u64 Lib.pow10Tab := by kernel_rfl
theorem g_of {x y : String × DataW Unit} (h : laidMet Tryz.prog [x, y, ("internal/strconv.uint64pow10", Rows.laid_internal_strconv_uint64pow10)] W) : G W := by
  have h1 := laidMet.tail (laidMet.tail h)
  rw [laid_eq] at h1
  exact Lib.tabBelow_of_tabIs (Lib.tabIs_of_head (g := 0) (t := 242) (e := 149) (n := 20) (by kernel_rfl) (by kernel_rfl) Tryz.underlying242 Tryz.underlying149 (by kernel_rfl) (by kernel_rfl) h1)
end
end Go.Proofs.YtcakdidcpoolcaaGreatDoor.Q25

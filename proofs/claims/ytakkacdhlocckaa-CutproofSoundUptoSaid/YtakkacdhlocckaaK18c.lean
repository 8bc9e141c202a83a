/- What the bulk of the arguments tells. -/
import Derived.Test.YtakkacdhlocckaaK18b
import Derived.Test.YtakkacdhlocckaaM16
import Derived.Test.YtakkacdhlocckaaZ
import Derived.Test.YtakkacdhlocckaaRows
set_option maxRecDepth 100000
namespace Go.Proofs.Ytakkacdhlocckaa.Q18
open Go Go.RowKit Go.X Go.D
section
variable {H : Type} {enc : TypeId × Value → H} {W : World}
theorem mem_sum : ∀ {l : List Nat} {x : Nat}, x ∈ l → x ≤ l.sum
  | a :: r, x, h => by
    rw [List.sum_cons]
    rcases List.mem_cons.1 h with rfl | h
    · omega
    · have := mem_sum h; omega
theorem bk_one (d : DataW H) : 1 ≤ Rows.uptoBulk d := by
  cases d with
  | lit l => cases l <;> simp [Rows.uptoBulk]
  | _ => simp [Rows.uptoBulk]
theorem bk_all : ∀ l : List (DataW H), Rows.uptoBulkAll l = (l.map Rows.uptoBulk).sum
  | [] => rfl
  | d :: r => by simp only [Rows.uptoBulkAll, bk_all r, List.map_cons, List.sum_cons]
theorem bk_len : ∀ l : List (DataW H), l.length ≤ Rows.uptoBulkAll l
  | [] => Nat.zero_le _
  | d :: r => by have := bk_one d; have := bk_len r; simp only [Rows.uptoBulkAll, List.length_cons]; omega
theorem slT_len {α : Type} {T : α → DataW H → Prop} {xs : List α} {d : DataW H} (h : SlT T xs d) : xs.length ≤ Rows.uptoBulk d := by
  rcases h with ⟨_, rfl⟩ | ⟨es, sp, rfl, hl, _⟩
  · simp
  · have := bk_len es
    simp only [Rows.uptoBulk]; omega
theorem slT_sum {α : Type} {B : α → Nat} {xs : List α} {d : DataW H} (h : SlT (fun x y => B x ≤ Rows.uptoBulk y) xs d) : (xs.map B).sum ≤ Rows.uptoBulk d := by
  rcases h with ⟨_, rfl⟩ | ⟨es, sp, rfl, hl, hT⟩
  · simp
  · have := sum_le hl hT
    rw [← bk_all] at this
    simp only [Rows.uptoBulk]; omega
theorem bkPs_sum : ∀ l : List Proof, bkPs l = (l.map bkP).sum
  | [] => rfl
  | c :: r => by simp only [bkPs, bkPs_sum r, List.map_cons, List.sum_cons]
theorem bulk_at {ds : List (DataW H)} (hk : Rows.uptoSmall H ds = true) {i : Nat} {d : DataW H} (h : ds[i]? = some d) : Rows.uptoBulk d ≤ 1048576 := by
  have h1 : Rows.uptoBulkAll ds ≤ 1048576 := of_decide_eq_true hk
  rw [bk_all] at h1
  have : Rows.uptoBulk d ≤ (ds.map Rows.uptoBulk).sum := mem_sum (List.mem_map.2 ⟨_, List.mem_of_getElem? h, rfl⟩)
  omega
theorem oSteps : ∀ N, OpnT enc Try.prog W N (rSl rStep) 39 (fun xs => xs.length ≤ 9223372036854775807 ∧ ∀ x ∈ xs, G28 x) (SlT fun _ _ => True) := fun N => OpnT.less (OpnT.slice Try.underlying39 (by kernel_rfl) rfl (Opn.t (o28 N)))
theorem oProof : ∀ N, OpnT enc Try.prog W N rProof 42 InPr (fun p d => bkP p ≤ Rows.uptoBulk d) := by
  intro N
  induction N with
  | zero => intro fuel hf cs x h; obtain rfl : fuel = 0 := by omega
            simp [DataW.trod] at h
  | succ N ih =>
    intro fuel hf cs x h
    obtain ⟨hl, n, hn, ds, hx, hdl, hfs⟩ := trod_fieldsT Try.underlying42 h
    have hl : cs.length = 5 := hl
    match cs, hl with
    | [c0, c1, c2, c3, c4], _ =>
      obtain ⟨y0, h0, e0⟩ := hfs 0 _ rfl
      obtain ⟨a0, r0, g0, t0⟩ := oSteps n n (Nat.le_refl _) _ _ h0
      have r0 : (rSl rStep).R (HW W) [c0] a0 := r0
      obtain ⟨v0, q0, k0⟩ := r0
      cases q0
      obtain ⟨y1, h1, e1⟩ := hfs 1 _ rfl
      obtain ⟨a1, r1, g1⟩ := o32 n n (Nat.le_refl _) _ _ h1
      have r1 : (rSl rBig).R (HW W) [c1] a1 := r1
      obtain ⟨v1, q1, k1⟩ := r1
      cases q1
      obtain ⟨y2, h2, e2⟩ := hfs 2 _ rfl
      obtain ⟨a2, r2, g2⟩ := o26 n n (Nat.le_refl _) _ _ h2
      have r2 : rBig.R (HW W) [c2, c3] a2 := r2
      obtain ⟨v2, q2, k2, -⟩ := r2
      cases q2
      obtain ⟨y3, h3, e3⟩ := hfs 3 _ rfl
      obtain ⟨a3, r3, g3, t3⟩ := (OpnT.slice Try.underlying40 (by kernel_rfl) rfl ih) n (by omega) _ _ h3
      have r3 : (rSl rProof).R (HW W) [c4] a3 := r3
      obtain ⟨v3, q3, k3⟩ := r3
      cases q3
      refine ⟨⟨a0, a1, a2, a3⟩, rProof_close ⟨_, _, _, _, rfl, k0, k1, k2, k3, trivial⟩, .mk (fun s hs => inS_of (g0.2 s hs)) g1.1 (fun b hb => in32_of (g1.2 b hb)) (in32_of g2) g3.1 g3.2, ?_⟩
      show bkP _ ≤ Rows.uptoBulk x.1
      rw [bkP_eq, hx]
      have b0 := slT_len t0
      have b3 := slT_sum t3
      rw [← bkPs_sum] at b3
      have : Rows.uptoBulk y0.1 + Rows.uptoBulk y3.1 ≤ Rows.uptoBulkAll ds := by
        match ds, hdl with
        | [d0, d1, d2, d3], _ =>
          cases e0
          cases e3
          simp only [Rows.uptoBulkAll]; omega
      show a0.length + bkPs a3 + 1 ≤ Rows.uptoBulk (.agg ds)
      simp only [Rows.uptoBulk]; omega
theorem oIneqs : ∀ N, OpnT enc Try.prog W N (rSl rIneq) 22 G22 (SlT fun _ _ => True) := fun N => OpnT.less (OpnT.slice Try.underlying22 (by kernel_rfl) rfl (Opn.t (o34 N)))
end
end Go.Proofs.Ytakkacdhlocckaa.Q18

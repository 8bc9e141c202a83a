/-
  The law Algebra of chapter 20. Plain theorems.
-/
import Derived.Test.YtckhldmpcddjmaaDoorK12
import Derived.Test.YtckhldmpcddjmaaDoorK9
set_option linter.unusedVariables false
set_option linter.unusedSimpArgs false
namespace Go.D
open Go Go.X

theorem notD_len {d : ADfa} : (notD d).Accept.length ≤ d.Accept.length + 1 := by
  unfold notD; split <;> simp
theorem lawAlgebra_tm {a b : ADfa} (hla : Lim a) (hwa : Wf a) (hlb : Lim b) (hwb : Wf b) : Tm (fun N => lawAlgebra N a b) (· = true) := by
  unfold lawAlgebra
  have skip : Tm (fun N => (awake N).bind fun r38 => some r38) (· = true) := awake_tm.eq (Tm.some rfl)
  have cond : Tm (fun N => (awake N).bind fun r43 => if (!r43) = true then some true else (rFew N a).bind fun r54 => if (!r54) = true then some true else (rFew N b).bind fun r67 => some (!r67)) (· = !(few a && few b)) := by
    refine awake_tm.eq (Tm.neg (by simp) ((rFew_tm hla hwa).eq ?_))
    cases few a with
    | false => exact Tm.pos rfl (Tm.some rfl)
    | true => exact Tm.neg (by simp) ((rFew_tm hlb hwb).eq (Tm.some rfl))
  refine cond.eq ?_
  cases hf : (few a && few b) with
  | false => exact Tm.pos rfl skip
  | true =>
    rw [Bool.and_eq_true] at hf
    obtain ⟨ha, ha8⟩ := few_ok hf.1
    obtain ⟨hb, hb8⟩ := few_ok hf.2
    refine Tm.neg (by simp) ?_
    have hn9 : (notD a).Accept.length ≤ 9 := by have := notD_len (d := a); omega
    have hnk := notD_ok ha (by omega)
    have hmk := notD_ok hnk (by omega)
    have m1 : a.Accept.length * b.Accept.length ≤ 8 * 8 := Nat.mul_le_mul ha8 hb8
    have m2 : b.Accept.length * a.Accept.length ≤ 8 * 8 := Nat.mul_le_mul hb8 ha8
    have m3 : a.Accept.length * a.Accept.length ≤ 8 * 8 := Nat.mul_le_mul ha8 ha8
    have m4 : a.Accept.length * (notD a).Accept.length ≤ 8 * 9 := Nat.mul_le_mul ha8 hn9
    have la := lown_tm (okD_lms ha)
    have lb := lown_tm (okD_lms hb)
    refine la.eq ((aNot_tm ha (by omega)).eq ((aNot_tm hnk (by omega)).eq (la.eq (lb.eq ?_))))
    refine (aAnd_tm ha hb (by omega)).bind fun x hx => ?_
    obtain ⟨x, ex⟩ := x
    obtain ⟨hex, Lx, hLx⟩ := hx
    dsimp only at hex hLx; subst hex
    refine lb.eq (la.eq ((aAnd_tm hb ha (by omega)).bind fun y hy => ?_))
    obtain ⟨y, ey⟩ := y
    obtain ⟨hey, Ly, hLy⟩ := hy
    dsimp only at hey hLy; subst hey
    refine la.eq (la.eq ((aAnd_tm ha ha (by omega)).bind fun z hz => ?_))
    obtain ⟨z, ez⟩ := z
    obtain ⟨hez, Lz, hLz⟩ := hz
    dsimp only at hez hLz; subst hez
    refine la.eq ((aAnd_tm ha hnk (by omega)).bind fun n hn => ?_)
    obtain ⟨n, en⟩ := n
    obtain ⟨hen, Ln, hLn⟩ := hn
    dsimp only at hen hLn; subst hen
    have kx := hLx.ok ha hb (by omega)
    have ky := hLy.ok hb ha (by omega)
    have kz := hLz.ok ha ha (by omega)
    have kn := hLn.ok ha hnk (by omega)
    have cond2 : Tm (fun N => ((if ((0 : Int) : Int) ≠ 0 then some true else (if ((0 : Int) : Int) ≠ 0 then some true else (if ((0 : Int) : Int) ≠ 0 then some true else (if ((0 : Int) : Int) ≠ 0 then some true else
        (if ((0 : Int) : Int) ≠ 0 then some true else some (decide (((0 : Int) : Int) ≠ 0))))))) : Option Bool)) (· = false) :=
      Tm.neg (by simp) (Tm.neg (by simp) (Tm.neg (by simp) (Tm.neg (by simp) (Tm.neg (by simp) (Tm.some (by simp))))))
    refine cond2.eq (Tm.neg (by simp) ((aShortest_tm kn).bind fun r hr => ?_))
    have hno : r.2 = false := by
      cases hr2 : r.2 with
      | false => rfl
      | true =>
        exfalso
        rcases hr with ⟨h1, h2⟩ | ⟨w, h1, hw, h2, _⟩
        · rw [h1] at hr2; cases hr2
        · rw [hLn.acc2 ha hnk w, notD_acc ha hw] at h2
          cases h9 : fin a (run a 0 w) <;> rw [h9] at h2 <;> cases h2
    refine Tm.pos (by rw [hno]; rfl) (la.eq ((aEquivalent_yes hmk ha fun w hw => ?_).eq (Tm.pos rfl ?_)))
    · rw [notD_acc hnk hw, notD_acc ha hw, Bool.not_not]
    refine (aEquivalent_yes kx ky fun w _ => ?_).eq (Tm.pos rfl (la.eq ((aEquivalent_yes kz ha fun w _ => ?_).eq (Tm.some rfl))))
    · rw [hLx.acc2 ha hb w, hLy.acc2 hb ha w, Bool.and_comm]
    · rw [hLz.acc2 ha ha w, Bool.and_self]
end Go.D

/-
 The law Texts. Plain theorems.
-/
import Derived.Test.YtcakdidcpoolcaaGreatDoorK4
import Derived.Test.YtcakdidcpoolcaaGreatDoorN1
set_option linter.unusedSimpArgs false
set_option linter.unusedVariables false
namespace Go.D
open Go Go.X
theorem lints_self {a : List Int} (h : a.length ≤ 1000) : Tm (fun N => lints N a a) (· = true) := by
 unfold lints
 refine Tm.neg (by simp) ?_
 refine (Tm.allL (b := fun N => lints_b1 N a a) a (fun _ => true) (by omega) (fun k hk => ?_) ?_).eq ?_
 · unfold lints_b1
   exact Tm.pos (by omega) (Tm.step (idx_n hk) (Tm.step (idx_n hk) (Tm.neg (by simp) (Tm.some rfl))))
 · unfold lints_b1
   exact Tm.neg (by omega) (Tm.some rfl)
 · rw [List.all_eq_true.2 fun _ _ => rfl]
   exact Tm.some rfl
theorem ltwos_self {a : List Arr2Int} (h : a.length ≤ 1000) : Tm (fun N => ltwos N a a) (· = true) := by
 unfold ltwos
 refine Tm.neg (by simp) ?_
 refine (Tm.allL (b := fun N => ltwos_b1 N a a) a (fun _ => true) (by omega) (fun k hk => ?_) ?_).eq ?_
 · unfold ltwos_b1
   exact Tm.pos (by omega) (Tm.step (idx_n hk) (Tm.step (idx_n hk) (Tm.neg (by simp) (Tm.some rfl))))
 · unfold ltwos_b1
   exact Tm.neg (by omega) (Tm.some rfl)
 · rw [List.all_eq_true.2 fun _ _ => rfl]
   exact Tm.some rfl
theorem lproblem_self {p : TProb} (h1 : p.Min.length ≤ 1000) (h2 : p.Max.length ≤ 1000) (h3 : p.Tests.length ≤ 1000) (h4 : p.Same.length ≤ 1000) (h5 : p.Different.length ≤ 1000) : Tm (fun N => lproblem N p p) (· = true) := by
 unfold lproblem
 refine Tm.bind (Q := fun b => b = false) ?_ fun b hb => ?_
 · refine (lints_self h1).eq (Tm.neg (by simp) ((lints_self h2).eq (Tm.neg (by simp) ((ltwos_self h4).eq (Tm.neg (by simp) ((ltwos_self h5).eq (Tm.neg (by simp) (Tm.some (by simp)))))))))
 · subst hb
   refine Tm.neg (by simp) ?_
   refine (Tm.allL (b := fun N => lproblem_b1 N p p) p.Tests (fun _ => true) (by omega) (fun k hk => ?_) ?_).eq ?_
   · unfold lproblem_b1
     exact Tm.pos (by omega) (Tm.step (idx_n hk) (Tm.step (idx_n hk) (Tm.neg (by simp) (Tm.some rfl))))
   · unfold lproblem_b1
     exact Tm.neg (by omega) (Tm.some rfl)
   · rw [List.all_eq_true.2 fun _ _ => rfl]
     exact Tm.some rfl
theorem lawTexts_tm {x : RCase} (h : LimX x) : Tm (fun N => lawTexts N x) (· = true) := by
 unfold lawTexts
 refine Tm.bind (Q := fun b => b = false → Rgt x) ?_ fun b hb' => ?_
 · refine awake_tm.bind fun r hr => ?_
   subst hr
   refine Tm.neg (by simp) ((lright_tm h).bind fun r hr => Tm.some fun e => hr (by simpa using e))
 · cases b with
   | true => exact Tm.pos rfl (awake_end rfl)
   | false =>
    have hx := hb' rfl
    have hl := hx.d.len
    have h1 := hx.s.ts; have h2 := hx.s.sm; have h3 := hx.s.df
    have htl := tvs_len (l := x.L) (c := x.C)
    have hnl := hx.v.nn.len
    refine Tm.neg (by simp) ((vTexts_tm hx.v hx.s hx.r hl).eq ((wTexts_tm hx.v hx.s hx.r hl).eq ?_))
    dsimp only
    refine (lproblem_self ?_ ?_ ?_ ?_ ?_).eq (Tm.pos rfl ((lints_self (by omega)).eq (Tm.some rfl)))
    · show (List.map _ _).length ≤ _; rw [List.length_map]; omega
    · show (List.map _ _).length ≤ _; rw [List.length_map]; omega
    · show (List.map _ _).length ≤ _; rw [List.length_map]; omega
    · show (List.map _ _).length ≤ _; rw [List.length_map]; omega
    · show (List.map _ _).length ≤ _; rw [List.length_map]; omega
end Go.D

/- The library functions that chapter 25 calls, as contracts over the plain counterparts: Itoa. -/
import Derived.Test.YtcakdidcpoolcaaGreatDoorShelf
import Derived.Test.YtcakdidcpoolcaaGreatDoorFD25
import Derived.Lib.AppendIntMem
import Derived.Test.YtcakdidcpoolcaaGreatDoorZ
set_option linter.unusedSimpArgs false
set_option linter.unusedVariables false
namespace Go.X
open Go Go.RowKit Go.Sort Go.Lib Go.Proofs
theorem ext_grow (w : World) (k : Nat) (os : Array Obj) : Ext w (grow (w.drewN k) os) :=
  ⟨rfl, rfl, rfl, by simp [grow, World.drewN], fun g hg => Lib.heap_grow_old w k os g hg⟩
def G (w : World) : Prop := ∀ w', Ext w w' → Lib.TabIs Tryz.prog w' "internal/strconv.uint64pow10" .u64 Lib.pow10Tab
theorem G.ext {w w' : World} (h : G w) (hE : Ext w w') : G w' := fun w2 h2 => h w2 (hE.trans h2)
end Go.X
namespace Go.Proofs.YtcakdidcpoolcaaGreatDoor.WF
open Go Go.X Go.D Go.Lib Go.Proofs
theorem fmtI_w (N : Nat) (n : Int) (w : World) (S : Nat → Prop) (hG : G w) (r : List UInt8) (h : fmtI N n = some r) :
    Calls Tryz.prog 67 #[.int .i64 n] w (Ret w (fun v w' => Value.string (s8 r) = v ∧ True)) := by
  unfold fmtI at h; split at h
  · rename_i hc
    cases h
    refine (Tryz.strconv_Itoa n hc.1 hc.2 w (hG w (Ext.refl _))).mono ?_
    rintro e w' ⟨rfl, k, os, rfl⟩
    exact ⟨_, rfl, ext_grow w k os, rfl, trivial⟩
  · cases h
end Go.Proofs.YtcakdidcpoolcaaGreatDoor.WF

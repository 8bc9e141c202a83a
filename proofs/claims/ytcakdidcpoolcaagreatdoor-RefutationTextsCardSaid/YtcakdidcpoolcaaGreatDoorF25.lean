/- The library function that chapter 25 calls, as a contract over its plain counterpart: Itoa at small numbers. -/
import Derived.Test.YtcakdidcpoolcaaGreatDoorShelf
import Derived.Test.YtcakdidcpoolcaaGreatDoorFD25
import Derived.Test.YtcakdidcpoolcaaGreatDoorZ
set_option linter.unusedSimpArgs false
set_option linter.unusedVariables false
namespace Go.Proofs.YtcakdidcpoolcaaGreatDoor.WF
open Go Go.X Go.D Go.Lib Go.Proofs
theorem fmtI_w (N : Nat) (n : Int) (w : World) (S : Nat → Prop) (r : List UInt8) (h : fmtI N n = some r) :
    Calls Tryz.prog 67 #[.int .i64 n] w (Ret w (fun v w' => Value.string (s8 r) = v ∧ True)) := by
  unfold fmtI at h; split at h
  · rename_i hc
    cases h
    obtain ⟨k, rfl⟩ : ∃ k : Nat, n = (k : Int) := ⟨n.toNat, by omega⟩
    refine (Tryz.strconv_Itoa_small k (by omega) w).mono ?_
    rintro e w' ⟨rfl, rfl⟩
    exact ⟨_, rfl, Ext.refl _, rfl, trivial⟩
  · cases h
end Go.Proofs.YtcakdidcpoolcaaGreatDoor.WF

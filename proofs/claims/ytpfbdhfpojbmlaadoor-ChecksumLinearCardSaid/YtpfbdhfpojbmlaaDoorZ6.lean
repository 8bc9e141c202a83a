/-
  Integer operations, as the model reckons. Plain theorems over any program.
-/
import Derived.Test.YtpfbdhfpojbmlaaDoorZ5
set_option linter.unusedSimpArgs false
set_option linter.unusedVariables false
namespace Go.X
open Go Go.RowKit

def iw (z : Int) : Int := IntKind.i64.wrap z
def uw (z : Int) : Int := IntKind.u64.wrap z
def uw32 (z : Int) : Int := IntKind.u32.wrap z
def uw16 (z : Int) : Int := IntKind.u16.wrap z
def uw8 (z : Int) : Int := IntKind.u8.wrap z
def iw32 (z : Int) : Int := IntKind.i32.wrap z
def iw16 (z : Int) : Int := IntKind.i16.wrap z
def iw8 (z : Int) : Int := IntKind.i8.wrap z
theorem iw_eq {z : Int} (h1 : -9223372036854775808 ≤ z) (h2 : z ≤ 9223372036854775807) : iw z = z := wq_i64 rfl h1 h2
theorem uw_mod (z : Int) : uw z = z % 18446744073709551616 := wu
theorem uw32_mod (z : Int) : uw32 z = z % 4294967296 := wu32
theorem uw16_mod (z : Int) : uw16 z = z % 65536 := wu16
theorem uw8_mod (z : Int) : uw8 z = z % 256 := wu8
theorem uw_eq {z : Int} (h1 : 0 ≤ z) (h2 : z < 18446744073709551616) : uw z = z := by rw [uw_mod]; omega
theorem uw32_eq {z : Int} (h1 : 0 ≤ z) (h2 : z < 4294967296) : uw32 z = z := by rw [uw32_mod]; omega
theorem uw16_eq {z : Int} (h1 : 0 ≤ z) (h2 : z < 65536) : uw16 z = z := by rw [uw16_mod]; omega
theorem uw8_eq {z : Int} (h1 : 0 ≤ z) (h2 : z < 256) : uw8 z = z := by rw [uw8_mod]; omega
def band (k : IntKind) (x y : Int) : Int := k.wrap ((BitVec.ofInt k.bits x &&& BitVec.ofInt k.bits y).toNat : Int)
def bor (k : IntKind) (x y : Int) : Int := k.wrap ((BitVec.ofInt k.bits x ||| BitVec.ofInt k.bits y).toNat : Int)
def bxor (k : IntKind) (x y : Int) : Int := k.wrap ((BitVec.ofInt k.bits x ^^^ BitVec.ofInt k.bits y).toNat : Int)
def bandNot (k : IntKind) (x y : Int) : Int := k.wrap ((BitVec.ofInt k.bits x &&& ~~~ BitVec.ofInt k.bits y).toNat : Int)
def bnot (k : IntKind) (x : Int) : Int := bxor k (if k.signed then -1 else k.max) x
def bshl (k : IntKind) (x y : Int) : Int := k.wrap (x * 2 ^ (min y.toNat k.bits))
def bshr (k : IntKind) (x y : Int) : Int := x.fdiv (2 ^ (min y.toNat k.bits))
theorem band_nat {k : IntKind} {x y : Nat} (hx : k.wrap (x : Int) = (x : Int)) (hy : k.wrap (y : Int) = (y : Int)) : band k x y = ((x &&& y : Nat) : Int) := by
  obtain ⟨h1, h2⟩ := nat_of_wrap hx
  obtain ⟨h3, h4⟩ := nat_of_wrap hy
  have hw := bits_wrap (z := x &&& y) hx hy (Nat.lt_of_le_of_lt Nat.and_le_left h1) (fun hs => Nat.lt_of_le_of_lt Nat.and_le_left (h2 hs))
  unfold band
  rw [ofInt_nat, ofInt_nat, show (BitVec.ofNat k.bits x &&& BitVec.ofNat k.bits y).toNat = x &&& y by simp [BitVec.toNat_and, Nat.mod_eq_of_lt h1, Nat.mod_eq_of_lt h3], hw]
theorem bor_nat {k : IntKind} {x y : Nat} (hx : k.wrap (x : Int) = (x : Int)) (hy : k.wrap (y : Int) = (y : Int)) : bor k x y = ((x ||| y : Nat) : Int) := by
  obtain ⟨h1, h2⟩ := nat_of_wrap hx
  obtain ⟨h3, h4⟩ := nat_of_wrap hy
  have hw := bits_wrap (z := x ||| y) hx hy (Nat.or_lt_two_pow h1 h3) (fun hs => Nat.or_lt_two_pow (h2 hs) (h4 hs))
  unfold bor
  rw [ofInt_nat, ofInt_nat, show (BitVec.ofNat k.bits x ||| BitVec.ofNat k.bits y).toNat = x ||| y by simp [BitVec.toNat_or, Nat.mod_eq_of_lt h1, Nat.mod_eq_of_lt h3], hw]
theorem bxor_nat {k : IntKind} {x y : Nat} (hx : k.wrap (x : Int) = (x : Int)) (hy : k.wrap (y : Int) = (y : Int)) : bxor k x y = ((x ^^^ y : Nat) : Int) := by
  obtain ⟨h1, h2⟩ := nat_of_wrap hx
  obtain ⟨h3, h4⟩ := nat_of_wrap hy
  have hw := bits_wrap (z := x ^^^ y) hx hy (Nat.xor_lt_two_pow h1 h3) (fun hs => Nat.xor_lt_two_pow (h2 hs) (h4 hs))
  unfold bxor
  rw [ofInt_nat, ofInt_nat, show (BitVec.ofNat k.bits x ^^^ BitVec.ofNat k.bits y).toNat = x ^^^ y by simp [BitVec.toNat_xor, Nat.mod_eq_of_lt h1, Nat.mod_eq_of_lt h3], hw]
theorem shr_nat {k : IntKind} {x s : Nat} (hs : s ≤ k.bits) : bshr k x s = ((x / 2 ^ s : Nat) : Int) := by
  unfold bshr
  rw [Int.toNat_natCast, Nat.min_eq_left hs, Int.fdiv_eq_ediv_of_nonneg _ (by exact Int.le_of_lt (Int.pow_pos (by decide)))]; simp
theorem shl_nat {k : IntKind} {x s : Nat} (hs : s ≤ k.bits) : bshl k x s = k.wrap ((x * 2 ^ s : Nat) : Int) := by
  unfold bshl
  rw [Int.toNat_natCast, Nat.min_eq_left hs]; simp

section
variable {P : Program} {ty : TypeId} {ρ : Operand → Value} {w : World} {R : Value → World → Prop}
theorem OpY.iand {t u : TypeId} {a b : Operand} {k : IntKind} {x y : Int} (hx : ρ a = .int k x) (hy : ρ b = .int k y) (h : R (.int k (band k x y)) w) : OpY P (.binOp .and t a b u) ty ρ w R :=
  OpY.binInt hx hy (by simp [binOp, Op.intBits, band]) h
theorem OpY.ior {t u : TypeId} {a b : Operand} {k : IntKind} {x y : Int} (hx : ρ a = .int k x) (hy : ρ b = .int k y) (h : R (.int k (bor k x y)) w) : OpY P (.binOp .or t a b u) ty ρ w R :=
  OpY.binInt hx hy (by simp [binOp, Op.intBits, bor]) h
theorem OpY.ixor {t u : TypeId} {a b : Operand} {k : IntKind} {x y : Int} (hx : ρ a = .int k x) (hy : ρ b = .int k y) (h : R (.int k (bxor k x y)) w) : OpY P (.binOp .xor t a b u) ty ρ w R :=
  OpY.binInt hx hy (by simp [binOp, Op.intBits, bxor]) h
theorem OpY.iandNot {t u : TypeId} {a b : Operand} {k : IntKind} {x y : Int} (hx : ρ a = .int k x) (hy : ρ b = .int k y) (h : R (.int k (bandNot k x y)) w) : OpY P (.binOp .andNot t a b u) ty ρ w R :=
  OpY.binInt hx hy (by simp [binOp, Op.intBits, bandNot]) h
theorem OpY.ishl {t u : TypeId} {a b : Operand} {k k' : IntKind} {x y : Int} (hx : ρ a = .int k x) (hy : ρ b = .int k' y) (h0 : ¬ y < 0) (h : R (.int k (bshl k x y)) w) : OpY P (.binOp .shl t a b u) ty ρ w R :=
  OpY.binInt hx hy (by simp [binOp, Op.shift, h0, bshl]) h
theorem OpY.ishr {t u : TypeId} {a b : Operand} {k k' : IntKind} {x y : Int} (hx : ρ a = .int k x) (hy : ρ b = .int k' y) (h0 : ¬ y < 0) (h : R (.int k (bshr k x y)) w) : OpY P (.binOp .shr t a b u) ty ρ w R :=
  OpY.binInt hx hy (by simp [binOp, Op.shift, h0, bshr]) h
theorem OpY.inot {t : TypeId} {a : Operand} {k : IntKind} {x : Int} (hx : ρ a = .int k x) (h : R (.int k (bnot k x)) w) : OpY P (.unOp .xor t a) ty ρ w R := by
  simp [OpY, bareOp, execOp, hx, Op.unary, Op.intBits, upon]; exact h
end

/-! ## Rows, by name -/
section
variable {P : Program} {ty : TypeId} {ρ : Operand → Value} {w w0 : World} {R : Value → World → Prop} {X : List (Option Nat)} {O : List (Option Nat)} {C : List Cont} {α : Type} {r : Rep α} {H : Hp}
theorem OpY.mkRowX {t el : TypeId} {a c : Operand} {k k' : IntKind} {i : Int} {m by' : Nat} {z : Value} {zc : List Value} {x : α} {Y : List α} (hu : P.underlying t = some (.slice el)) (ti : TI P el r.sz by' z) (hzc : z.cells = zc.toArray) (hR : r.R H zc x)
    (ha : ρ a = .int k i) (hc : ρ c = .int k' i) (hi : i = (m : Int)) (hb : by' * m ≤ 281474976710656) (hm : m ≤ 9223372036854775807) (hY : Y = List.replicate m x) (hL : Loc X [] w0 w O C)
    (h : ∀ b w' cs, Els r H cs Y → (cs ++ []).length = m * r.sz → Loc X [] w0 w' (some b :: O) (.cells ([] ++ (cs ++ [])) :: C) → Step O (some b :: O) w w' → R (osv (some b) 0 Y.length m) w') :
    OpY P (.makeSlice t a c) ty ρ w R := by
  subst hY; exact OpY.mkRow hu ti hzc hR ha hc hi hb hm hL h
theorem OpY.apRowX {t el : TypeId} {a c : Operand} {by' n cap i : Nat} {z x : Value} {ob : Option Nat} {cs sp ds : List Value} {xs ys Y : List α} (hu : P.underlying t = some (.slice el)) (ti : TI P el r.sz by' z) (hzc : z.cells.size = r.sz) (hz : (r.sz == 0) = false)
    (ha : ρ a = osv ob 0 n cap) (hc : ρ c = x) (hL : Loc X [] w0 w O C) (hO : O[i]? = some ob) (hC : C[i]? = some (.cells ([] ++ (cs ++ sp)))) (hE : Els r H cs xs) (hn : n = xs.length) (hcap : (cs ++ sp).length = cap * r.sz) (hsrc : Src w x ys.length r.sz ds) (hD : Els r H ds ys)
    (h63 : xs.length + ys.length ≤ 9223372036854775807) (hb : (xs.length + ys.length) * by' ≤ 140737488355328) (hY : Y = xs ++ ys)
    (h : ∀ ob' cap' sp' ds' w', Els r H ds' Y → (ds' ++ sp').length = cap' * r.sz → Loc X [] w0 w' (O.set i ob') (C.set i (.cells ([] ++ (ds' ++ sp')))) → Step O (O.set i ob') w w' → R (osv ob' 0 Y.length cap') w') :
    OpY P (.call { callee := .builtin .append, args := #[a, c], argTypes := #[t, t] }) ty ρ w R := by
  subst hY; exact OpY.apRow hu ti hzc hz ha hc hL hO hC hE hn hcap hsrc hD h63 hb h
theorem OpY.stRowX {t : TypeId} {x y : Operand} {b q n by' : Nat} {z v : Value} {pre cs sp vs : List Value} {xs Y : List α} {a : α} (ti : TI P t r.sz by' z) (hx : ρ x = .pointer (some ⟨b, q, none⟩)) (hy : ρ y = v) (hv : v.cells = vs.toArray) (hR : r.R H vs a)
    (hL : Loc X [] w0 w O C) (i : Nat) (hO : O[i]? = some (some b)) (hC : C[i]? = some (.cells (pre ++ (cs ++ sp)))) (hE : Els r H cs xs) (hn : n < xs.length) (hq : q = pre.length + n * r.sz) (hY : Y = xs.set n a)
    (h : ∀ w' cs', Loc X [] w0 w' O (C.set i (.cells (pre ++ (cs' ++ sp)))) → Step O O w w' → Els r H cs' Y → cs'.length = cs.length → R undef w') : OpY P (.store t x y) ty ρ w R := by
  subst hY; exact OpY.stRow ti hx hy hv hR hL i hO hC hE hn hq h
theorem OpY.cutRoX {t el : TypeId} {x : Operand} {lo hi : Option Operand} {by' l h' : Nat} {z v : Value} {xs Y : List α} (hu : P.underlying t = some (.slice el)) (ti : TI P el r.sz by' z)
    (hx : ρ x = v) (hS : Rs r H v xs) (hlo : (lo = none ∧ l = 0) ∨ ∃ k y, lo = some y ∧ ρ y = .int k ((l : Nat) : Int)) (hhi : (hi = none ∧ h' = xs.length) ∨ ∃ k y, hi = some y ∧ ρ y = .int k ((h' : Nat) : Int)) (h1 : l ≤ h') (h2 : h' ≤ xs.length) (hY : Y = (xs.take h').drop l)
    (hk : ∀ v', Rs r H v' Y → R v' w) : OpY P (.slice t x lo hi none) ty ρ w R := by
  subst hY; exact OpY.cutRo hu ti hx hS hlo hhi h1 h2 hk
theorem OpY.cutRowX {t el : TypeId} {x : Operand} {hi : Option Operand} {by' o n l h' cap : Nat} {z : Value} {ob : Option Nat} {pre cs sp : List Value} {xs Y : List α} (hu : P.underlying t = some (.slice el)) (ti : TI P el r.sz by' z) (hz : (r.sz == 0) = false)
    (hx : ρ x = osv ob o n cap) (hc : OwnC w ob (.cells (pre ++ (cs ++ sp)))) (hE : Els r H cs xs) (hn : n = xs.length) (hcap : (cs ++ sp).length = cap * r.sz) (hhi : (hi = none ∧ h' = xs.length) ∨ ∃ k y, hi = some y ∧ ρ y = .int k ((h' : Nat) : Int)) (h2 : h' ≤ xs.length) (hl : (0 : Int) = (l : Int)) (hY : Y = (xs.take h').drop l)
    (hk : ∀ cs' sp', cs' ++ sp' = cs ++ sp → Els r H cs' Y → R (osv ob o Y.length cap) w) : OpY P (.slice t x none hi none) ty ρ w R := by
  have : l = 0 := by omega
  subst this
  rw [List.drop_zero] at hY
  subst hY; exact OpY.cutRow hu ti hz hx hc hE hn hcap hhi h2 hk
end
end Go.X
namespace Go.X
open Go Go.RowKit
theorem ite_t {α : Type} {p : Prop} [Decidable p] {A B r : α} (hc : p) (h : (if p then A else B) = r) : A = r := by rw [if_pos hc] at h; exact h
theorem ite_f {α : Type} {p : Prop} [Decidable p] {A B r : α} (hc : ¬ p) (h : (if p then A else B) = r) : B = r := by rw [if_neg hc] at h; exact h
section
variable {P : Program} {ty : TypeId} {ρ : Operand → Value} {w : World} {R : Value → World → Prop} {α : Type} {r : Rep α} {H : Hp}
/-- where an element of a slice that is only read lies, known beforehand -/
theorem OpY.ixRoD {t el : TypeId} {x y : Operand} {b o m cap : Nat} {i : Int} {n : Nat} {k : IntKind} {by' : Nat} {z v : Value} {xs : List α} {a : α} (hu : P.underlying t = some (.slice el)) (ti : TI P el r.sz by' z)
    (hx : ρ x = v) (hv : v = .slice (some ⟨b, o, none⟩) xs.length cap) (hy : ρ y = .int k i) (hi : i = (n : Int)) (hn : xs[n]? = some a) (hm : m = o + n * r.sz)
    (h : R (.pointer (some ⟨b, m, none⟩)) w) : OpY P (.indexAddr t x y) ty ρ w R := by
  subst hi; subst hm
  exact OpY.indexAddr hu ti (hx.trans hv) hy (List.getElem?_eq_some_iff.1 hn).1 rfl h
theorem OpY.ixRowD {t el : TypeId} {x y : Operand} {b o m cap q : Nat} {i : Int} {n : Nat} {k : IntKind} {by' : Nat} {z : Value} {xs : List α} (hu : P.underlying t = some (.slice el)) (ti : TI P el r.sz by' z)
    (hx : ρ x = osv (some b) o m cap) (hm : m = xs.length) (hy : ρ y = .int k i) (hi : i = (n : Int)) (hn : n < xs.length) (hq : q = o + n * r.sz)
    (h : R (.pointer (some ⟨b, q, none⟩)) w) : OpY P (.indexAddr t x y) ty ρ w R := by
  subst hi; subst hq; subst hm
  exact OpY.indexAddr hu ti hx hy hn rfl h
theorem OpY.ldElem1 {t : TypeId} {x : Operand} {d : TypeDesc} {b q : Nat} {cs : List Value} {v : Value} (hd : P.underlying t = some d) (hg : aggD d = false) (hx : ρ x = .pointer (some ⟨b, q, none⟩)) (hc : OwnC w (some b) (.cells cs))
    (hv : (cs.drop q).take [v].length = [v]) (h : R v w) : OpY P (.load t x) ty ρ w R := by
  refine OpY.ldBox1 hd hg hx hc ?_ h
  have := congrArg (·[0]?) hv
  simp only [List.length_singleton, List.getElem?_take, List.getElem?_drop, Nat.lt_one_iff, if_true, Nat.add_zero] at this
  exact this
end
end Go.X
namespace Go.X
open Go Go.RowKit
theorem any_ext {a b : Nat} {w w' : World} (hE : Ext w w') : Le (Hv a Any [] w) (Hv b Any [] w') := fun k o h => by
  obtain ⟨_, h3⟩ := vw_some h
  exact vw_mk ⟨.inl trivial, by simp⟩ ((hE.block k (heap_lt h3)).trans h3)
theorem own_any {w : World} {b : Nat} {cs : List Value} (hc : OwnC w (some b) (.cells cs)) : At (Hv w.heap.size Any [] w) b 0 cs := own_at hc fun _ ho => vw_mk ⟨.inl trivial, by simp⟩ ho
theorem Hv.pick {s : Nat} {S : Nat → Prop} {O O' : List (Option Nat)} {w : World} (is : List Nat) (hO : pickL O is = some O') : Le (Hv s S O w) (Hv s S O' w) := Hv.sub fun b hb => by
  obtain ⟨i, _, hi⟩ := pickL_mem hO b hb
  exact List.mem_of_getElem? hi
theorem Hv.sameV {s : Nat} {S : Nat → Prop} {O : List (Option Nat)} {w : World} : Le (Hv s S O w) (Hv s S O w) := Le.refl _
end Go.X
namespace Go.X
theorem upds_sym {L : List (Nat × Value)} {e : Env} (h : slotsOk L e) : e = upds L e := (upds_of_slotsOk h).symm
end Go.X
namespace Go.X
open Go Go.RowKit
theorem own_some {w : World} {ob : Option Nat} {b : Nat} {c : Cont} (hb : ob = some b) (h : OwnC w ob c) : OwnC w (some b) c := hb ▸ h
theorem osv_some {ob : Option Nat} {b o n cap : Nat} (hb : ob = some b) : osv ob o n cap = osv (some b) o n cap := by rw [hb]
section
variable {P : Program} {ty : TypeId} {ρ : Operand → Value} {w w0 : World} {R : Value → World → Prop} {X : List (Option Nat)} {O : List (Option Nat)} {C : List Cont} {α : Type} {r : Rep α} {H : Hp}
theorem OpY.sIndex {t : TypeId} {x y : Operand} {xs : List UInt8} {i : Int} {n : Nat} {k : IntKind} {a : UInt8} (hu : P.underlying t = some .string) (hx : ρ x = .string (s8 xs)) (hy : ρ y = .int k i) (hi : i = (n : Int)) (hn : xs[n]? = some a) (hk : R (.int .u8 (a.toNat : Int)) w) : OpY P (.index t x y) ty ρ w R := by
  subst hi
  have hlt := (List.getElem?_eq_some_iff.1 hn).1
  have hg : (s8 xs)[n]? = some a := by
    have hs : n < (s8 xs).size := by rw [s8_size]; exact hlt
    rw [getElem?_pos (s8 xs) n hs]
    exact congrArg some (List.getElem?_eq_some_iff.1 hn).2
  have hr : (Instr.index t (.string (s8 xs)) (.int k ((n : Nat) : Int))).run P w = .ok (.int .u8 (a.toNat : Int)) w := by
    simp only [Instr.index, asIntOf, Sem.run_bind, Sem.run_pure, Result.andThen_ok, run_underlying hu, Int.toNat_natCast, hg]
    simp
  simp only [OpY, bareOp, execOp, hx, hy]
  simp only [Sem.run_bind, hr, Result.andThen_ok, Sem.run_pure, upon]
  exact hk
/-- 's[l:h]' of a row of one's own, for a call that may write to it: where it lies -/
theorem OpY.segRow {t el : TypeId} {x : Operand} {lo hi : Option Operand} {by' b o n l h' cap : Nat} {z : Value} {zs : Nat} (hu : P.underlying t = some (.slice el)) (ti : TI P el zs by' z)
    (hx : ρ x = osv (some b) o n cap) (hlo : (lo = none ∧ l = 0) ∨ ∃ k y, lo = some y ∧ ρ y = .int k ((l : Nat) : Int)) (hhi : (hi = none ∧ h' = n) ∨ ∃ k y, hi = some y ∧ ρ y = .int k ((h' : Nat) : Int)) (h1 : l ≤ h') (h2 : h' ≤ cap) (hlt : l < cap)
    (hk : R (.slice (some ⟨b, o + l * zs, none⟩) (h' - l) (cap - l)) w) : OpY P (.slice t x lo hi none) ty ρ w R :=
  OpY.slice_own hu ti hx hlo hhi h1 h2 hlt hk
end
end Go.X
namespace Go.X
open Go Go.RowKit
def seg {α : Type} (xs : List α) (l h : Int) : Option Unit := if 0 ≤ l ∧ l < h ∧ h ≤ xs.length then some () else none
theorem seg_some {α : Type} {xs : List α} {l h : Int} {u : Unit} (hs : seg xs l h = some u) : ∃ m n : Nat, l = (m : Int) ∧ h = (n : Int) ∧ m < n ∧ n ≤ xs.length := by
  unfold seg at hs
  split at hs
  · exact ⟨l.toNat, h.toNat, by omega, by omega, by omega, by omega⟩
  · cases hs
theorem seg_eq {α : Type} {xs : List α} {l h : Nat} (h1 : l < h) (h2 : h ≤ xs.length) : seg xs (l : Int) (h : Int) = some () := by
  unfold seg; rw [if_pos ⟨by omega, by omega, by omega⟩]
theorem row_cap {α : Type} {r : Rep α} {H : Hp} {cs sp : List Value} {xs : List α} {cap : Nat} (hE : Els r H cs xs) (hz : (r.sz == 0) = false) (hcap : (cs ++ sp).length = cap * r.sz) : xs.length ≤ cap := by
  have hpos : 0 < r.sz := by have : ¬ r.sz = 0 := by simpa using hz
                             omega
  have : xs.length * r.sz ≤ cap * r.sz := by rw [← hcap, List.length_append, hE.length]; omega
  exact Nat.le_of_mul_le_mul_right this hpos
section
variable {P : Program} {ty : TypeId} {ρ : Operand → Value} {w w0 : World} {R : Value → World → Prop} {X : List (Option Nat)} {O : List (Option Nat)} {C : List Cont} {α : Type} {r : Rep α} {H : Hp}
theorem OpY.cutSeg {t el : TypeId} {x : Operand} {lo hi : Option Operand} {by' b l h' cap ln : Nat} {z : Value} {cs sp : List Value} {xs : List α} (hu : P.underlying t = some (.slice el)) (ti : TI P el r.sz by' z) (hz : (r.sz == 0) = false)
    (hx : ρ x = osv (some b) 0 ln cap) (hln : ln = xs.length) (hE : Els r H cs xs) (hcap : (cs ++ sp).length = cap * r.sz) (hlo : (lo = none ∧ l = 0) ∨ ∃ k y, lo = some y ∧ ρ y = .int k ((l : Nat) : Int)) (hhi : (hi = none ∧ h' = ln) ∨ ∃ k y, hi = some y ∧ ρ y = .int k ((h' : Nat) : Int)) (h1 : l < h') (h2 : h' ≤ xs.length)
    (hk : R (.slice (some ⟨b, 0 + l * r.sz, none⟩) (h' - l) (cap - l)) w) : OpY P (.slice t x lo hi none) ty ρ w R := by
  have := row_cap hE hz hcap
  exact OpY.slice_own hu ti hx hlo hhi (by omega) (by omega) (by omega) hk
theorem OpY.ixSeg {t el : TypeId} {x y : Operand} {b m n j cap : Nat} {i : Int} {k : IntKind} {by' : Nat} {z : Value} (hu : P.underlying t = some (.slice el)) (ti : TI P el r.sz by' z)
    (hx : ρ x = .slice (some ⟨b, 0 + m * r.sz, none⟩) (n - m) (cap - m)) (hy : ρ y = .int k i) (hi : i = (j : Int)) (hj : j < n - m)
    (h : R (.pointer (some ⟨b, 0 + (m + j) * r.sz, none⟩)) w) : OpY P (.indexAddr t x y) ty ρ w R := by
  subst hi
  refine OpY.indexAddr hu ti hx hy hj rfl ?_
  rw [Nat.add_mul, ← Nat.add_assoc] at h
  exact h
theorem OpY.lenSeg {x : Operand} {t el : TypeId} {a : Option Addr} {n cap : Nat} {e : Int} (hu : P.underlying t = some (.slice el)) (hx : ρ x = .slice a n cap) (he : ((n : Nat) : Int) = e) (h : R (.int .i64 e) w) :
    OpY P (.call { callee := .builtin .len, args := #[x], argTypes := #[t] }) ty ρ w R := by
  subst he; exact OpY.len_slice hu hx h
end
end Go.X
namespace Go.X
open Go Go.RowKit
theorem Made.take {w w1 : World} {Z : Nat → Prop} {cf ft : List (Option Nat)} {φ : (Nat → Prop) → World → Prop} {ob : Option Nat} (hB : Bnd w1 w Z [ob]) (hcf : ∀ b, ob = some b → some b ∈ cf) (hft : ∀ b, some b ∈ ft → some b ∈ [ob]) (hφ : φ Z w) : Made cf ft Z w w φ :=
  ⟨Z, fun _ h => h, fun _ h => .inl h, Use.ext (Ext.refl _), hφ, fun b hb => ⟨.inr (hcf b (List.mem_singleton.1 (hft b hb)).symm), (hB b (hft b hb)).2.2⟩⟩
end Go.X
namespace Go.X
open Go Go.RowKit
/-- the block of a slice inside a value of several cells -/
def footA (i : Nat) : Value → List (Option Nat)
  | .agg cs => footV (cs.getD i .nilIface)
  | _ => []
theorem Els.anyH {α : Type} {r : Rep α} (hr : ∀ (H H' : Hp) (vs : List Value) (x : α), r.R H vs x → r.R H' vs x) {H H' : Hp} : ∀ {cs : List Value} {xs : List α}, Els r H cs xs → Els r H' cs xs
  | _, [], h => h
  | _, _ :: _, ⟨a, b, h1, h2, h3⟩ => ⟨a, b, h1, hr _ _ _ _ h2, h3.anyH hr⟩
def Clipped (v : Value) : Prop := ∀ a n c, v = .slice a n c → n = c
section
variable {P : Program} {ty : TypeId} {ρ : Operand → Value} {w w0 : World} {R : Value → World → Prop} {X : List (Option Nat)} {O : List (Option Nat)} {C : List Cont} {α : Type} {r : Rep α} {H : Hp}
theorem OpY.clipRo {t el : TypeId} {x : Operand} {y y' : Operand} {by' n : Nat} {i : Int} {k k' : IntKind} {z v : Value} {xs : List α} (hu : P.underlying t = some (.slice el)) (ti : TI P el r.sz by' z)
    (hx : ρ x = v) (hS : Rs r H v xs) (hy : ρ y = .int k i) (hy' : ρ y' = .int k' i) (hi : i = (n : Int)) (hn : n = xs.length)
    (hk : ∀ v', Rs r H v' xs → Clipped v' → R v' w) : OpY P (.slice t x none (some y) (some y')) ty ρ w R := by
  obtain ⟨inf, hi', hs, _, _⟩ := ti
  subst hi; subst hn
  obtain ⟨a, len, cap, rfl⟩ : ∃ a len cap, v = .slice a len cap := by
    rcases hS with ⟨⟨oa, h⟩, _⟩ | ⟨b, o, c, h, _⟩ <;> exact ⟨_, _, _, h⟩
  have hlen : len = xs.length ∧ xs.length ≤ cap := by
    rcases hS with ⟨⟨oa, h⟩, h2⟩ | ⟨b, o, c, h, h2, _⟩
    · cases h; rw [h2]; exact ⟨rfl, Nat.le_refl _⟩
    · cases h; exact ⟨rfl, h2⟩
  obtain ⟨rfl, hc⟩ := hlen
  have b1 : ∀ k m, xs.length ≤ m → ∀ code, (Instr.sliceBound (.int k ((xs.length : Nat) : Int)) m code).run P w = .ok xs.length w := by
    intro k m hm code; have : (xs.length : Int) ≤ (m : Int) := by omega
    simp [Instr.sliceBound, asIntOf, this, hm]
  have hr : (Instr.sliceAt t (.slice a xs.length cap) none (some (.int k ((xs.length : Nat) : Int))) (some (.int k' ((xs.length : Nat) : Int)))).run P w = .ok (.slice a xs.length xs.length) w := by
    have e : (if xs.length = 0 then a else a.map (·.add (0 * inf.size))) = a := by
      split
      · rfl
      · cases a with
        | none => rfl
        | some a => simp [Addr.add]
    have h1 := b1 k' cap hc
    have h2 := b1 k xs.length (Nat.le_refl _)
    simp only [Instr.sliceAt, Instr.slice, Sem.run_bind, run_underlying hu, Result.andThen_ok, Instr.sliceBounds, Option.isSome_some, if_true, h1, h2, sizeOf, typeInfo, run_program, hi', Sem.run_pure, Nat.sub_zero, e]
  simp only [OpY, bareOp, execOp, hx]
  simp only [Option.map_none, Option.map_some, hy, hy', Sem.run_bind, hr, Result.andThen_ok, Sem.run_pure, upon]
  refine hk _ ?_ (fun a' n' c' h => by cases h; rfl)
  rcases hS with ⟨⟨oa, h⟩, h2⟩ | ⟨b, o, c, h, h2, h3⟩
  · subst h2; injection h with e1 _ _; subst e1; exact .inl ⟨⟨_, rfl⟩, rfl⟩
  · injection h with e1 _ _; subst e1; exact .inr ⟨b, o, _, rfl, Nat.le_refl _, h3⟩
end
end Go.X
namespace Go.X
open Go Go.RowKit
section
variable {P : Program} {ty : TypeId} {ρ : Operand → Value} {w w0 : World} {R : Value → World → Prop} {X : List (Option Nat)} {O : List (Option Nat)} {C : List Cont} {α : Type} {r : Rep α} {S' : Nat → Prop}
/-- 'append(s, x...)' where s has no room: always a new block -/
theorem OpY.apClip {t el : TypeId} {a c : Operand} {by' : Nat} {z v x : Value} {ds : List Value} {xs ys Y : List α} (hu : P.underlying t = some (.slice el)) (ti : TI P el r.sz by' z) (hzc : z.cells.size = r.sz) (hz : (r.sz == 0) = false)
    (ha : ρ a = v) (hc : ρ c = x) (hS : Rs r (vw S' w) v xs) (hcl : Clipped v) (hsrc : Src w x ys.length r.sz ds) (hD : Els r (vw S' w) ds ys) (hpos : 0 < ys.length)
    (h63 : xs.length + ys.length ≤ 9223372036854775807) (hb : (xs.length + ys.length) * by' ≤ 140737488355328) (hY : Y = xs ++ ys) (hL : Loc X [] w0 w O C)
    (h : ∀ b cap sp cs w', Els r (vw S' w) cs Y → (cs ++ sp).length = cap * r.sz → Loc X [] w0 w' (some b :: O) (.cells ([] ++ (cs ++ sp)) :: C) → Step O (some b :: O) w w' → R (osv (some b) 0 Y.length cap) w') :
    OpY P (.call { callee := .builtin .append, args := #[a, c], argTypes := #[t, t] }) ty ρ w R := by
  obtain ⟨inf, hi, hs, hby, hzz⟩ := ti
  subst hby; subst hY
  obtain ⟨hnl, hsrc⟩ := hsrc
  obtain ⟨b2, o2, c2, rfl, hcell⟩ : ∃ b o cap, x = .slice (some ⟨b, o, none⟩) ys.length cap ∧ ∀ j u, ds[j]? = some u → w.cell? ⟨b, o + j, none⟩ = some u := by
    rcases hsrc with ⟨_, h⟩ | h
    · omega
    · exact h
  have hnews : ∀ j u, ds[j]? = some u → w.cell? ((⟨b2, o2, none⟩ : Addr).add j) = some u := fun j u hj => by rw [add_plain]; exact hcell j u hj
  have fin : ∀ (olds : List Value) (old : Nat), old < xs.length + ys.length → Els r (vw S' w) olds xs →
      (Builtin.append_ #[t, t] ty #[v, .slice (some ⟨b2, o2, none⟩) ys.length c2]).run P w = .ok (.slice (some ⟨w.heap.size, 0, none⟩) (xs.length + ys.length) (grownCap w (xs.length + ys.length) old el))
        (w.drew.alloc (.cells (olds.toArray ++ ds.toArray ++ Builtin.zeroCells z.cells (grownCap w (xs.length + ys.length) old el - (xs.length + ys.length))) el)) →
      OpY P (.call { callee := .builtin .append, args := #[a, c], argTypes := #[t, t] }) ty ρ w R := by
    intro olds old ho hE hr
    have hge := grownCap_ge w (xs.length + ys.length) old el
    have hEL := Ext.drawn w (w.drawn + 1)
    have hL1 : Loc X [] w0 w.drew O C := hL.ext hEL
    have hal := hL1.alloc (o := .cells (olds.toArray ++ ds.toArray ++ Builtin.zeroCells z.cells (grownCap w (xs.length + ys.length) old el - (xs.length + ys.length))) el)
      (c := .cells ([] ++ ((olds ++ ds) ++ (Builtin.zeroCells z.cells (grownCap w (xs.length + ys.length) old el - (xs.length + ys.length))).toList)))
      (by have := ownC_alloc w.drew (olds.toArray ++ ds.toArray ++ Builtin.zeroCells z.cells (grownCap w (xs.length + ys.length) old el - (xs.length + ys.length))) el
          simpa using this)
    have hst : Step O (some w.heap.size :: O) w (w.drew.alloc (.cells (olds.toArray ++ ds.toArray ++ Builtin.zeroCells z.cells (grownCap w (xs.length + ys.length) old el - (xs.length + ys.length))) el)) :=
      Step.trans (Step.ext hEL) hal.2 (Nat.le_refl _)
    have hk := h w.heap.size (grownCap w (xs.length + ys.length) old el) (Builtin.zeroCells z.cells (grownCap w (xs.length + ys.length) old el - (xs.length + ys.length))).toList (olds ++ ds) _ (hE.append hD)
      (by simp only [List.length_append, Array.length_toList, size_zeroCells, hzc, hE.length, hnl, ← Nat.add_mul]; congr 1; omega) hal.1 hst
    rw [List.length_append] at hk
    simp only [OpY, bareOp, execOp, resolve, invoke, builtin]
    simp [ha, hc, hr, upon]
    simpa [osv] using hk
  have hfit : ∀ old, old < xs.length + ys.length → Builtin.nextslicecap (xs.length + ys.length) old * inf.bytes ≤ 281474976710656 := fun old ho => growslice_fits ho hb
  rcases hS with ⟨h1, h2⟩ | ⟨b, o, cap, hv, hcap, hxs⟩
  · obtain ⟨oa, h1⟩ := h1
    subst h1; subst h2
    refine fin [] 0 (by simp; omega) rfl ?_
    cases oa with
    | some a =>
      exact run_append_grow (P := P) w t ty el inf z hu hi hzz a 0 0 [] (by simp) (fun j u hj => by simp at hj) ⟨b2, o2, none⟩ ys.length c2 ds (by rw [hnl, hs]) hnews (by omega) (by omega) (hfit 0 (by omega))
    | none =>
    have hr := run_append_nil (P := P) w t ty el inf z hu hi hzz ⟨b2, o2, none⟩ ys.length c2 ds (by rw [hnl, hs]) hnews hpos (by simp at h63; omega) (by
      have : ys.length * inf.bytes ≤ 140737488355328 := by simpa using hb
      omega)
    simpa using hr
  · have hcn := hcl _ _ _ hv
    obtain ⟨cs, g1, g2⟩ := Rs.cells hxs
    refine fin cs cap (by omega) g2 ?_
    subst hv
    have hr := run_append_grow (P := P) w t ty el inf z hu hi hzz ⟨b, o, none⟩ xs.length cap cs (by rw [g2.length, hs]) (fun j u hj => by
      rw [add_plain]
      exact cellH_view (A := []) (cellH_le (fun b o h => view_mk (vw_some h).2 (by simp)) (g1.get j hj))) ⟨b2, o2, none⟩ ys.length c2 ds (by rw [hnl, hs]) hnews (by omega) (by omega) (hfit cap (by omega))
    exact hr
end
end Go.X

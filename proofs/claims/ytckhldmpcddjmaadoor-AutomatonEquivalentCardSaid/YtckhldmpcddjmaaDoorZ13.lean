/-
  Maps that a function has made: a block whose content is an association list. Plain theorems over any program.
-/
import Derived.Test.YtckhldmpcddjmaaDoorZ12
import Derived.Maps.Keyed
set_option linter.unusedSimpArgs false
set_option linter.unusedVariables false
set_option linter.unusedSectionVars false
namespace Go.X
open Go Go.RowKit
def mget {K V : Type} [DecidableEq K] : List (K × V) → K → V → V × Bool
  | [], _, z => (z, false)
  | p :: m, k, z => if p.1 = k then (p.2, true) else mget m k z
def mput {K V : Type} [DecidableEq K] : List (K × V) → K → V → List (K × V)
  | [], k, v => [(k, v)]
  | p :: m, k, v => if p.1 = k then (k, v) :: m else p :: mput m k v
def mfind {K V : Type} [DecidableEq K] (x : K) : List (K × V) → Nat → Option (Nat × V)
  | [], _ => none
  | p :: m, i => if p.1 = x then some (i, p.2) else mfind x m (i + 1)
theorem mfind_spec {K V : Type} [DecidableEq K] (x : K) : ∀ (m : List (K × V)) (i : Nat), (mfind x m i = none ∧ (∀ z, mget m x z = (z, false)) ∧ ∀ v, mput m x v = m ++ [(x, v)]) ∨
    ∃ j y, mfind x m i = some (i + j, y) ∧ m[j]? = some (x, y) ∧ (∀ z, mget m x z = (y, true)) ∧ ∀ v, mput m x v = m.set j (x, v)
  | [], i => .inl ⟨rfl, fun _ => rfl, fun _ => rfl⟩
  | (a, b) :: m, i => by
    by_cases h : a = x
    · subst h
      exact .inr ⟨0, b, by simp [mfind], rfl, fun _ => by simp [mget], fun _ => by simp [mput]⟩
    · rcases mfind_spec x m (i + 1) with ⟨h1, h2, h3⟩ | ⟨j, y, h1, h2, h3, h4⟩
      · exact .inl ⟨by simp [mfind, h, h1], fun z => by simp [mget, h, h2], fun v => by simp [mput, h, h3]⟩
      · refine .inr ⟨j + 1, y, ?_, by simpa using h2, fun z => by simp [mget, h, h3], fun v => by simp [mput, h, h4]⟩
        simp only [mfind, h, if_false, h1]
        rw [show i + 1 + j = i + (j + 1) by omega]
structure MKey (P : Program) (kt : TypeId) {K : Type} [DecidableEq K] (kf : K → Value) : Prop where
  check : ∀ (w : World) (em : Bool) (x : K), (Instr.checkKey em 10000 kt (kf x)).run P w = .ok () w
  find : ∀ (w : World) (x : K) {V : Type} (vf : V → Value) (m : List (K × V)) (es : List MapEntry), es.map (fun e => (e.key, e.val)) = m.map (fun p => (kf p.1, vf p.2)) →
    (Instr.findKey kt (kf x) es).run P w = .ok ((mfind x m 0).map fun p => (p.1, vf p.2)) w
  stays : ∀ (w : World) (x : K), (Instr.keyThatStays (kf x) (kf x)).run P w = .ok (kf x) w
theorem beq_s8 (x y : List UInt8) : (s8 x == s8 y) = decide (x = y) := by
  have h0 : (s8 x == s8 y) = (x.toArray == y.toArray) := rfl
  rw [h0]
  by_cases h : x = y
  · subst h; simp
  · simp [h]
section
variable {P : Program} {kt : TypeId} {w : World}
theorem findNow_find {K V : Type} [DecidableEq K] {kf : K → Value} {d : TypeDesc} (hs : ∀ x y, Instr.sameNow d (kf x) (kf y) = some (decide (y = x))) (x : K) (vf : V → Value) : ∀ (m : List (K × V)) (es : List MapEntry) (i : Nat),
    es.map (fun e => (e.key, e.val)) = m.map (fun p => (kf p.1, vf p.2)) → Instr.findNow d (kf x) es i = some ((mfind x m i).map fun p => (p.1, vf p.2))
  | [], [], i, _ => rfl
  | [], _ :: _, _, h => by cases h
  | _ :: _, [], _, h => by cases h
  | p :: m, e :: es, i, h => by
    simp only [List.map_cons, List.cons.injEq, Prod.mk.injEq] at h
    obtain ⟨⟨h1, h2⟩, h3⟩ := h
    simp only [Instr.findNow, h1, hs, mfind]
    by_cases hp : p.1 = x
    · simp [hp, h2]
    · simp only [hp, decide_false, if_false]
      exact findNow_find hs x vf m es (i + 1) h3
theorem MKey.now {K : Type} [DecidableEq K] {kf : K → Value} {d : TypeDesc} (hd : P.underlying kt = some d) (hs : ∀ x y, Instr.sameNow d (kf x) (kf y) = some (decide (y = x)))
    (hc : ∀ (w : World) (em : Bool) (x : K), (Instr.checkKey em 10000 kt (kf x)).run P w = .ok () w) (hb : ∀ x, Instr.sameBits 10000 (kf x) (kf x) = true) : MKey P kt kf :=
  ⟨hc, fun w x V vf m es h => by
    simp [Instr.findKey, run_underlying hd, findNow_find hs x vf m es 0 h], fun w x => by simp [Instr.keyThatStays, hb x]⟩
theorem MKey.int {q : IntKind} (hd : P.underlying kt = some (.int q)) : MKey P kt (fun x : Int => Value.int q x) :=
  MKey.now hd (fun x y => by
      simp only [Instr.sameNow, if_true, Option.some.injEq]
      by_cases h : y = x
      · subst h; simp
      · have : ¬ x = y := fun e => h e.symm
        simp [h, this])
    (fun w em x => by rw [show (10000 : Nat) = 9999 + 1 from rfl]; unfold Instr.checkKey; simp [run_underlying hd])
    (fun x => by rw [show (10000 : Nat) = 9999 + 1 from rfl]; simp [Instr.sameBits])
theorem MKey.str (hd : P.underlying kt = some .string) : MKey P kt (fun x : List UInt8 => Value.string (s8 x)) :=
  MKey.now hd (fun x y => by
      simp only [Instr.sameNow, Option.some.injEq]
      rw [beq_s8]
      by_cases h : y = x
      · subst h; simp
      · have : ¬ x = y := fun e => h e.symm
        simp [h, this])
    (fun w em x => by rw [show (10000 : Nat) = 9999 + 1 from rfl]; unfold Instr.checkKey; simp [run_underlying hd])
    (fun x => by rw [show (10000 : Nat) = 9999 + 1 from rfl]; simp [Instr.sameBits, beq_s8])
theorem MKey.pair {q0 q1 : IntKind} {K : Type} [DecidableEq K] {a b : K → Int} (hT : Eq2 P kt) (hinj : ∀ x y, a x = a y → b x = b y → x = y) : MKey P kt (fun x : K => Value.agg #[.int q0 (a x), .int q1 (b x)]) := by
  have hu := hT.1
  have hw : (match P.underlying kt with | some (.array _ _) | some (.struct _) => true | _ => false) = true := by rw [hu]
  refine ⟨fun w em x => ?_, fun w x V vf m es h => ?_, fun w x => ?_⟩
  · obtain ⟨h1, h2, h3, p0, p1, h4⟩ := hT
    rw [show (10000 : Nat) = 9999 + 1 from rfl, Instr.checkKey]
    simp only [Sem.run_bind, run_underlying hu, Result.andThen_ok]
    rw [← Array.forIn_toList]
    generalize (P.fieldsOf kt).toList = fs at h4
    obtain ⟨f, fs, rfl⟩ : ∃ f r, fs = f :: r := by cases fs with | nil => cases h4 | cons f r => exact ⟨f, r, rfl⟩
    rw [List.map_cons] at h4
    injection h4 with hf h4
    obtain ⟨g, fs, rfl⟩ : ∃ f r, fs = f :: r := by cases fs with | nil => cases h4 | cons f r => exact ⟨f, r, rfl⟩
    rw [List.map_cons] at h4
    injection h4 with hg h4
    have h5 : fs = [] := List.map_eq_nil_iff.1 h4
    subst h5
    simp only [Prod.mk.injEq] at hf hg
    obtain ⟨n0, u0, o0⟩ := hf
    obtain ⟨n1, u1, o1⟩ := hg
    have n0' : f.name ≠ "_" := by simpa using n0
    have n1' : g.name ≠ "_" := by simpa using n1
    have e1 := fun w => (run_part2 (w := w) (P := P) (a := Value.int q0 (a x)) (b := Value.int q1 (b x)) u0).1
    have e2 := fun w => (run_part2 (w := w) (P := P) (a := Value.int q0 (a x)) (b := Value.int q1 (b x)) u1).2
    have c0 : ∀ (w : World) (y : Int), (Instr.checkKey em 9999 f.type (.int q0 y)).run P w = .ok () w := fun w y => by
      rw [show (9999 : Nat) = 9998 + 1 from rfl]; unfold Instr.checkKey; simp [run_underlying u0]
    have c1 : ∀ (w : World) (y : Int), (Instr.checkKey em 9999 g.type (.int q1 y)).run P w = .ok () w := fun w y => by
      rw [show (9999 : Nat) = 9998 + 1 from rfl]; unfold Instr.checkKey; simp [run_underlying u1]
    simp [n0', n1', o0, o1, e1, e2, c0, c1]
  · rw [run_findKey_eq w hw]
    suffices key : ∀ (m : List (K × V)) (es : List MapEntry) (i : Nat), es.map (fun e => (e.key, e.val)) = m.map (fun p => (Value.agg #[.int q0 (a p.1), .int q1 (b p.1)], vf p.2)) →
        (Instr.findAsking kt (Value.agg #[.int q0 (a x), .int q1 (b x)]) es i).run P w = .ok ((mfind x m i).map fun p => (p.1, vf p.2)) w from key m es 0 h
    intro m
    induction m with
    | nil => intro es i h; rw [List.map_nil, List.map_eq_nil_iff] at h; subst h; simp [Instr.findAsking, mfind]
    | cons p m ih =>
      intro es i h
      cases es with
      | nil => cases h
      | cons e es =>
        simp only [List.map_cons, List.cons.injEq, Prod.mk.injEq] at h
        obtain ⟨⟨h1, h2⟩, h3⟩ := h
        have he := run_eq2 (w := w) hT (k0 := q0) (k1 := q1) (a x) (b x) (a p.1) (b p.1)
        have ho : (Op.equal kt (Value.agg #[.int q0 (a x), .int q1 (b x)]) e.key).run P w = .ok (decide (a x = a p.1 ∧ b x = b p.1)) w := by rw [h1]; exact he
        simp only [Instr.findAsking, Sem.run_bind, ho, Result.andThen_ok, mfind]
        by_cases hp : p.1 = x
        · subst hp; simp [h2]
        · have : ¬ (a x = a p.1 ∧ b x = b p.1) := fun ⟨g1, g2⟩ => hp (hinj _ _ g1 g2).symm
          simp only [this, decide_false, Bool.false_eq_true, if_false, hp]
          exact ih es (i + 1) h3
  · have : Instr.sameBits 10000 (Value.agg #[.int q0 (a x), .int q1 (b x)]) (Value.agg #[.int q0 (a x), .int q1 (b x)]) = true := by
      rw [show (10000 : Nat) = 9998 + 1 + 1 from rfl]; simp [Instr.sameBits]
    simp [Instr.keyThatStays, this]
end
def mcont {K V : Type} (kf : K → Value) (vf : V → Value) (m : List (K × V)) : Cont := .map (m.map fun p => (kf p.1, vf p.2))
section
variable {P : Program} {ty : TypeId} {ρ : Operand → Value} {w w0 : World} {R : Value → World → Prop} {X : List (Option Nat)} {O : List (Option Nat)} {C : List Cont} {K V : Type} [DecidableEq K] {kf : K → Value} {vf : V → Value} {t kt et : TypeId} {b : Nat} {m : List (K × V)}
theorem mown (hc : OwnC w (some b) (mcont kf vf m)) : ∃ (ents : Array MapEntry) (clock : Nat), w.heap[b]? = some (.map ents clock) ∧ ents.toList.map (fun x => (x.key, x.val)) = m.map (fun p => (kf p.1, vf p.2)) ∧ (∀ x ∈ ents.toList, x.born < clock) ∧ (ents.toList.map (·.born)).Nodup := hc
theorem OpY.makeMap (hL : Loc X [] w0 w O C) (h : ∀ b w', Loc X [] w0 w' (some b :: O) (mcont kf vf ([] : List (K × V)) :: C) → Step O (some b :: O) w w' → R (.map (some b)) w') : OpY P (.makeMap t none) ty ρ w R := by
  have ha := hL.alloc (o := .map #[] 0) (c := mcont kf vf ([] : List (K × V))) ⟨#[], 0, by show (w.heap.push _)[w.heap.size]? = _; simp, rfl, fun x hx => (by simp at hx), by simp⟩
  have hr : (Instr.makeMap t none).run P w = .ok (.map (some w.heap.size)) (w.alloc (.map #[] 0)) := rfl
  simp only [OpY, bareOp, execOp]
  simp [hr, upon]
  exact h _ _ ha.1 ha.2
theorem run_look (hk : MKey P kt kf) (hu : P.underlying t = some (.map kt et)) {sz by' : Nat} {z : V} (ti : TI P et sz by' (vf z)) (hc : OwnC w (some b) (mcont kf vf m)) (x : K) (ok : Bool) :
    (Instr.lookup t (.map (some b)) (kf x) ok).run P w = .ok (if ok then .tuple #[vf (mget m x z).1, .bool (mget m x z).2] else vf (mget m x z).1) w := by
  obtain ⟨ents, clock, h1, h2, h3, h4⟩ := mown hc
  obtain ⟨inf, hi, _, _, hz⟩ := ti
  have hf := hk.find w x vf m ents.toList h2
  rcases mfind_spec x m 0 with ⟨g1, g2, _⟩ | ⟨j, y, g1, _, g3, _⟩
  · rw [g1] at hf
    simp [Instr.lookup, run_underlying hu, MapKept.run_getObj_map h1, hk.check, hf, g2, zeroValue, typeInfo, hi, hz, Result.andThen]
  · rw [g1] at hf
    simp [Instr.lookup, run_underlying hu, MapKept.run_getObj_map h1, hk.check, hf, g3, Result.andThen]
theorem OpY.look {a c : Operand} {x : K} {sz by' : Nat} {z : V} (hk : MKey P kt kf) (hu : P.underlying t = some (.map kt et)) (ti : TI P et sz by' (vf z)) (ha : ρ a = .map (some b)) (hc : OwnC w (some b) (mcont kf vf m)) (hx : ρ c = kf x)
    (h : R (.tuple #[vf (mget m x z).1, .bool (mget m x z).2]) w) : OpY P (.lookup t a c true) ty ρ w R := by
  have hr := run_look hk hu ti hc x true
  simp only [OpY, bareOp, execOp, ha, hx]
  simp [hr, upon]
  exact h
theorem OpY.look0 {a c : Operand} {x : K} {sz by' : Nat} {z : V} (hk : MKey P kt kf) (hu : P.underlying t = some (.map kt et)) (ti : TI P et sz by' (vf z)) (ha : ρ a = .map (some b)) (hc : OwnC w (some b) (mcont kf vf m)) (hx : ρ c = kf x)
    (h : R (vf (mget m x z).1) w) : OpY P (.lookup t a c false) ty ρ w R := by
  have hr := run_look hk hu ti hc x false
  simp only [OpY, bareOp, execOp, ha, hx]
  simp [hr, upon]
  exact h
theorem run_mput (hk : MKey P kt kf) (hu : P.underlying t = some (.map kt et)) (hL : Loc X [] w0 w O C) (i : Nat) (hO : O[i]? = some (some b)) (hC : C[i]? = some (mcont kf vf m)) (x : K) (y : V) :
    ∃ w', (Instr.mapUpdate t (.map (some b)) (kf x) (vf y)).run P w = .ok () w' ∧ Loc X [] w0 w' O (C.set i (mcont kf vf (mput m x y))) ∧ Step O O w w' := by
  obtain ⟨ents, clock, h1, h2, h3, h4⟩ := mown (hL.at i hO hC)
  have hf := hk.find w x vf m ents.toList h2
  have hlt := heap_lt h1
  have lay : ∀ (ents' : Array MapEntry) (clock' : Nat), ents'.toList.map (fun x => (x.key, x.val)) = (mput m x y).map (fun p => (kf p.1, vf p.2)) → (∀ x ∈ ents'.toList, x.born < clock') → (ents'.toList.map (·.born)).Nodup →
      Loc X [] w0 { w with heap := w.heap.setIfInBounds b (.map ents' clock') } O (C.set i (mcont kf vf (mput m x y))) ∧ Step O O w { w with heap := w.heap.setIfInBounds b (.map ents' clock') } := by
    intro ents' clock' g1 g2 g3
    refine hL.put i hO ⟨ents', clock', by simp [hlt], g1, g2, g3⟩ (fun k hk => ?_) (by simp) rfl rfl rfl
    simp [Array.getElem?_setIfInBounds, Ne.symm hk]
  rcases mfind_spec x m 0 with ⟨g1, _, g2⟩ | ⟨j, v, g1, g2, _, g3⟩
  · rw [g1] at hf
    refine ⟨_, by simp [Instr.mapUpdate, run_underlying hu, MapKept.run_getObj_map h1, hk.check, hf, MapKept.run_setObj_map _ h1, Result.andThen]; rfl, lay _ _ ?_ ?_ ?_⟩
    · rw [g2 y]; simp [h2]
    · intro e he
      simp only [Array.toList_push, List.mem_append, List.mem_singleton] at he
      rcases he with he | rfl
      · exact Nat.lt_succ_of_lt (h3 e he)
      · exact Nat.lt_succ_self _
    · simp only [Array.toList_push, List.map_append, List.map_cons, List.map_nil]
      refine List.nodup_append.2 ⟨h4, by simp, ?_⟩
      intro a ha b' hb e
      obtain ⟨q, hq, rfl⟩ := List.mem_map.1 ha
      simp only [List.mem_singleton] at hb
      have := h3 q hq
      omega
  · rw [g1, Nat.zero_add] at hf
    have hlen : ents.toList.length = m.length := by have := congrArg List.length h2; simpa using this
    have hjm : j < m.length := (List.getElem?_eq_some_iff.1 g2).1
    have hje : j < ents.toList.length := by omega
    have hkv : ((ents.toList[j]).key, (ents.toList[j]).val) = (kf x, vf v) := by
      have := congrArg (·[j]?) h2
      simp only [List.getElem?_map, List.getElem?_eq_getElem hje, g2, Option.map_some, Option.some.injEq] at this
      exact this
    have hj : ents[j]? = some ents.toList[j] := by rw [← Array.getElem?_toList]; exact List.getElem?_eq_getElem hje
    have hkey : (ents.toList[j]).key = kf x := congrArg Prod.fst hkv
    have hml : (ents.modify j (fun e' => { e' with key := kf x, val := vf y })).toList = ents.toList.set j { ents.toList[j] with key := kf x, val := vf y } := by rw [Array.toList_modify, ChangeMaps.modify_eq_set _ _ _ _ (List.getElem?_eq_getElem hje)]
    have hrun : (Instr.mapUpdate t (.map (some b)) (kf x) (vf y)).run P w = .ok () { w with heap := w.heap.setIfInBounds b (.map (ents.modify j (fun e' => { e' with key := kf x, val := vf y })) clock) } := by
      have hst : (Instr.keyThatStays ((Option.map (·.key) ents[j]?).getD (kf x)) (kf x)).run P w = .ok (kf x) w := by
        rw [hj]; simp only [Option.map_some, Option.getD_some, hkey]; exact hk.stays w x
      simp [Instr.mapUpdate, run_underlying hu, MapKept.run_getObj_map h1, hk.check, hf, hst, MapKept.run_setObj_map _ h1, Result.andThen]
    refine ⟨_, hrun, lay _ _ ?_ ?_ ?_⟩
    · rw [hml, g3 y, List.map_set, List.map_set, h2]
    · intro e he
      rw [hml] at he
      rcases List.mem_or_eq_of_mem_set he with he | rfl
      · exact h3 e he
      · exact h3 (ents.toList[j]) (List.getElem_mem hje)
    · rw [hml, List.map_set]
      have : (ents.toList.map (·.born)).set j (ents.toList[j]).born = ents.toList.map (·.born) := by
        apply List.ext_getElem?
        intro q
        rw [List.getElem?_set]
        split
        · rename_i hq; subst hq; simp only [List.length_map, hje, if_true, List.getElem?_map, List.getElem?_eq_getElem hje, Option.map_some]
        · rfl
      show ((ents.toList.map (·.born)).set j (ents.toList[j]).born).Nodup
      rw [this]; exact h4
theorem OpY.mapPut {a c d : Operand} {x : K} {y : V} (hk : MKey P kt kf) (hu : P.underlying t = some (.map kt et)) (ha : ρ a = .map (some b)) (hx : ρ c = kf x) (hy : ρ d = vf y) (hL : Loc X [] w0 w O C) (i : Nat) (hO : O[i]? = some (some b)) (hC : C[i]? = some (mcont kf vf m))
    (h : ∀ w', Loc X [] w0 w' O (C.set i (mcont kf vf (mput m x y))) → Step O O w w' → R undef w') : OpY P (.mapUpdate t a c d) ty ρ w R := by
  obtain ⟨w', h1, h2, h3⟩ := run_mput hk hu hL i hO hC x y
  simp only [OpY, bareOp, execOp, ha, hx, hy]
  simp [h1, upon]
  exact h w' h2 h3
theorem OpY.mapIns {a c d : Operand} {x : K} {y : V} (hk : MKey P kt kf) (hu : P.underlying t = some (.map kt et)) (ha : ρ a = .map (some b)) (hx : ρ c = kf x) (hy : ρ d = vf y) (hL : Loc X [] w0 w O C) (i : Nat) (hO : O[i]? = some (some b)) (hC : C[i]? = some (mcont kf vf m))
    (h : ∀ w', Loc X [] w0 w' O (C.set i (mcont kf vf (mput m x y))) → Step O O w w' → R undef w') : OpY P (.insert t a c d) ty ρ w R := by
  obtain ⟨w', h1, h2, h3⟩ := run_mput hk hu hL i hO hC x y
  simp only [OpY, bareOp, execOp, ha, hx, hy]
  simp [h1, upon]
  exact h w' h2 h3
theorem OpY.lenMap {x : Operand} (hu : P.underlying t = some (.map kt et)) (ha : ρ x = .map (some b)) (hc : OwnC w (some b) (mcont kf vf m)) (h : R (.int .i64 (m.length : Int)) w) :
    OpY P (.call { callee := .builtin .len, args := #[x], argTypes := #[t] }) ty ρ w R := by
  obtain ⟨ents, clock, h1, h2, h3, h4⟩ := mown hc
  have hlen : ents.size = m.length := by have := congrArg List.length h2; simpa using this
  have hr : (Builtin.len_ #[t] ty #[.map (some b)]).run P w = .ok (.int .i64 (m.length : Int)) w := by
    simp [Builtin.len_, run_underlying hu, MapKept.run_getObj_map h1, goInt, hlen]
  simp only [OpY, bareOp, execOp, resolve, invoke, builtin]
  simp [ha, hr, upon]
  exact h
end
end Go.X

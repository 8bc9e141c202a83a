/- Plain theorems and definitions of this seat, several texts in one. -/
import Derived.Test.YtcakdidcpoolcaaGreatDoorAb
import Derived.Test.YtcakdidcpoolcaaGreatDoorAa
set_option linter.unusedSimpArgs false
set_option linter.unusedVariables false
namespace Go.Q
open Go Go.RowKit Go.X
section
variable {P : Program} {tb : List (TyE P)} {L : SS} {o : Oper} {K : Ef → Option Sv → Prop} {β : Type} {res : β} {t u el : TypeId} {x y a b c d : Operand} {T E : TyE P} {kk : IntKind}
theorem mkM {Q V : Type} (dk : DecidableEq Q) (kf : Q → Value) (vf : V → Value) (nx : K ⟨1, [(L.nx, some (.map dk kf vf []))], []⟩ (some (.s (.lf (.mp L.nx))))) (ho : o.op = .makeMap t none := by rfl) : OpN tb o L K := by
  refine OpN.of (LT.nw fun ν H e w hv ht hO hS => ?_) nx
  rw [ho]
  exact OpY.makeMap (kf := kf) (vf := vf) (loc0 (w := w)) fun b w' h1 h2 => ⟨some b, 0, 0, _, h1, fun _ _ _ _ => rfl, fun ν' H' hν hH hn => ⟨b, (0, 0), hn, rfl⟩⟩
section
variable {Q V : Type} {dk : DecidableEq Q} {kf : Q → Value} {vf : V → Value} {m : List (Q × V)} {i : Nat} {kt et : TypeId}
theorem luN (z : V) (q : Q) (hk : MKey P kt kf) (h1 : ∀ v, one (vf v) = true) (nx : K .z (lvS (vf (mget m q z).1)))
    (ho : o.op = .lookup t a c false := by rfl) (ha : opd L a = some (.s (.lf (.mp i))) := by rfl) (hi : aget L.objs i = some (.map dk kf vf m) := by rfl) (hc : lv (opd L c) = some (kf q) := by rfl) (hT : tyf tb t = some T := by rfl) (hd : T.d = .map kt et := by rfl) (hE : tyf tb et = some E := by rfl) (hz : E.z = vf z := by rfl) : OpN tb o L K := by
  refine OpN.of (LT.look fun ν H e w hv ht hO hS => ?_) nx
  rw [ho]
  obtain ⟨b, c', g1, g2⟩ : (Lf.mp i).R ν H (ev e a) := opd_ok hS ha
  obtain ⟨b', c'', n, k, q1, q2, q3⟩ := hO i _ hi
  rw [g1] at q1; cases q1
  have q3 : k = mcont kf vf m := q3
  subst q3
  exact OpY.look0 (z := z) hk (tyf_und' hT hd) (hz ▸ tyf_ti hE) g2 q2 (lv_ok hS hc).1 ⟨rfl, rfl, h1 _⟩
theorem puM (q : Q) (v : V) (hk : MKey P kt kf) (nx : K ⟨0, [(i, some (.map dk kf vf (mput m q v)))], []⟩ none)
    (ho : o.op = .mapUpdate t a c d := by rfl) (ha : opd L a = some (.s (.lf (.mp i))) := by rfl) (hi : aget L.objs i = some (.map dk kf vf m) := by rfl) (hc : lv (opd L c) = some (kf q) := by rfl) (hd' : lv (opd L d) = some (vf v) := by rfl) (hT : tyf tb t = some T := by rfl) (hd : T.d = .map kt et := by rfl) : OpN tb o L K := by
  refine OpN.of (LT.md hi fun ν H e w b c0 n k0 hv ht hO hS p1 p2 p3 => ?_) nx
  rw [ho]
  obtain ⟨b', c', g1, g2⟩ : (Lf.mp i).R ν H (ev e a) := opd_ok hS ha
  rw [p1] at g1; cases g1
  have p3 : k0 = mcont kf vf m := p3
  subst p3
  exact OpY.mapPut hk (tyf_und' hT hd) g2 (lv_ok hS hc).1 (lv_ok hS hd').1 (loc1 p2) 0 rfl rfl fun w' h1 h2 => ⟨_, h1, fun _ _ => rfl⟩
end
def ppPd (κ : Bool) (l : List Lf) : Pd := ⟨fun H a => ∃ b o vs, a = .pointer (some ⟨b, o, none⟩) ∧ At (H κ) b o vs ∧ LfsR (fun _ => none) H l vs, fun H H' a hH ⟨b, o, vs, h1, h2, h3⟩ => ⟨b, o, vs, h1, h2.mono (hH κ), h3.mono (NuLe.refl _) hH⟩, fun H a ⟨b, o, vs, h1, _⟩ => by rw [h1]; rfl⟩
def fnPd (P : Program) {α ρ : Type} (az : α → List S1) (rs : ρ → List S1) (f : α → Option ρ) : Pd :=
  ⟨fun H v => ∃ fid caps, v = .func (.func fid) #[] (List.toArray caps) ∧ Enters P fid ∧ ∀ (X : Nat → Prop) (w : World) (H' : Bool → Hp) (ν : Nu) (x : α) (r : ρ) (l : List Value), (∀ κ, Le (H κ) (H' κ)) → (∀ k, ν k = none) → StX X w H' ν (fun _ => none) w → f x = some r → S1sR ν (HF X w H' ν (fun _ => none) w) (az x) l →
      Calls P fid (l ++ caps).toArray w (fun e w' => ∃ vs, e = .returned (packV vs) ∧ EndR X w H' ν 0 [] (rs r) vs w'),
   fun H H' v hH ⟨fid, caps, h1, h2, h3⟩ => ⟨fid, caps, h1, h2, fun X w H2 ν x r l hle => h3 X w H2 ν x r l fun κ => Le.trans (hH κ) (hle κ)⟩,
   fun H v ⟨fid, caps, h1, _⟩ => by rw [h1]; rfl⟩
theorem vpp (t : Nat) {κ : Bool} {l : List Lf} (ht : aget L.slots t = some (.s (.lf (.pd (ppPd κ l)))) := by rfl) : Vw L ⟨0, [], [(t, some (.pr κ l 0))]⟩ := by
  refine ⟨fun X w0 H0 ν oF e w ho hn hS hs => ⟨ν, NuX.refl, hS, fun _ => Le.refl _, fun t' sv h => ?_⟩⟩
  have h : (bif Nat.beq t' t then some (Sv.pr κ l 0) else none) = some sv := h
  cases hb : Nat.beq t' t with
  | false => rw [hb] at h; cases h
  | true =>
    rw [hb] at h; cases h
    have := Nat.eq_of_beq_eq_true hb; subst this
    obtain ⟨b, o, vs, h1, h2, h3⟩ := hs _ _ ht
    exact ⟨b, o, vs, h1, h2, h3.mono (fun i x h => (by cases h)) fun _ => Le.refl _⟩
theorem fzb (j t : Nat) {l : List Lf} (hj : aget L.objs j = some (.box l) := by rfl) (ht : aget L.slots t = some (.s (.lf (.ptr j 0))) := by rfl) : Vw L ⟨0, [(j, none)], [(t, some (.pr true l 0))]⟩ := by
  refine ⟨fun X w0 H0 ν oF e w ho hn hS hs => ?_⟩
  obtain ⟨b, c, n, kk, q1, q2, vs, e2, e3⟩ := hS.obs j _ (ho j _ hj)
  obtain ⟨b', c', r1, r2⟩ : (Lf.ptr j 0).R ν (HF X w0 H0 ν oF w) (e t) := hs _ _ ht
  rw [q1] at r1; cases r1
  obtain ⟨g1, g2⟩ := hS.go (T := [j]) (O := [some b']) (new := []) (oF' := apF [(j, none)] oF) (ν' := ν) (fun b' hb => by simp only [List.mem_singleton] at hb; exact ⟨j, by simp, _, ho j _ hj, by rw [blk_of q1, hb]⟩) ((loc1 q2).drop 0).1 (NuLe.refl ν) rfl (by simp)
    (fun i o h => by
      rcases apF_some h with h | ⟨h, h2⟩
      · simp at h
      · refine .inl ⟨h, fun hm => ?_⟩
        simp only [List.mem_singleton] at hm; subst hm; simp [memN] at h2)
    (fun _ x hx => by cases hx)
  refine ⟨ν, NuX.refl, g1, g2, fun t' sv h => ?_⟩
  have h : (bif Nat.beq t' t then some (Sv.pr true l 0) else none) = some sv := h
  cases hb : Nat.beq t' t with
  | false => rw [hb] at h; cases h
  | true =>
    rw [hb] at h; cases h
    have := Nat.eq_of_beq_eq_true hb; subst this
    have hno : ¬ Ow ν (apF [(j, none)] oF) b' := by
      rintro ⟨i, ob, r2, r3⟩
      rcases apF_some r2 with h | ⟨h, h2⟩
      · simp at h
      · have := hS.dist i j ob _ b' h (ho j _ hj) r3 (blk_of q1)
        subst this; simp [memN] at h2
    subst e2
    exact ⟨b', 0, vs, r2, own_at q2 fun q hq => HF_new (hS.fresh j _ b' (ho j _ hj) (blk_of q1)) hno hq, e3.mono (NuLe.refl ν) g2⟩
theorem S1sR.append {ν : Nu} {H : Bool → Hp} : ∀ {l l' : List S1} {a a' : List Value}, S1sR ν H l a → S1sR ν H l' a' → S1sR ν H (l ++ l') (a ++ a')
  | [], _, _, _, h, h' => by rw [show _ = [] from h]; exact h'
  | _ :: _, _, _, _, ⟨a, az, h1, h2, h3⟩, h' => by rw [h1]; exact ⟨a, az ++ _, rfl, h2, h3.append h'⟩
def capS (L : SS) : List Operand → Option (List S1)
  | [] => some []
  | x :: r => match opd L x with
    | some (.pr κ l 0) => match l.all okV && capS.isT κ with
      | true => match capS L r with
        | some y => some (.lf (.pd (ppPd false l)) :: y)
        | none => none
      | false => none
    | _ => none
where
  isT : Bool → Bool := fun _ => true
  okV : Lf → Bool
    | .v _ => true
    | .ro _ _ _ => true
    | .pd _ => true
    | _ => false
theorem okV_R {ν ν' : Nu} {H : Bool → Hp} : ∀ {l : List Lf} {vs : List Value}, l.all capS.okV = true → LfsR ν H l vs → LfsR ν' H l vs
  | [], _, _, h => h
  | x :: r, _, hk, ⟨a, az, h1, h2, h3⟩ => by
    simp only [List.all_cons, Bool.and_eq_true] at hk
    refine ⟨a, az, h1, ?_, okV_R hk.2 h3⟩
    cases x <;> first | exact h2 | cases hk.1
theorem capS_ok {ν : Nu} {H : Bool → Hp} {e : Env} (ht : Le (H true) (H false)) (hS : SlR ν H (aget L.slots) e) : ∀ {xs : List Operand} {ss : List S1}, capS L xs = some ss → S1sR (fun _ => none) H ss (xs.map (ev e))
  | [], _, h => by cases h; rfl
  | x :: r, _, h => by
    simp only [capS] at h; split at h
    · rename_i κ l hx; split at h
      · rename_i hk; split at h
        · rename_i y hy; cases h
          simp only [Bool.and_eq_true] at hk
          obtain ⟨b, o, vs, h1, h2, h3⟩ := opd_ok hS hx
          refine ⟨_, _, rfl, ⟨b, o, vs, h1, ?_, okV_R hk.1 h3⟩, capS_ok ht hS hy⟩
          cases κ with
          | true => exact h2.mono ht
          | false => exact h2
        · cases h
      · cases h
    · cases h
theorem mkF {α ρ : Type} (az : α → List S1) (rs : ρ → List S1) (f : α → Option ρ) {fid : FuncId} {caps : List Operand} {cs : List S1} (c : ∀ x r, f x = some r → Cx P fid (az x ++ cs) [] [] (rs r)) (he : Enters P fid) (nx : K .z (some (.s (.lf (.pd (fnPd P az rs f))))))
    (ho : o.op = .makeFunc (.func fid) #[] caps.toArray := by rfl) (hc : capS L caps = some cs := by rfl) : OpN tb o L K := by
  refine OpN.of (LT.look fun ν H e w hv ht hO hS => ?_) nx
  rw [ho]
  refine OpY.makeFunc rfl ⟨rfl, fid, caps.map (ev e), rfl, he, ?_⟩
  intro X w1 H' ν1 x r l hle hν hSt hf hl
  have hcap := capS_ok ht hS hc
  have hin : ∀ κ, Le (H κ) (HF X w1 H' ν1 (fun _ => none) w1 κ) := fun κ b o hb => by
    have h1 := hle κ b o hb
    have h2 : H' false b = some o := by
      cases κ with
      | true => exact hSt.h0 b o h1
      | false => exact h1
    obtain ⟨g1, g2, g3⟩ := hSt.h0w b o h2
    rw [HF_old g1 g3]; exact h1
  have hno : aget (numO 0 ([] : List Ob)) = fun _ => none := by funext t; rfl
  have := (c x r hf).2 X w1 H' ν1 (l ++ caps.map (ev e)) (fun k _ => hν k) (by rw [hno]; exact hSt) (by
    rw [hno]; exact hl.append (hcap.mono (fun i x h => (by cases h)) hin))
  exact this
theorem cvl {α ρ : Type} {az : α → List S1} {rs : ρ → List S1} {g : α → Option ρ} (x : α) {f : ρ → Option β} {fo : Operand} {args : List Operand} {ats : Array TypeId} {ls : List S1} (h : (g x).bind f = some res) (nx : ∀ r, f r = some res → K .z (some (packS ((rs r).map (shS none [] L.nx)))))
    (ho : o.op = .call { callee := .value fo, args := args.toArray, argTypes := ats } := by rfl) (hf : opd L fo = some (.s (.lf (.pd (fnPd P az rs g)))) := by rfl) (ha : opds L args = some ls := by rfl) (hl : lendS none (aget L.objs) [] ls (az x) = some (az x) := by rfl) (h2 : ∀ r, (rs r).all (okS none 0) = true := by intro r; rfl) : OpN tb o L K := by
  obtain ⟨r, q1, q2⟩ := bind_some h
  refine OpN.of ⟨fun X w0 H0 ν oF e w ho' hν hS hs => ?_⟩ (nx r q2)
  rw [ho]
  obtain ⟨fid, caps, e1, he, hcall⟩ := opd_ok hs hf
  have hI : ∀ i ∈ ([] : List Nat), ∃ ob, oF i = some ob := fun i hi => by cases hi
  have hb : lendOs none oF [] [] [] = some [] := rfl
  have hin := hS.lend (md := none) (is := []) rfl hb
  have e0 : aget (numO 0 ([] : List Ob)) = fun _ => none := by funext t; rfl
  rw [e0] at hin
  have hargs := lendS_ok (md := none) (is := []) (νc := nuM ν []) (cF := fun _ => none) hS hI (Hc_in hS hI) (lendS_up ho' hl) (opds_ok hs ha)
  have hc := hcall (Xc ν []) w _ (nuM ν []) x r (args.map (ev e)) (fun κ => Hc_le (md := none) hS hI (by cases κ <;> rfl)) (fun k => rfl) hin q1 hargs
  have hfe : ev e fo = .func (.func fid) (List.toArray []) caps.toArray := e1
  refine OpY.callv he hfe (by simp) hc ?_
  rintro en w' ⟨vs, rfl, ν', hp, hE, hr⟩
  refine ⟨packV vs, rfl, call_back none [] 0 L.nx hS hI rfl rfl (h2 r) rfl hν (fun k hk => absurd hk (Nat.not_lt_zero k)) hE hr⟩
inductive CvA (P : Program) : List S1 → List S1 → Prop
  | n : CvA P [] []
  | s {a : S1} {l l' : List S1} (h : CvA P l l') : CvA P (a :: l) (a :: l')
  | f {α ρ : Type} (az : α → List S1) (rs : ρ → List S1) (f : α → Option ρ) {fid : FuncId} (c : ∀ x r, f x = some r → Cx P fid (az x) [] [] (rs r)) (he : Enters P fid) {l l' : List S1} (h : CvA P l l') : CvA P (.lf (.v (.func (.func fid) #[] #[])) :: l) (.lf (.pd (fnPd P az rs f)) :: l')
theorem CvA.ok {ν : Nu} {H : Bool → Hp} : ∀ {l l' : List S1} {v : List Value}, CvA P l l' → S1sR ν H l v → S1sR ν H l' v
  | _, _, _, .n, h => h
  | _, _, _, .s k, ⟨a, az, h1, h2, h3⟩ => ⟨a, az, h1, h2, k.ok h3⟩
  | _, _, _, .f az rs g c he k, ⟨a, l, h1, h2, h3⟩ => ⟨a, l, h1, ⟨_, [], h2.1, he, fun X w H' ν1 x r l2 hle hν hSt hf hl => by
      have hno : aget (numO 0 ([] : List Ob)) = fun _ => none := by funext t; rfl
      have := (c x r hf).2 X w H' ν1 l2 (fun k _ => hν k) (by rw [hno]; exact hSt) (by rw [hno]; exact hl)
      rw [List.append_nil]; exact this⟩, k.ok h3⟩
theorem clF (md : Option Bool) (is : List Nat) (nn : Nat) {ρ : Type} {g : Option ρ} {f : ρ → Option β} {fid : FuncId} {args : List Operand} {ats : Array TypeId} {l0 ls az : List S1} {ib : List Ob} {out : ρ → List (Nat × Option Ob)} {rs : ρ → List S1}
    (h : g.bind f = some res) (c : ∀ r, g = some r → Cx P fid az ib (out r) (rs r)) (hc : CvA P l0 ls) (nx : ∀ r, f r = some res → K ⟨nn, shOut md is L.nx (out r) ++ dels is, []⟩ (some (packS ((rs r).map (shS md is L.nx)))))
    (ho : o.op = .call { callee := .value (.func fid), args := args.toArray, argTypes := ats } := by rfl) (ha : opds L args = some l0 := by rfl) (hl : lendS md (aget L.objs) is ls az = some az := by rfl) (hb : lendOs md (aget L.objs) is is ib = some ib := by rfl) (hn : nodupB is = true := by rfl)
    (h1 : ∀ r, okOut md (is.length + nn) (out r) = true := by intro r; rfl) (h2 : ∀ r, (rs r).all (okS md (is.length + nn)) = true := by intro r; rfl) (h3 : ∀ r, nodupB ((out r).map (·.1)) = true := by intro r; rfl) : OpN tb o L K := by
  obtain ⟨r, q1, q2⟩ := bind_some h
  refine OpN.of ?_ (nx r q2)
  rw [ho]
  exact call_ltF md is nn (c r q1) ha (fun _ _ _ h => hc.ok h) hl hb hn (h1 r) (h2 r) (h3 r)
theorem Vw.comp {a b : Ef} (v : Vw L a) (v2 : Vw (L.eff a) b) : Vw L (a.comp b) := by
  refine ⟨fun X w0 H0 ν oF e w ho hn hS hs => ?_⟩
  obtain ⟨ν1, g1, g2, g3, g4⟩ := v.ok X w0 H0 ν oF e w ho (fun k h1 h2 => hn k h1 (by show k < L.nx + (a.n + b.n); omega)) hS hs
  have hle := g1.le (fun k h1 h2 => hn k h1 (by show k < L.nx + (a.n + b.n); omega))
  obtain ⟨ν2, q1, q2, q3, q4⟩ := v2.ok X w0 H0 ν1 (apF a.up oF) e w (by rw [aget_eff]; exact apF_sub ho) (fun k h1 h2 => by
    have h1 : L.nx + a.n ≤ k := h1
    have h2 : k < L.nx + a.n + b.n := h2
    rw [g1 k (.inr h1)]; exact hn k (by omega) (by show k < L.nx + (a.n + b.n); omega)) g2 (by rw [aget_effs]; exact (hs.mono hle g3).ap g4)
  rw [← apF_app] at q2 q3 q4
  have hle2 : NuLe ν1 ν2 := q1.le (fun k h1 h2 => by
    have h1 : L.nx + a.n ≤ k := h1
    have h2 : k < L.nx + a.n + b.n := h2
    rw [g1 k (.inr h1)]; exact hn k (by omega) (by show k < L.nx + (a.n + b.n); omega))
  refine ⟨ν2, fun k hk => ?_, q2, fun κ => Le.trans (g3 κ) (q3 κ), ?_⟩
  · have hk : k < L.nx ∨ L.nx + (a.n + b.n) ≤ k := hk
    rw [q1 k (by show k < L.nx + a.n ∨ L.nx + a.n + b.n ≤ k; omega), g1 k (by omega)]
  · have e1 : aget (a.comp b).sl = apF b.sl (aget a.sl) := by funext t; exact aget_app _ _ _
    rw [e1]; exact (g4.mono hle2 q3).ap q4
theorem fnv (tb : List (TyE P)) {f : FuncId} {fn : Func} {c : Code} {rl : List ResultVar} {n : Nat} {az rs : List S1} {ib : List Ob} {out : List (Nat × Option Ob)} {m : Nat} {a : Ef} (v : Vw ⟨m, numO 0 ib, argS 0 az⟩ a) (en : Enters P f) (hf : P.funcs[f]? = some fn)
    (h : ∀ X w H ν, Gs tb ⟨n, QR P rl X w H ν m out rs, X, w, H, m, ν⟩ [.code c] ((⟨m, numO 0 ib, argS 0 az⟩ : SS).eff a)) (hm : ib.length = m := by rfl) (hb : fn.body = some c := by rfl) (hn : fn.ntmps = n := by rfl) (hr : fn.results = rl.toArray := by rfl) (hl : Nat.ble az.length n = true := by rfl) : Cx P f az ib out rs := by
  subst hm
  refine ⟨en, fun X w H ν l hν hS hl' => ?_⟩
  refine calls_of hf hb hn hr (by rw [hl'.length]; exact Nat.le_of_ble_eq_true hl) ?_
  have h0 : St ⟨n, QR P rl X w H ν ib.length out rs, X, w, H, ib.length, ν⟩ ⟨ib.length, numO 0 ib, argS 0 az⟩ (ofArgs l) w := ⟨ν, hν, Nat.le_refl _, fun _ _ => rfl, hS, argS_ok 0 hl' (fun i v hi => by rw [Nat.zero_add]; simp [ofArgs, hi])⟩
  refine ((Gs.ok (h X w H ν)).ok _ _ (v.st h0)).mono ?_
  rintro e w' ⟨vs, h1, h2⟩
  exact ⟨vs, h1, vs, rfl, h2⟩
theorem ixQ {α : Type} {rp : Rep α} {κ : Bool} {xs : List α} {i : Int} {f : α → Option β} {j : Nat} (h : (idx xs i).bind f = some res) (nx : ∀ a, idx xs i = some a → f a = some res → K .z (some (.pw j rp xs a i 0)))
    (ho : o.op = .indexAddr t x y := by rfl) (hx : opd L x = some (.s (.lf (.own j))) := by rfl) (hj : aget L.objs j = some (.row rp κ xs) := by rfl) (hy : lv (opd L y) = some (.int kk i) := by rfl) (hT : tyf tb t = some T := by rfl) (hd : T.d = .slice el := by rfl) (hE : tyf tb el = some E := by rfl) (hz : E.sz = rp.sz := by rfl) : OpN tb o L K := by
  obtain ⟨a, q1, q2⟩ := bind_some h
  obtain ⟨n, q3, q4⟩ := idx_some q1
  refine OpN.of (LT.look fun ν H e w hv ht hO hS => ?_) (nx a q1 q2)
  rw [ho]
  obtain ⟨b, c, cs, sp, g1, g4, g5, g6, g7⟩ := row_of hO hj
  obtain ⟨b', c', n', m1, m2⟩ : (Lf.own j).R ν H (ev e x) := opd_ok hS hx
  rw [g1] at m1; cases m1
  obtain ⟨b, rfl⟩ := row_some g4 g5 g7 q4
  exact OpY.ixRowD (r := rp) (q := n * rp.sz + 0) (tyf_und' hT hd) (tyf_ti' hE hz) m2 rfl (lv_ok hS hy).1 q3 (List.getElem?_eq_some_iff.1 q4).1 (by omega) ⟨rfl, b, _, n, g1, q3, q4, rfl⟩
end
end Go.Q
set_option linter.unusedSimpArgs false
set_option linter.unusedVariables false
namespace Go.Q
open Go Go.RowKit Go.X
theorem out_calls {P : Program} {f : FuncId} {az rs : List S1} (c : Cn P f az [] rs) {W : World} {l : List Value} (h : S1sR (fun _ => none) (fun _ => HW W) az l) :
    Calls P f l.toArray W (fun e w' => ∃ vs ν' H', e = .returned (packV vs) ∧ Ext W w' ∧ S1sR ν' H' rs vs) := by
  have hno : aget (numO 0 ([] : List Ob)) = fun _ => none := by funext t; rfl
  have h0 : ∀ b o, HW W b = some o → b < W.heap.size ∧ W.heap[b]? = some o ∧ ¬ (fun _ : Nat => False) b := fun b o hb => by
    have h1 := (vw_some hb).2
    exact ⟨heap_lt h1, h1, fun h => h⟩
  have hS : StX (fun _ => False) W (fun _ => HW W) (fun _ => none) (fun _ => none) W :=
    ⟨rfl, rfl, rfl, Nat.le_refl _, fun _ _ _ => rfl, Le.refl _, h0, fun i ob hi => by (cases hi), fun i ob b hi => by (cases hi), fun i j oi oj b hi => by (cases hi)⟩
  have hle : ∀ κ, Le (HW W) (HF (fun _ => False) W (fun _ => HW W) (fun _ => none) (fun _ => none) W κ) := fun κ b o hb => by
    obtain ⟨g1, g2, g3⟩ := h0 b o hb
    rw [HF_old g1 g3]; exact hb
  refine (c.2 (fun _ => False) W (fun _ => HW W) (fun _ => none) l (fun _ _ => rfl) (by rw [hno]; exact hS) (by rw [hno]; exact h.mono (fun i x hx => by (cases hx)) hle)).mono ?_
  rintro e w' ⟨vs, rfl, ν', _, hE, hr⟩
  exact ⟨vs, ν', _, rfl, ⟨hE.os, hE.tape, hE.output, hE.size, fun k hk => hE.keep k hk (fun h => h)⟩, hr⟩
theorem law_calls {P : Program} {f : FuncId} {az : List S1} {b : Bool} (c : Cn P f az [] [sB b]) {W : World} {l : List Value} (h : S1sR (fun _ => none) (fun _ => HW W) az l) : Calls P f l.toArray W (Ret W fun v _ => Value.bool b = v ∧ True) := by
  refine (out_calls c h).mono ?_
  rintro e w' ⟨vs, ν', H', rfl, hE, a, az, rfl, ⟨h1, _⟩, rfl⟩
  exact ⟨_, rfl, hE, h1.symm, trivial⟩
end Go.Q
set_option linter.unusedSimpArgs false
set_option linter.unusedVariables false
namespace Go.Q
open Go Go.RowKit Go.X
theorem in_calls {P : Program} {f : FuncId} {az rs : List S1} (en : Enters P f) (h : ∀ (ν : Nu) (H : Bool → Hp) (w : World) (l : List Value), S1sR ν H az l → Calls P f l.toArray w (fun e w' => ∃ vs, e = .returned (packV vs) ∧ Ext w w' ∧ ∀ (ν' : Nu) (H' : Bool → Hp), S1sR ν' H' rs vs)) : Cn P f az [] rs := by
  have hno : aget (numO 0 ([] : List Ob)) = fun _ => none := by funext t; rfl
  refine ⟨en, fun X w H ν l hν hS hl => (h _ _ w l hl).mono ?_⟩
  rintro e w' ⟨vs, rfl, hE, hr⟩
  rw [hno] at hS
  refine ⟨vs, rfl, ν, fun _ _ => rfl, ?_, hr _ _⟩
  rw [hno]
  exact ⟨hE.os, hE.tape, hE.output, hE.size, fun k hk _ => hE.block k hk, hS.h0, hS.h0w, fun i ob hi => (by cases (show none = some ob from hi)), fun i ob b hi => (by cases (show none = some ob from hi)), fun i j oi oj b hi => (by cases (show none = some oi from hi))⟩
end Go.Q

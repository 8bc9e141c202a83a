/- Plain theorems and definitions of this seat, several texts in one. -/
import Derived.StillTail
import Derived.Below
import Derived.WalkKit
import Derived.Laws.AppendOwn
import Derived.Laws.MakeOwn
import Derived.Laws.BytesArg
import Derived.Laws.IdiomStrings
import Derived.Laws.Tables
import Derived.Carry
import Derived.ChangeSame
import Derived.ChangeSlices
import Derived.OpenShut
import Derived.ProofKit
import Derived.Deep.DeepHandedRow
import Derived.Lib.LaidTab
import Derived.Lib.LaidU8
import Derived.Laws.StructEq
import Derived.Laws.BytesString
import Derived.Maps.Keyed
import Derived.ChangeKeysEq
namespace Go
abbrev PB:=@Array.getD_eq_getD_getElem?
abbrev XO:=@Array.getElem?_append_left
abbrev XP:=@Array.getElem?_append_right
abbrev Iw:=@Array.getElem?_eq_getElem
abbrev DK:=@Array.getElem?_eq_none
abbrev PC:=@Array.getElem?_modify
abbrev Ja:=@Array.size_replicate
abbrev uQ:=@Array.toArray_toList
abbrev gz:=@Bool.and_eq_true
abbrev nB:=@Bool.false_eq_true
abbrev IP:=@Bool.not_eq_true'
abbrev IE:=@Bool.or_eq_false_iff
abbrev xo:=@Bool.or_eq_true
abbrev je:=@Classical.byContradiction
abbrev Aj:=@Classical.choose_spec
abbrev uW:=@Classical.not_not
abbrev oG:=@Iff.rfl
abbrev IW:=@Int.add_comm
abbrev IJ:=@Int.add_mul_emod_self_left
abbrev IY:=@Int.dvd_mul_right
abbrev P7:=@Int.dvd_trans
abbrev xz:=@Int.dvd_zero
abbrev IZ:=@Int.ediv_emod_unique
abbrev P1:=@Int.ediv_eq_zero_of_lt
abbrev IU:=@Int.ediv_lt_of_lt_mul
abbrev P9:=@Int.ediv_mul_cancel
abbrev Al:=@Int.ediv_nonneg
abbrev kI:=@Int.emod_add_mul_ediv
abbrev DY:=@Int.emod_eq_of_lt
abbrev nH:=@Int.emod_lt_of_pos
abbrev nG:=@Int.emod_nonneg
abbrev sM:=@Int.eq_ofNat_of_zero_le
abbrev PL:=@Int.eq_of_mul_eq_mul_left
abbrev j4:=@Int.fdiv_eq_ediv_of_nonneg
abbrev P4:=@Int.fdiv_zero
abbrev I2:=@Int.fmod_eq_emod_of_nonneg
abbrev eK:=@Int.le_of_lt
abbrev D7:=@Int.le_of_mul_le_mul_left
abbrev kG:=@Int.le_refl
abbrev xA:=@Int.le_total
abbrev IX:=@Int.lt_of_mul_lt_mul_left
abbrev P2:=@Int.lt_of_mul_lt_mul_right
abbrev pO:=@Int.lt_or_le
abbrev sP:=@Int.lt_or_lt_of_ne
abbrev uX:=@Int.lt_trichotomy
abbrev Qf:=@Int.max_eq_right
abbrev pM:=@Int.mul_add
abbrev D3:=@Int.mul_assoc
abbrev fU:=@Int.mul_comm
abbrev Qb:=@Int.mul_ediv_self_le
abbrev I1:=@Int.mul_fdiv_add_fmod
abbrev oH:=@Int.mul_le_mul
abbrev gU:=@Int.mul_le_mul_of_nonneg_left
abbrev fp:=@Int.mul_le_mul_of_nonneg_right
abbrev P0:=@Int.mul_lt_mul_of_pos_right
abbrev mi:=@Int.mul_neg
abbrev fb:=@Int.mul_nonneg
abbrev xv:=@Int.mul_one
abbrev Am:=@Int.mul_zero
abbrev Ao:=@Int.natAbs_mul
abbrev P8:=@Int.natAbs_natCast
abbrev D9:=@Int.natAbs_neg
abbrev ID:=@Int.natCast_mul
abbrev IV:=@Int.natCast_pow
abbrev I0:=@Int.neg_fdiv_neg
abbrev mh:=@Int.neg_mul
abbrev I3:=@Int.neg_neg
abbrev Eb:=@Int.ofNat.inj
abbrev D6:=@Int.ofNat_dvd
abbrev PQ:=@Int.ofNat_inj
abbrev kH:=@Int.pow_add
abbrev lK:=@Int.pow_pos
abbrev fR:=@Int.pow_succ
abbrev IS:=@Int.sub_eq_add_neg
abbrev xB:=@Int.sub_zero
abbrev XU:=@Int.tdiv_eq_ediv_of_nonneg
abbrev XT:=@Int.tmod_eq_emod_of_nonneg
abbrev mQ:=@Int.toNat_natCast
abbrev D4:=@Int.zero_add
abbrev xw:=@Int.zero_fdiv
abbrev I4:=@Int.zero_le_ofNat
abbrev XW:=@List.Nodup.length_le_of_subset
abbrev Qd:=@List.Pairwise.filter
abbrev Qa:=@List.Pairwise.imp_of_mem
abbrev DZ:=@List.all_cons
abbrev uP:=@List.all_eq_true
abbrev IM:=@List.any_eq_false
abbrev jS:=@List.append_assoc
abbrev Ix:=@List.append_eq_nil_iff
abbrev lH:=@List.append_nil
abbrev sN:=@List.cons.inj
abbrev PM:=@List.cons.injEq
abbrev DP:=@List.cons_append
abbrev DU:=@List.drop_append_of_le_length
abbrev nC:=@List.drop_drop
abbrev gn:=@List.drop_eq_getElem_cons
abbrev D1:=@List.drop_eq_nil_of_le
abbrev PS:=@List.drop_left
abbrev DR:=@List.drop_left'
abbrev D5:=@List.drop_length
abbrev Af:=@List.drop_of_length_le
abbrev PR:=@List.drop_set
abbrev mf:=@List.drop_zero
abbrev DN:=@List.eq_nil_of_length_eq_zero
abbrev XV:=@List.exists_mem_of_ne_nil
abbrev oD:=@List.ext_getElem
abbrev sJ:=@List.ext_getElem?
abbrev sQ:=@List.filter_append
abbrev As:=@List.filter_cons_of_neg
abbrev Qe:=@List.filter_cons_of_pos
abbrev I9:=@List.filter_eq_self
abbrev D8:=@List.flatMap_cons
abbrev PG:=@List.flatten_cons
abbrev PX:=@List.foldl_append
abbrev PZ:=@List.foldl_nil
abbrev cL:=@List.getD_eq_getElem?_getD
abbrev kW:=@List.getElem?_append_left
abbrev pJ:=@List.getElem?_append_right
abbrev sH:=@List.getElem?_drop
abbrev cy:=@List.getElem?_eq_getElem
abbrev gm:=@List.getElem?_eq_none
abbrev eN:=@List.getElem?_eq_some_iff
abbrev iA:=@List.getElem?_map
abbrev IC:=@List.getElem?_range
abbrev uR:=@List.getElem?_set
abbrev xn:=@List.getElem?_set_ne
abbrev Ae:=@List.getElem?_set_self
abbrev xj:=@List.getElem?_take
abbrev xi:=@List.getElem?_toArray
abbrev PW:=@List.getElem_append_left
abbrev IK:=@List.getElem_drop
abbrev k6:=@List.getElem_map
abbrev dC:=@List.getElem_mem
abbrev DX:=@List.getElem_ofFn
abbrev lL:=@List.getElem_of_mem
abbrev PU:=@List.getElem_range
abbrev IT:=@List.getElem_set_ne
abbrev P3:=@List.getElem_set_self
abbrev PV:=@List.getElem_take
abbrev XR:=@List.getLast?_cons_cons
abbrev IL:=@List.getLast?_eq_getElem?
abbrev dL:=@List.length_append
abbrev cN:=@List.length_cons
abbrev xq:=@List.length_drop
abbrev nD:=@List.length_eq_zero_iff
abbrev qT:=@List.length_filter_le
abbrev cS:=@List.length_map
abbrev dY:=@List.length_nil
abbrev sL:=@List.length_pos_iff
abbrev mg:=@List.length_replicate
abbrev P5:=@List.length_reverse
abbrev gI:=@List.length_set
abbrev lJ:=@List.length_singleton
abbrev fm:=@List.length_take
abbrev PE:=@List.mapM_cons
abbrev PF:=@List.mapM_toArray
abbrev iC:=@List.map_append
abbrev Ap:=@List.map_congr_left
abbrev kZ:=@List.map_cons
abbrev Qc:=@List.map_drop
abbrev nF:=@List.map_map
abbrev D0:=@List.map_set
abbrev gH:=@List.mem_append
abbrev DW:=@List.mem_append_left
abbrev xt:=@List.mem_append_right
abbrev eJ:=@List.mem_cons
abbrev cP:=@List.mem_cons_of_mem
abbrev cU:=@List.mem_cons_self
abbrev DO:=@List.mem_filter
abbrev uZ:=@List.mem_flatMap
abbrev IG:=@List.mem_iff_getElem
abbrev eh:=@List.mem_map
abbrev oB:=@List.mem_of_getElem?
abbrev II:=@List.mem_of_mem_drop
abbrev PD:=@List.mem_of_mem_eraseIdx
abbrev uS:=@List.mem_of_mem_take
abbrev qP:=@List.mem_or_eq_of_mem_set
abbrev qR:=@List.mem_range
abbrev Ak:=@List.mem_replicate
abbrev df:=@List.mem_singleton
abbrev I8:=@List.ne_nil_of_mem
abbrev jC:=@List.nil_append
abbrev PN:=@List.nodup_cons
abbrev PO:=@List.not_mem_nil
abbrev Aq:=@List.pairwise_cons
abbrev Ar:=@List.pairwise_iff_getElem
abbrev I6:=@List.pairwise_map
abbrev Ea:=@List.range_succ
abbrev Ah:=@List.replicate_succ
abbrev P6:=@List.reverse_append
abbrev XQ:=@List.set_eq_take_append_cons_drop
abbrev PT:=@List.singleton_append
abbrev oC:=@List.take_append_drop
abbrev jD:=@List.take_append_getElem
abbrev qS:=@List.take_append_of_le_length
abbrev Iz:=@List.take_left'
abbrev uV:=@List.take_length
abbrev fx:=@List.take_of_length_le
abbrev xu:=@List.take_set_of_le
abbrev pN:=@List.take_succ_eq_append_getElem
abbrev IB:=@List.take_take
abbrev PY:=@List.take_zero
abbrev PH:=@List.zip_cons_cons
abbrev qO:=@Nat.add_assoc
abbrev iJ:=@Nat.add_mul
abbrev PJ:=@Nat.add_sub_cancel
abbrev pK:=@Nat.add_zero
abbrev sK:=@Nat.beq_refl
abbrev PI:=@Nat.ble_eq_true_of_le
abbrev ee:=@Nat.eq_of_beq_eq_true
abbrev I5:=@Nat.eq_one_of_dvd_one
abbrev ij:=@Nat.eq_zero_or_pos
abbrev PK:=@Nat.exists_eq_add_of_le
abbrev lM:=@Nat.le_of_ble_eq_true
abbrev DT:=@Nat.le_of_lt
abbrev DM:=@Nat.le_of_mul_le_mul_right
abbrev Qg:=@Nat.le_of_succ_le
abbrev bQ:=@Nat.le_refl
abbrev bV:=@Nat.le_trans
abbrev xk:=@Nat.lt_irrefl
abbrev DV:=@Nat.lt_of_le_of_lt
abbrev DL:=@Nat.lt_of_lt_of_le
abbrev cG:=@Nat.lt_or_ge
abbrev xp:=@Nat.lt_succ_self
abbrev An:=@Nat.lt_trichotomy
abbrev kX:=@Nat.min_eq_left
abbrev Ai:=@Nat.mod_eq_of_lt
abbrev IQ:=@Nat.mul_comm
abbrev kY:=@Nat.mul_le_mul
abbrev I7:=@Nat.mul_le_mul_left
abbrev qQ:=@Nat.mul_le_mul_right
abbrev D2:=@Nat.not_lt_zero
abbrev Ag:=@Nat.one_mul
abbrev uY:=@Nat.pow_succ
abbrev xm:=@Nat.sub_self
abbrev IA:=@Nat.succ_mul
abbrev XS:=@Nat.testBit_one_eq_true_iff_self_eq_zero
abbrev IN:=@Nat.testBit_or
abbrev ff:=@Nat.zero_add
abbrev fI:=@Nat.zero_le
abbrev DQ:=@Nat.zero_mul
abbrev IF:=@Option.bind_eq_some_iff
abbrev Iv:=@Option.bind_some
abbrev DJ:=@Option.getD_some
abbrev Iy:=@Option.map_none
abbrev pL:=@Option.map_some
abbrev jd:=@Option.some.inj
abbrev uT:=@Option.some.injEq
abbrev oE:=@Prod.mk.injEq
abbrev bX:=@absurd
abbrev dd:=@congrArg
abbrev sS:=@decide_eq_false
abbrev jg:=@decide_eq_true
abbrev aQ:=@if_neg
abbrev bA:=@if_pos
abbrev xC:=@of_decide_eq_false
abbrev jf:=@of_decide_eq_true
end Go
set_option linter.unusedVariables false
set_option linter.unusedSimpArgs false
set_option linter.unusedSectionVars false
namespace Go.X
open Go Go.RowKit
abbrev Env:=Nat->Value
def cX(e:Env)(d:Nat)(v:Value):Env:=λi=>bif Nat.beq i d then v else e i
def ku(e:Env):Option Nat->Value->Env
 |some d,v=>cX e d v
 |none,_=>e
def ev(e:Env):Operand->Value
 |.tmp t=>e t
 |.const v=>v
 |.global g=>.pointer (some ⟨g,0,none⟩)
 |.func f=>.func (.func f) #[] #[]
def dh(a:Act):Env:=λi=>a.tmps.getD i undef
def lY(l:List Value):Env:=λi=>l.getD i undef
theorem Vb(e:Env)(d:Nat)(v:Value):cX e d v d=v:=by simp[cX]
theorem Sj(e:Env){d i:Nat}(v:Value)(h:i≠d):cX e d v i=e i:=by
 unfold cX;have:Nat.beq i d=false:=by
  cases hb:Nat.beq i d
  . rfl
  . exact bX (ee hb) h
 rw[this];rfl
theorem tq(a:Act):ev (dh a)=a.eval:=by
 funext x;cases x<;>rfl
theorem vG(a:Act){n:Nat}(hn:a.tmps.size=n){d:Nat}(hd:d<n)(v:Value):dh (a.put (some d) v)=cX (dh a) d v:=by
 funext i;by_cases h:i=d
 . subst h;rw[Vb];simp[dh,Act.put,hn,hd]
 . rw[Sj _ _ h];simp[dh,Act.put,Array.getElem?_setIfInBounds_ne (Ne.symm h)]
theorem vB(a:Act){n:Nat}(hn:a.tmps.size=n){d:Option Nat}(hd:∀k,d=some k->k<n)(v:Value):dh (a.put d v)=ku (dh a) d v:=by
 cases d with
 |none=>rfl
 |some d=>exact vG a hn (hd d rfl) v
theorem qD(a:Act)(d:Option Nat)(v:Value):(a.put d v).tmps.size=a.tmps.size:=by
 cases d<;>simp[Act.put]
theorem sr(a:Act)(d:Option Nat)(v:Value):(a.put d v).defers=a.defers:=by
 cases d<;>simp[Act.put]
def dI(op:Op)(ty:TypeId):Oper:={dst:=none,op:=op,type:=ty,pos:= "",after:=#[],guard:=none}
def upon(P:Program)(R:Value->World->Prop):Result Next->Prop
  |.ok (.value v) w'=>R v w'
  |.ok .skip w'=>R undef w'
  |.ok (.enter f args) w'=>Calls P f args w' λ
      |.returned v,w''=>R v w''
      |_,_=>False
  |.ok (.row row args) w'=>Rows P row args w' R
  |_=>False
def aF(P:Program)(op:Op)(ty:TypeId)(ρ:Operand->Value)(w:World)(R:Value->World->Prop):Prop:= upon P R ((execOp ρ (dI op ty)).run P w)
theorem FN(ρ:Operand->Value)(o:Oper):execOp ρ o=execOp ρ (dI o.op o.type):=by
 obtain⟨dst,op,type,pos,after,guard⟩:=o;rfl
theorem XB{P:Program}{R R':Value->World->Prop}(h:∀v w,R v w->R' v w){r:Result Next}(hr:upon P R r):upon P R' r:=by
 cases r with
 |ok n w'=>
  cases n<;>simp only[upon]at hr⊢<;>first|exact h _ _ hr|exact Calls.mono hr (λe w'' he=>by cases e<;>first|exact h _ _ he|exact he)|exact Rows.mono hr (λ_ _ he=>h _ _ he)
 |halt x w'=>cases x<;>simp only[upon]at hr
theorem aF.mono{P:Program}{op:Op}{ty:TypeId}{ρ:Operand->Value}{w:World}{R R':Value->World->Prop}(h:aF P op ty ρ w R)(hr:∀v w,R v w->R' v w):aF P op ty ρ w R':=
 XB hr h
theorem KE{P:Program}{o:Oper}{a:Act}{w:World}{K:Act->World->Prop}{Q:Exit->Act->World->Prop}{R:Value->World->Prop}
 (h:aF P o.op o.type (ev (dh a)) w R)(hk:∀v w',R v w'->K (a.put o.dst v) w'):o.wp P a w K Q:=by
 unfold Oper.wp;unfold aF at h;rw[FN,<-tq];generalize(execOp (ev (dh a)) (dI o.op o.type)).run P w=r at*;cases r with
 |ok n w'=>
  cases n<;>simp only[upon,Oper.upon]at h⊢<;>
   first
    |exact hk _ _ h
    |exact Calls.mono h (λe w'' he=>by cases e<;>first|exact hk _ _ he|exact he.elim)
    |exact Rows.mono h (λ_ _ he=>hk _ _ he)
    |exact h.elim
 |halt x w'=>cases x<;>simp only[upon]at h
inductive It where
 |code (c:Code)
 |dP (id:Nat)
 |scp
 |back (J:Env->World->Prop)
def Cwp(P:Program)(n:Nat)(c:Code)(Q:Exit->Env->World->Prop)(e:Env)(w:World):Prop:= ∀a:Act,a.tmps.size=n->a.defers=[]->dh a=e->c.wp P (λx a' w'=>a'.tmps.size=n/\a'.defers=[]/\Q x (dh a') w') a w
def jU(P:Program)(n:Nat):List It->(Env->World->Prop)->Exit->Env->World->Prop
 |[],Q,x=>λe w=>(match x with|.normal|.ret=>Q e w|_=>False)
 |.code c::k,Q,x=>(match x with|.normal=>Cwp P n c (jU P n k Q)|x=>jU P n k Q x)
 |.dP id::k,Q,x=>(match x with|.exit j=>(if j=id then jU P n k Q .normal else jU P n k Q (.exit j))|x=>jU P n k Q x)
 |.scp::k,Q,x=>jU P n k Q x
 |.back J::k,Q,x=>(match x with|.normal=>J|x=>jU P n k Q x)
def cO(P:Program)(n:Nat)(k:List It)(Q:Env->World->Prop)(e:Env)(w:World):Prop:=jU P n k Q .normal e w
section
variable {P:Program} {n:Nat} {k:List It} {Q:Env->World->Prop} {e:Env} {w:World}
theorem cO.skip(h:cO P n k Q e w):cO P n (.code .skip::k) Q e w:=
 λ_ h1 h2 h3=>wp_skip ⟨h1,h2,h3▸h⟩
theorem cO.label{l:Nat}(h:cO P n k Q e w):cO P n (.code (.label l)::k) Q e w:=
 λ_ h1 h2 h3=>wp_label ⟨h1,h2,h3▸h⟩
theorem cO.seq{a b:Code}(h:cO P n (.code a::.code b::k) Q e w):cO P n (.code (.seq a b)::k) Q e w:=by
 intro ac h1 h2 h3;refine wp_seq (wp_mono (h ac h1 h2 h3) ?_);rintro x a' w' ⟨g1,g2,g3⟩;cases x with
 |normal=>exact g3 a' g1 g2 rfl
 |_=>exact⟨g1,g2,g3⟩
theorem cO.block{id:Nat}{c:Code}(h:cO P n (.code c::.dP id::k) Q e w):cO P n (.code (.block id c)::k) Q e w:=by
 intro ac h1 h2 h3;refine wp_block (wp_mono (h ac h1 h2 h3) ?_);rintro x a' w' ⟨g1,g2,g3⟩;cases x with
 |exit j=>
  simp only[Exit.inBlock];simp only[jU]at g3;by_cases hj:j=id
  . rw[bA hj]at g3⊢;exact⟨g1,g2,g3⟩
  . rw[aQ hj]at g3⊢;exact⟨g1,g2,g3⟩
 |_=>exact⟨g1,g2,g3⟩
def tB(id:Nat):List It->Option (List It)
 |.dP j::k=>if id=j then some k else tB id k
 |_::k=>tB id k
 |[]=>none
theorem Ww{id:Nat}:∀{k k':List It},tB id k=some k'->∀{e w},cO P n k' Q e w->jU P n k Q (.exit id) e w:=by
 intro k
 induction k with
 |nil=>intro k' h;simp[tB]at h
 |cons x k ih=>
  intro k' h e w hs;cases x with
  |dP j=>
   simp only[tB]at h;simp only[jU];by_cases hj:id=j
   . rw[bA hj]at h⊢;cases h;exact hs
   . rw[aQ hj]at h⊢;exact ih h hs
  |code c=>exact ih h hs
  |scp=>exact ih h hs
  |back J=>exact ih h hs
theorem cO.exit{id:Nat}{k':List It}(hx:tB id k=some k')(h:cO P n k' Q e w):cO P n (.code (.exit id)::k) Q e w:=
 λ_ h1 h2 h3=>wp_exit ⟨h1,h2,by subst h3;exact Ww hx h⟩
theorem TO:∀{k:List It} {e w},Q e w->jU P n k Q .ret e w:=by
 intro k
 induction k with
 |nil=>intro e w h;exact h
 |cons x k ih=>intro e w h;cases x<;>exact ih h
theorem cO.ret(h:Q e w):cO P n (.code .ret::k) Q e w:=
 λ_ h1 h2 h3=>wp_ret ⟨h1,h2,by subst h3;exact TO h⟩
theorem cO.cond{c:Operand}{x y:Code}(b:Bool)(hc:ev e c=.bool b)(ht:b=true->cO P n (.code x::k) Q e w)(hf:b=false->cO P n (.code y::k) Q e w):
 cO P n (.code (.cond c x y)::k) Q e w:=by
 intro a h1 h2 h3;refine wp_cond_split (t:=b) (by rw[<-tq,h3];exact hc) (λh=>ht h a h1 h2 h3) (λh=>hf h a h1 h2 h3)
theorem cO.V3{c:Operand}{x y:Code}(p:Prop)[Decidable p](hc:ev e c=.bool (decide p))(ht:p->cO P n (.code x::k) Q e w)(hf:¬p->cO P n (.code y::k) Q e w):
 cO P n (.code (.cond c x y)::k) Q e w:=
 cO.cond _ hc (λh=>ht (jf h)) (λh=>hf (xC h))
theorem cO.To{c:Operand}{x y:Code}{b:Bool}(hc:ev e c=.bool b)(hb:b=true)(ht:cO P n (.code x::k) Q e w):cO P n (.code (.cond c x y)::k) Q e w:=
 cO.cond _ hc (λ_=>ht) (λh=>by rw[hb]at h;cases h)
theorem cO.Nf{c:Operand}{x y:Code}{b:Bool}(hc:ev e c=.bool b)(hb:b=false)(hf:cO P n (.code y::k) Q e w):cO P n (.code (.cond c x y)::k) Q e w:=
 cO.cond _ hc (λh=>by rw[hb]at h;cases h) (λ_=>hf)
theorem WQ{Q':Env->World->Prop}(hq:∀e w,Q e w->Q' e w):∀{k:List It} {x:Exit} {e w},jU P n k Q x e w->jU P n k Q' x e w:=by
 intro k
 induction k with
 |nil=>intro x e w h;cases x<;>first|exact hq _ _ h|exact h
 |cons y k ih=>
  intro x e w h;cases y with
  |code c=>
   cases x with
   |normal=>exact λa h1 h2 h3=>wp_mono (h a h1 h2 h3) λx a' w' g=>⟨g.1,g.2.1,ih g.2.2⟩
   |_=>exact ih h
  |dP j=>
   cases x with
   |exit i=>
    simp only[jU]at h⊢;by_cases hj:i=j
    . rw[bA hj]at h⊢;exact ih h
    . rw[aQ hj]at h⊢;exact ih h
   |_=>exact ih h
  |scp=>exact ih h
  |back J=>cases x<;>first|exact h|exact ih h
theorem cO.mono{Q':Env->World->Prop}(h:cO P n k Q e w)(hq:∀e w,Q e w->Q' e w):cO P n k Q' e w:=WQ hq h
def mR(l:List Oper)(j:Nat):Option Nat:=(l[j]?).bind (·.dst)
def gy(l:List Oper)(e:Env)(j:Nat)(b:Bool):Bool:= match mR l j with
 |some d=>(match e d with|.bool b'=>b'==b|_=>false)
 |none=>false
def jw(l:List Oper)(o:Oper)(e:Env):Bool:= match o.guard with
 |none=>true
 |some (j,b)=>gy l e j b
def nm(n:Nat):List Oper->Bool
 |[]=>true
 |o::r=>(match o.dst with|some d=>Nat.blt d n|none=>true)&&nm n r
def Rl(P:Program)(all:List Oper):List Oper->(Env->World->Prop)->Env->World->Prop
 |[],K=>K
 |o::r,K=>λe w=>match jw all o e with
  |true=>aF P o.op o.type (ev e) w λv w'=>Rl P all r K (ku e o.dst v) w'
  |false=>Rl P all r K (ku e o.dst undef) w
theorem Ec{l:List Oper}{a:Act}(hok:∀o,o∈l->∀d,o.dst=some d->d<a.tmps.size)(o:Oper):Region.wanted o (yielded l.toArray a.tmps)=jw l o (dh a):=by
 unfold Region.wanted jw;cases hg:o.guard with
 |none=>rfl
 |some p=>
  obtain⟨j,b⟩:=p;simp only[yielded,gy,mR,xi];cases hd:(l[j]?).bind (·.dst)with
  |none=>simp
  |some d=>
   have hlt:d<a.tmps.size:=by
    cases ho:l[j]?with
    |none=>rw[ho]at hd;cases hd
    |some oj=>rw[ho]at hd;exact hok oj (oB ho) d hd
   simp only[Iv,dh,PB,Iw hlt,DJ];generalize a.tmps[d]=v;cases v<;>simp
theorem Da{l:List Oper}(h:nm n l=true):∀o,o∈l->∀d,o.dst=some d->d<n:=by
 induction l with
 |nil=>intro o ho;cases ho
 |cons x r ih=>
  simp only[nm,gz]at h;intro o ho d hd;cases ho with
  |head=>have h1:=h.1;rw[hd]at h1;exact(by simpa using h1)
  |tail _ hm=>exact ih h.2 o hm d hd
theorem Sd{all:List Oper}(hall:∀o,o∈all->∀d,o.dst=some d->d<n){K:Env->World->Prop}{Q':Exit->Act->World->Prop}
 (hK:∀a w,a.tmps.size=n->a.defers=[]->K (dh a) w->Q' .normal a w):
 ∀(l:List Oper),(∀o,o∈l->o∈all)->∀(a:Act) (w:World),a.tmps.size=n->a.defers=[]->Rl P all l K (dh a) w->wpList P all.toArray Q' l a w:=by
 intro l
 induction l with
 |nil=>intro _ a w h1 h2 h;exact hK a w h1 h2 h
 |cons o r ih=>
  intro hsub a w h1 h2 h;have hin:=hsub o cU;have hd:∀d,o.dst=some d->d<n:=hall o hin;have hall':∀o,o∈all->∀d,o.dst=some d->d<a.tmps.size:=by rw[h1];exact hall
  refine wpList_step λK' hK'=>?_;rw[Ec hall' o];simp only[Rl]at h;cases hw:jw all o (dh a)with
  |true=>
   rw[hw]at h;rw[bA rfl];refine KE h λv w' hv=>hK' _ _ ?_;refine ih (λo ho=>hsub o (cP _ ho)) _ _ (by rw[qD];exact h1) (by rw[sr];exact h2) ?_;rw[vB a h1 hd];exact hv
  |false=>
   rw[hw]at h;rw[aQ (by simp)];refine hK' _ _ ?_;refine ih (λo ho=>hsub o (cP _ ho)) _ _ (by rw[qD];exact h1) (by rw[sr];exact h2) ?_;rw[vB a h1 hd];exact h
theorem cO.region{id:Nat}{l:List Oper}(hok:nm n l=true)(h:Rl P l l (cO P n k Q) e w):cO P n (.code (.region id l.toArray false)::k) Q e w:=by
 intro a h1 h2 h3;subst h3;refine wp_region_lit (Sd (Da hok) (K:=cO P n k Q) ?_ l (λ_ h=>h) a w h1 h2 h);exact λa' w' g1 g2 g3=>⟨g1,g2,g3⟩
variable {all r:List Oper} {K:Env->World->Prop}
theorem Rl.nil(h:K e w):Rl P all [] K e w:=h
theorem Rl.op{d:Nat}{op:Op}{ty:TypeId}{pos:String}{after:Array Edge}(h:aF P op ty (ev e) w λv w'=>Rl P all r K (cX e d v) w'):
 Rl P all ({dst:=some d,op:=op,type:=ty,pos:=pos,after:=after,guard:=none}::r) K e w:=h
end
theorem US{P:Program}{f:FuncId}{fn:Func}{c:Code}{l:List Value}{w:World}{R:Ending->World->Prop}
 (hf:P.funcs[f]?=some fn)(hb:fn.body=some c)(hl:l.length<=fn.ntmps)
 (h:cO P fn.ntmps [.code c] (λe w'=>∀tmps:Array Value,(∀i,tmps.getD i undef=e i)->∃v,(results fn tmps).run P w'=.ok v w'/\R (.returned v) w') (lY l) w):
 Calls P f l.toArray w R:=by
 refine calls_of_wp hf hb ?_;refine wp_mono (h {tmps:=l.toArray++Array.replicate (fn.ntmps-l.toArray.size) undef,defers:=[]} ?_ rfl ?_) ?_
 . simp;omega
 . funext i;simp only[dh,lY,PB,cL];by_cases hi:i<l.length
   . rw[XO (by simpa using hi)];simp
   . rw[XP (by simpa using hi),gm (by omega)];by_cases hj:i-l.toArray.size<fn.ntmps-l.toArray.size
     . rw[Iw (by simpa using hj)];simp
     . rw[DK (by simpa using hj)]
 . rintro x a w' ⟨h1,h2,h3⟩;cases x<;>first|exact h3.elim|skip
   all_goals
    obtain⟨v,hv,hR⟩:=h3 a.tmps (λ_=>rfl);exact⟨h2,v,hv,hR⟩
open Go Go.RowKit
abbrev Hp:=Nat->Option Obj
def Le(H H':Hp):Prop:=∀b o,H b=some o->H' b=some o
theorem Le.refl(H:Hp):Le H H:=λ_ _ h=>h
theorem Le.trans{H H' H'':Hp}(h:Le H H')(h':Le H' H''):Le H H'':=λb o hb=>h' b o (h b o hb)
def view(A:List (Option Nat))(w:World):Hp:=λb=>if some b∈A then none else w.heap[b]?
theorem A7{A:List (Option Nat)}{w:World}{b:Nat}{o:Obj}(h:view A w b=some o):w.heap[b]?=some o:=by
 unfold view at h;split at h
 . cases h
 . exact h
theorem wZ{A:List (Option Nat)}{w:World}{b:Nat}{o:Obj}(h:w.heap[b]?=some o)(hn:some b∉A):view A w b=some o:=by
 unfold view;rw[aQ hn];exact h
def mw(H:Hp)(b o:Nat):Option Value:= match H b with
 |some (.cells c _ _)=>c[o]?
 |_=>none
theorem yf{H H':Hp}(h:Le H H'){b o:Nat}{v:Value}(hc:mw H b o=some v):mw H' b o=some v:=by
 unfold mw at*;cases hb:H b with
 |none=>rw[hb]at hc;cases hc
 |some x=>rw[hb]at hc;rw[h b x hb];exact hc
theorem zM{A:List (Option Nat)}{w:World}{b o:Nat}{v:Value}(h:mw (view A w) b o=some v):w.cell? ⟨b,o,none⟩=some v:=by
 unfold mw at h;cases hb:view A w b with
 |none=>rw[hb]at h;cases h
 |some x=>
  rw[hb]at h;unfold World.cell?;rw[A7 hb];cases x<;>first|exact h|cases h
def At(H:Hp)(b o:Nat)(vs:List Value):Prop:=∀i,i<vs.length->mw H b (o+i)=vs[i]?
theorem At.mono{H H':Hp}(h:Le H H'){b o:Nat}{vs:List Value}(ha:At H b o vs):At H' b o vs:=by
 intro i hi;have:=ha i hi;rw[cy hi]at this⊢;exact yf h this
theorem At.nil{H:Hp}{b o:Nat}:At H b o []:=λi hi=>by simp at hi
theorem At.get{H:Hp}{b o:Nat}{vs:List Value}(ha:At H b o vs)(i:Nat){v:Value}(hv:vs[i]?=some v):mw H b (o+i)=some v:=by
 have hi:i<vs.length:=by
  rcases cG i vs.length with h|h
  . exact h
  . rw[gm h]at hv;cases hv
 rw[ha i hi,hv]
theorem At.part{H:Hp}{b o:Nat}{vs us:List Value}(ha:At H b o vs)(k:Nat)(h:(vs.drop k).take us.length=us):At H b (o+k) us:=by
 intro i hi;have h1:us[i]?=vs[k+i]?:=by
  conv=>lhs;rw[<-h]
  rw[xj,bA hi,sH]
 have h2:k+i<vs.length:=by
  rcases cG (k+i) vs.length with h3|h3
  . exact h3
  . rw[gm h3,cy hi]at h1;cases h1
 rw[h1,<-ha (k+i) h2,qO]
theorem At.append{H:Hp}{b o:Nat}{vs us:List Value}(ha:At H b o vs)(hb:At H b (o+vs.length) us):At H b o (vs++us):=by
 intro i hi;by_cases h:i<vs.length
 . rw[kW h];exact ha i h
 . rw[pJ (by omega)];have:=hb (i-vs.length) (by simp at hi;omega);rw[<-this];congr 1;omega
def Sl{α:Type}(sz:Nat)(R:Hp->List Value->α->Prop)(H:Hp)(v:Value)(xs:List α):Prop:=((∃oa,v=.slice oa 0 0)/\xs=[])\/ ∃b o cap,v=.slice (some ⟨b,o,none⟩) xs.length cap/\xs.length<=cap/\∀i x,xs[i]?=some x->∃vs,vs.length=sz/\At H b (o+i*sz) vs/\R H vs x
theorem Sl.mono{α:Type}{sz:Nat}{R:Hp->List Value->α->Prop}(hR:∀H H' vs x,Le H H'->R H vs x->R H' vs x){H H':Hp}(h:Le H H'){v:Value}{xs:List α}(hs:Sl sz R H v xs):Sl sz R H' v xs:=by
 rcases hs with hs|⟨b,o,cap,hv,hc,hx⟩
 . exact .inl hs
 . refine .inr ⟨b,o,cap,hv,hc,λi x hi=>?_⟩;obtain⟨vs,h1,h2,h3⟩:=hx i x hi;exact⟨vs,h1,h2.mono h,hR _ _ _ _ h h3⟩
def Ext(w w':World):Prop:=Below w.heap.size w w'
theorem Ext.refl(w:World):Ext w w:=Below.refl _ _
theorem Ext.drawn(w:World)(n:Nat):Ext w {w with drawn:=n}:=⟨rfl,rfl,rfl,bQ _,λ_ _=>rfl⟩
inductive dE where
 |cells (cs:List Value)
 |map (es:List (Value×Value))
def dR(w:World):Option Nat->dE->Prop
 |none,.cells cs=>cs=[]
 |none,.map _=>False
 |some b,.cells cs=>∃t lo hi,w.heap[b]?=some (.cells cs.toArray t (lo,hi))/\lo<=hi/\∀i,i<cs.length->¬(lo<=i/\i<hi)
 |some b,.map es=>∃(ents:Array MapEntry) (clock:Nat),w.heap[b]?=some (.map ents clock)/\ents.toList.map (λx=>(x.key,x.val))=es/\(∀x∈ents.toList,x.born<clock)/\(ents.toList.map (·.born)).Nodup
def iv(w:World):List (Option Nat)->List dE->Prop
 |[],[]=>True
 |b::O,c::C=>dR w b c/\iv w O C
 |_,_=>False
def Bok(B:List (Option Nat))(w:World):Prop:=∀b,some b∈B->b<w.heap.size
def jM:List (Option Nat)->Prop
 |[]=>True
 |none::O=>jM O
 |some b::O=>some b∉O/\jM O
structure Loc (X B:List (Option Nat))(w0 w:World)(O:List (Option Nat))(C:List dE):Prop where
 os:w.os=w0.os
 tape:w.tape=w0.tape
 output:w.output=w0.output
 size:w0.heap.size<=w.heap.size
 keep:∀k,k<w0.heap.size->some k∉X->w.heap[k]?=w0.heap[k]?
 own:iv w O C
 fresh:∀b,some b∈O->some b∈X\/w0.heap.size<=b
 iq:jM O
 apart:∀b,some b∈X->some b∉B
 vv:Bok B w0
theorem dR.lt{w:World}{b:Nat}{c:dE}(h:dR w (some b) c):b<w.heap.size:=by
 have:∃o,w.heap[b]?=some o:=by
  cases c with
  |cells cs=>obtain⟨t,lo,hi,h1,_⟩:=h;exact⟨_,h1⟩
  |map es=>obtain⟨en,cl,h1,_⟩:=h;exact⟨_,h1⟩
 obtain⟨o,ho⟩:=this;rcases cG b w.heap.size with h|h
 . exact h
 . rw[DK h]at ho;cases ho
theorem dR.same{w w':World}{b:Option Nat}{c:dE}(h:dR w b c)(hs:∀k,b=some k->w'.heap[k]?=w.heap[k]?):dR w' b c:=by
 cases b with
 |none=>cases c<;>exact h
 |some b=>
  cases c with
  |cells cs=>obtain⟨t,lo,hi,h1,h2⟩:=h;exact⟨t,lo,hi,by rw[hs b rfl];exact h1,h2⟩
  |map es=>obtain⟨en,cl,h1,h2⟩:=h;exact⟨en,cl,by rw[hs b rfl];exact h1,h2⟩
theorem iv.same{w w':World}:∀{O:List (Option Nat)} {C:List dE},iv w O C->(∀k,some k∈O->w'.heap[k]?=w.heap[k]?)->iv w' O C
 |[],[],h,_=>h
 |b::O,c::C,h,hs=>⟨h.1.same λk hk=>hs k (by rw[hk];exact cU),h.2.same λk hk=>hs k (cP _ hk)⟩
 |[],_::_,h,_=>h.elim
 |_::_,[],h,_=>h.elim
theorem iv.lt{w:World}:∀{O:List (Option Nat)} {C:List dE},iv w O C->∀k,some k∈O->k<w.heap.size
 |[],[],_,_,hk=>by cases hk
 |b::O,c::C,h,k,hk=>by
  cases hk with
  |head=>exact h.1.lt
  |tail _ hm=>exact h.2.lt k hm
 |[],_::_,h,_,_=>h.elim
 |_::_,[],h,_,_=>h.elim
theorem iv.at{w:World}:∀{O:List (Option Nat)} {C:List dE},iv w O C->∀(i:Nat) {b c},O[i]?=some b->C[i]?=some c->dR w b c
 |[],[],_,i,b,c,hb,_=>by simp at hb
 |b::O,c::C,h,0,b',c',hb,hc=>by
  simp at hb hc;subst hb;subst hc;exact h.1
 |b::O,c::C,h,i+1,b',c',hb,hc=>h.2.at i (by simpa using hb) (by simpa using hc)
 |[],_::_,h,_,_,_,_,_=>h.elim
 |_::_,[],h,_,_,_,_,_=>h.elim
section
variable {X B:List (Option Nat)} {w0 w w':World} {O O':List (Option Nat)} {C C':List dE}
theorem Loc.ext(hL:Loc X B w0 w O C)(h:Ext w w'):Loc X B w0 w' O C:=
 ⟨h.os.trans hL.os,h.tape.trans hL.tape,h.output.trans hL.output,bV hL.size h.size,
  λk hk hx=>(h.block k (DL hk hL.size)).trans (hL.keep k hk hx),
  hL.own.same λk hk=>h.block k (hL.own.lt k hk),hL.fresh,hL.iq,hL.apart,hL.vv⟩
theorem Loc.at(hL:Loc X B w0 w O C)(i:Nat){b:Option Nat}{c:dE}(hb:O[i]?=some b)(hc:C[i]?=some c):dR w b c:=hL.own.at i hb hc
structure Step (O O':List (Option Nat))(w w':World):Prop where
 same:∀k,k<w.heap.size->some k∉O->w'.heap[k]?=w.heap[k]?
 grow:∀b,some b∈O'->some b∈O\/w.heap.size<=b
theorem Step.ext(h:Ext w w'):Step O O w w':=⟨λk hk _=>h.block k hk,λ_ h=>.inl h⟩
theorem Step.refl:Step O O w w:=⟨λ_ _ _=>rfl,λ_ h=>.inl h⟩
theorem Loc.alloc(hL:Loc X B w0 w O C){o:Obj}{c:dE}(hc:dR (w.alloc o) (some w.heap.size) c):
 Loc X B w0 (w.alloc o) (some w.heap.size::O) (c::C)/\Step O (some w.heap.size::O) w (w.alloc o):=by
 have hsame:∀k,k<w.heap.size->(w.alloc o).heap[k]?=w.heap[k]?:=λk hk=>Below.heap_alloc w o k hk;have hsz:w.heap.size<=(w.alloc o).heap.size:=by simp
 refine⟨⟨hL.os,hL.tape,hL.output,bV hL.size hsz,λk hk hx=>(hsame k (DL hk hL.size)).trans (hL.keep k hk hx),
  ⟨hc,hL.own.same λk hk=>hsame k (hL.own.lt k hk)⟩,?_,⟨λh=>?_,hL.iq⟩,hL.apart,hL.vv⟩,⟨λk hk _=>hsame k hk,?_⟩⟩
 . intro b hb;cases hb with
   |head=>exact .inr hL.size
   |tail _ hm=>exact hL.fresh b hm
 . exact bX (hL.own.lt _ h) (xk _)
 . intro b hb;cases hb with
   |head=>exact .inr (bQ _)
   |tail _ hm=>exact .inl hm
theorem iv.set{w w':World}:∀{O:List (Option Nat)} {C:List dE},iv w O C->jM O->∀(i:Nat) {b:Nat} {c':dE},O[i]?=some (some b)->dR w' (some b) c'->
 (∀k,k<w.heap.size->k≠b->w'.heap[k]?=w.heap[k]?)->iv w' O (C.set i c')
 |[],[],_,_,i,b,c',hb,_,_=>by simp at hb
 |x::O,c::C,h,hd,0,b,c',hb,hc,hs=>by
  simp at hb;subst hb;refine⟨hc,h.2.same λk hk=>hs k (h.2.lt k hk) ?_⟩;rintro rfl;exact hd.1 hk
 |x::O,c::C,h,hd,i+1,b,c',hb,hc,hs=>by
  have hb':O[i]?=some (some b):=by simpa using hb
  have hd':jM O:=by cases x with|none=>exact hd|some y=>exact hd.2
  refine⟨h.1.same λk hk=>hs k (by subst hk;exact h.1.lt) ?_,h.2.set hd' i hb' hc hs⟩;subst hk;rintro rfl;exact hd.1 (oB hb')
 |[],_::_,h,_,_,_,_,_,_,_=>h.elim
 |_::_,[],h,_,_,_,_,_,_,_=>h.elim
theorem Loc.put(hL:Loc X B w0 w O C)(i:Nat){b:Nat}{c':dE}(hb:O[i]?=some (some b))(hc:dR w' (some b) c')
 (hs:∀k,k≠b->w'.heap[k]?=w.heap[k]?)(hsz:w'.heap.size=w.heap.size)(h1:w'.os=w.os)(h2:w'.tape=w.tape)(h3:w'.output=w.output):
 Loc X B w0 w' O (C.set i c')/\Step O O w w':=by
 have hin:some b∈O:=oB hb;refine⟨⟨h1.trans hL.os,h2.trans hL.tape,h3.trans hL.output,by rw[hsz];exact hL.size,λk hk hx=>?_,hL.own.set hL.iq i hb hc λk _ hk=>hs k hk,hL.fresh,hL.iq,hL.apart,hL.vv⟩,⟨λk hk hn=>hs k ?_,λ_ h=>.inl h⟩⟩
 . rw[hs k]
   . exact hL.keep k hk hx
   . rintro rfl;rcases hL.fresh _ hin with h|h
     . exact hx h
     . omega
 . rintro rfl;exact hn hin
theorem heap_setCell_same{w:World}{b o:Nat}{v:Value}{c:Array Value}{t:TypeId}{fz:Nat×Nat}(h:w.heap[b]?=some (.cells c t fz)):
 (w.setCell ⟨b,o,none⟩ v).heap[b]?=some (.cells (c.setIfInBounds o v) t fz):=by
 simp[World.setCell,PC,h]
theorem jM.sub{O:List (Option Nat)}:∀(i:Nat),jM O->jM (O.eraseIdx i):=by
 induction O with
 |nil=>intro i h;simpa using h
 |cons x O ih=>
  intro i h;cases i with
  |zero=>cases x with|none=>exact h|some y=>exact h.2
  |succ i=>
   simp only[List.eraseIdx_cons_succ];cases x with
   |none=>exact ih i h
   |some y=>exact⟨λhm=>h.1 (PD hm),ih i h.2⟩
theorem iv.drop{w:World}:∀{O:List (Option Nat)} {C:List dE} (i:Nat),iv w O C->iv w (O.eraseIdx i) (C.eraseIdx i)
 |[],[],_,h=>h
 |_::_,_::_,0,h=>h.2
 |_::_,_::_,i+1,h=>⟨h.1,h.2.drop i⟩
 |[],_::_,_,h=>h.elim
 |_::_,[],_,h=>h.elim
theorem Loc.drop(hL:Loc X B w0 w O C)(i:Nat):Loc X B w0 w (O.eraseIdx i) (C.eraseIdx i)/\Step O (O.eraseIdx i) w w:=
 ⟨⟨hL.os,hL.tape,hL.output,hL.size,hL.keep,hL.own.drop i,λb hb=>hL.fresh b (PD hb),hL.iq.sub i,hL.apart,hL.vv⟩,
  ⟨λ_ _ _=>rfl,λ_ hb=>.inl (PD hb)⟩⟩
end
def Ret(w:World)(Φ:Value->World->Prop)(e:Ending)(w':World):Prop:=∃v,e=.returned v/\Ext w w'/\Φ v w'
open Go Go.RowKit
theorem Nn{z z':Int}(h:z=z')(h1:-9223372036854775808<=z')(h2:z'<=9223372036854775807):IntKind.i64.wrap z=z':=by
 subst h;simp[IntKind.wrap,IntKind.signed,IntKind.bits];split<;>omega
section
variable {P:Program} {ty:TypeId} {ρ:Operand->Value} {w:World} {R:Value->World->Prop}
theorem aF.move{x:Operand}{v:Value}(hx:ρ x=v)(h:R v w):aF P (.move x) ty ρ w R:=by subst hx;exact h
theorem aF.assign{x:Operand}{v:Value}(hx:ρ x=v)(h:R v w):aF P (.assign x) ty ρ w R:=by subst hx;exact h
theorem aF.pick{c a b:Operand}{t:Bool}{v:Value}(hc:ρ c=.bool t)(hv:(if t=true then ρ a else ρ b)=v)(h:R v w):aF P (.pick c a b) ty ρ w R:=by
 subst hv;cases t<;>simp[aF,dI,execOp,hc,asBool,upon]at h⊢<;>exact h
theorem aF.WR{c a b:Operand}{t:Bool}{v:Value}(hc:ρ c=.bool t)(ht:t=true)(hv:ρ a=v)(h:R v w):aF P (.pick c a b) ty ρ w R:=
 aF.pick hc (by rw[bA ht];exact hv) h
theorem aF.T7{c a b:Operand}{t:Bool}{v:Value}(hc:ρ c=.bool t)(ht:t=false)(hv:ρ b=v)(h:R v w):aF P (.pick c a b) ty ρ w R:=
 aF.pick hc (by rw[aQ (by rw[ht];simp)];exact hv) h
theorem aF.kq{op:BinOp}{t u:TypeId}{a b:Operand}{k k':IntKind}{x y:Int}{v:Value}(hx:ρ a=.int k x)(hy:ρ b=.int k' y)(hr:(binOp op t (.int k x) (.int k' y)).run P w=.ok v w)(h:R v w):
 aF P (.binOp op t a b u) ty ρ w R:=by
 have hg:(eqGuard op t a b (.int k x) (.int k' y)).run P w=.ok () w:=by
  unfold eqGuard;cases op<;>simp
 simp only[aF,dI,execOp,hx,hy];simp[hg,hr,upon];exact h
theorem aF.add{t u:TypeId}{a b:Operand}{k:IntKind}{x y z:Int}(hx:ρ a=.int k x)(hy:ρ b=.int k y)(hz:k.wrap (x+y)=z)(h:R (.int k z) w):aF P (.binOp .add t a b u) ty ρ w R:=
 aF.kq hx hy (by subst hz;simp[binOp,Op.intArith]) h
theorem aF.sub{t u:TypeId}{a b:Operand}{k:IntKind}{x y z:Int}(hx:ρ a=.int k x)(hy:ρ b=.int k y)(hz:k.wrap (x-y)=z)(h:R (.int k z) w):aF P (.binOp .sub t a b u) ty ρ w R:=
 aF.kq hx hy (by subst hz;simp[binOp,Op.intArith]) h
theorem aF.mul{t u:TypeId}{a b:Operand}{k:IntKind}{x y z:Int}(hx:ρ a=.int k x)(hy:ρ b=.int k y)(hz:k.wrap (x*y)=z)(h:R (.int k z) w):aF P (.binOp .mul t a b u) ty ρ w R:=
 aF.kq hx hy (by subst hz;simp[binOp,Op.intArith]) h
theorem aF.quoI{t u:TypeId}{a b:Operand}{k:IntKind}{x y z:Int}(hx:ρ a=.int k x)(hy:ρ b=.int k y)(h0:¬y=0)(hz:k.wrap (x.tdiv y)=z)(h:R (.int k z) w):aF P (.binOp .quo t a b u) ty ρ w R:=by
 refine aF.kq hx hy ?_ h;subst hz;simp only[binOp,Op.intDiv,h0,if_false,ne_eq,not_true_eq_false];rfl
theorem aF.remI{t u:TypeId}{a b:Operand}{k:IntKind}{x y:Int}(hx:ρ a=.int k x)(hy:ρ b=.int k y)(h0:¬y=0)(h:R (.int k (x.tmod y)) w):aF P (.binOp .rem t a b u) ty ρ w R:=by
 refine aF.kq hx hy ?_ h;simp only[binOp,Op.intDiv,h0,if_false,ne_eq,not_true_eq_false];rfl
theorem C7(n m:Nat):BitVec.ofInt n (m:Int)=BitVec.ofNat n m:=by
 apply BitVec.eq_of_toNat_eq;simp[BitVec.toNat_ofInt]
theorem JZ{k:IntKind}{z x y:Nat}(hx:k.wrap (x:Int)=(x:Int))(hy:k.wrap (y:Int)=(y:Int))(hz:z<2^k.bits)(hs:k.signed=true->z<2^(k.bits-1)):k.wrap (z:Int)=(z:Int):=by
 cases k<;>simp[IntKind.wrap,IntKind.signed,IntKind.bits]at hz hs⊢<;>omega
theorem Bh{k:IntKind}{x:Nat}(hx:k.wrap (x:Int)=(x:Int)):x<2^k.bits/\(k.signed=true->x<2^(k.bits-1)):=by
 cases k<;>simp[IntKind.wrap,IntKind.signed,IntKind.bits]at hx⊢<;>omega
theorem AW{p q:Prop}[Decidable p][Decidable q](h:p↔q):(decide p)=(decide q):=by simp[h]
theorem aF.lss{t u:TypeId}{a b:Operand}{k:IntKind}{x y:Int}(p:Prop)[Decidable p](hx:ρ a=.int k x)(hy:ρ b=.int k y)(hp:x<y↔p)(h:R (.bool (decide p)) w):aF P (.binOp .lss t a b u) ty ρ w R:=
 aF.kq hx hy (by simp[binOp,Op.intCmp,hp]) h
theorem aF.leq{t u:TypeId}{a b:Operand}{k:IntKind}{x y:Int}(p:Prop)[Decidable p](hx:ρ a=.int k x)(hy:ρ b=.int k y)(hp:x<=y↔p)(h:R (.bool (decide p)) w):aF P (.binOp .leq t a b u) ty ρ w R:=
 aF.kq hx hy (by simp[binOp,Op.intCmp,hp]) h
theorem aF.gtr{t u:TypeId}{a b:Operand}{k:IntKind}{x y:Int}(p:Prop)[Decidable p](hx:ρ a=.int k x)(hy:ρ b=.int k y)(hp:x>y↔p)(h:R (.bool (decide p)) w):aF P (.binOp .gtr t a b u) ty ρ w R:=
 aF.kq hx hy (by have:decide (y<x)=decide p:=AW hp;simp[binOp,Op.intCmp,this]) h
theorem aF.geq{t u:TypeId}{a b:Operand}{k:IntKind}{x y:Int}(p:Prop)[Decidable p](hx:ρ a=.int k x)(hy:ρ b=.int k y)(hp:x≥y↔p)(h:R (.bool (decide p)) w):aF P (.binOp .geq t a b u) ty ρ w R:=
 aF.kq hx hy (by have:decide (y<=x)=decide p:=AW hp;simp[binOp,Op.intCmp,this]) h
theorem aF.eql{t u:TypeId}{a b:Operand}{k:IntKind}{x y:Int}(p:Prop)[Decidable p](hx:ρ a=.int k x)(hy:ρ b=.int k y)(hp:x=y↔p)(h:R (.bool (decide p)) w):aF P (.binOp .eql t a b u) ty ρ w R:=
  aF.kq hx hy (by have : (x == y) = decide p := by rw [<- AW hp]; rfl
                  simp[binOp,Op.intCmp,this]) h
theorem aF.neq{t u:TypeId}{a b:Operand}{k:IntKind}{x y:Int}(p:Prop)[Decidable p](hx:ρ a=.int k x)(hy:ρ b=.int k y)(hp:x≠y↔p)(h:R (.bool (decide p)) w):aF P (.binOp .neq t a b u) ty ρ w R:=
  aF.kq hx hy (by have : (x != y) = decide p := by rw [<- AW hp]; simp [bne, BEq.beq]
                  simp[binOp,Op.intCmp,this]) h
theorem run_equalIn_bool(d:Nat){t:TypeId}(ht:P.underlying t=some .bool)(x y:Bool):(Op.equalIn (d+1) t (.bool x) (.bool y)).run P w=.ok (x==y) w:=by
 simp[Op.equalIn,run_underlying ht]
theorem aF.UG{t u:TypeId}{a b:Operand}{x y:Bool}(ht:P.underlying t=some .bool)(hx:ρ a=.bool x)(hy:ρ b=.bool y)(h:R (.bool (x==y)) w):aF P (.binOp .eql t a b u) ty ρ w R:=by
 have hr:(Op.equal t (.bool x) (.bool y)).run P w=.ok (x==y) w:=run_equalIn_bool 9999 ht x y;simp only[aF,dI,execOp,hx,hy];simp only[binOp,eqGuard];simp[hr,upon];exact h
theorem aF.Uk{t u:TypeId}{a b:Operand}{x y:Bool}(ht:P.underlying t=some .bool)(hx:ρ a=.bool x)(hy:ρ b=.bool y)(h:R (.bool (!(x==y))) w):aF P (.binOp .neq t a b u) ty ρ w R:=by
 have hr:(Op.equal t (.bool x) (.bool y)).run P w=.ok (x==y) w:=run_equalIn_bool 9999 ht x y;simp only[aF,dI,execOp,hx,hy];simp only[binOp,eqGuard];simp[hr,upon];exact h
theorem aF.not{t:TypeId}{a:Operand}{x:Bool}(hx:ρ a=.bool x)(h:R (.bool (!x)) w):aF P (.unOp .not t a) ty ρ w R:=by
 simp[aF,dI,execOp,hx,Op.unary,upon];exact h
theorem aF.neg{t:TypeId}{a:Operand}{k:IntKind}{x z:Int}(hx:ρ a=.int k x)(hz:k.wrap (0-x)=z)(h:R (.int k z) w):aF P (.unOp .neg t a) ty ρ w R:=by
 subst hz;simp[aF,dI,execOp,hx,Op.unary,Op.intArith,upon]at h⊢;exact h
theorem aF.S5{s t:TypeId}{a:Operand}{k k':IntKind}{x z:Int}{d:TypeDesc}(hs:P.underlying s=some d)(ht:P.underlying t=some (.int k'))(hx:ρ a=.int k x)(hz:k'.wrap x=z)(h:R (.int k' z) w):aF P (.convert s t a) ty ρ w R:=by
 subst hz;simp only[aF,dI,execOp,hx];simp[convert,run_underlying hs,run_underlying ht,Conv.intToInt,upon];exact h
theorem aF.extract{a:Operand}{vs:List Value}{i:Nat}{v:Value}(ha:ρ a=.tuple vs.toArray)(hv:vs[i]?=some v)(h:R v w):aF P (.extract a i) ty ρ w R:=by
 simp[aF,dI,execOp,ha,Instr.extract,hv,upon];exact h
end
open Go Go.RowKit
def TI(P:Program)(t:TypeId)(sz by':Nat)(z:Value):Prop:=∃i,P.info? t=some i/\i.size=sz/\i.bytes=by'/\i.zero=some z
theorem TI.mk{P:Program}{t:TypeId}{sz b:Nat}{z:Value}(h:(P.info? t).map (λi=>(i.zero,i.size,i.bytes))=some (some z,sz,b)):TI P t sz b z:=by
 cases hi:P.info? t with
 |none=>rw[hi]at h;simp at h
 |some i=>rw[hi]at h;simp at h;exact⟨i,hi▸rfl,h.2.1,h.2.2,h.1⟩
def js:TypeDesc->Bool
 |.struct _|.array _ _=>true
 |_=>false
def Enters(P:Program)(f:FuncId):Prop:=∃fn,P.funcs[f]?=some fn/\(fn.name== "runtime.NumGoroutine")=false/\fn.body.isNone=false
def one(v:Value):Bool:=v.oneCell'
def fK:List Value->Bool
 |[]=>true
 |v::r=>one v&&fK r
theorem FP{l:List Value}(h:fK l=true):∀v∈l,v.oneCell'=true:=by
 induction l with
 |nil=>intro v hv;cases hv
 |cons x r ih=>
  simp only[fK,gz]at h;intro v hv;cases hv with
  |head=>exact h.1
  |tail _ hm=>exact ih h.2 v hm
theorem add_plain(b o n:Nat):(⟨b,o,none⟩:Addr).add n=⟨b,o+n,none⟩:=by
 unfold Addr.add;split
 . subst_vars;rfl
 . rfl
def putAt(cs:List Value)(o:Nat):List Value->List Value
 |[]=>cs
 |v::r=>putAt (cs.set o v) (o+1) r
theorem Gz:∀(vs cs:List Value) (o:Nat),(putAt cs o vs).length=cs.length
 |[],_,_=>rfl
 |v::r,cs,o=>by simp[putAt,Gz r]
theorem N4:∀(vs cs:List Value) (o i:Nat),o+vs.length<=cs.length->(putAt cs o vs)[i]?=if o<=i/\i<o+vs.length then vs[i-o]?else cs[i]?
 |[],cs,o,i,_=>by simp[putAt];intro h1 h2;omega
 |v::r,cs,o,i,h=>by
  simp only[putAt,cN]at h⊢;rw[N4 r _ _ _ (by simp;omega)];by_cases h1:i=o
  . subst h1;rw[aQ (by omega),bA (by omega),xm,List.getElem?_cons_zero,Ae (by omega)]
  . by_cases h2:o+1<=i/\i<o+1+r.length
    . rw[bA h2,bA (by omega),show i-o=(i-(o+1))+1 by omega,List.getElem?_cons_succ]
    . rw[aQ h2,aQ (by omega),xn (Ne.symm h1)]
theorem xZ(vs cs:List Value)(o:Nat)(h:o+vs.length<=cs.length):putAt cs o vs=cs.take o++vs++cs.drop (o+vs.length):=by
 apply sJ;intro i;rw[N4 _ _ _ _ h];by_cases h1:i<o
 . rw[aQ (by omega),jS,kW (by simp;omega),xj,bA h1]
 . by_cases h2:i<o+vs.length
   . rw[bA (by omega),jS,pJ (by simp;omega),kW (by simp;omega)];congr 1;simp;omega
   . rw[aQ (by omega),pJ (by simp;omega),sH];congr 1;simp;omega
theorem Ii(xs sp vs:List Value)(h:vs.length<=sp.length):putAt (xs++sp) xs.length vs=(xs++vs)++sp.drop vs.length:=by
 rw[xZ _ _ _ (by simp;omega)];simp
section
variable {P:Program}
theorem Tc{w:World}{b o:Nat}{cs:List Value}{t:TypeId}{lo hi:Nat}(v:Value)(hb:w.heap[b]?=some (.cells cs.toArray t (lo,hi)))(hf:∀i,i<cs.length->¬(lo<=i/\i<hi))(ho:o<cs.length)(h1:v.oneCell'=true)(m:Go.Mode):
 (store ⟨b,o,none⟩ v m).run P w=.ok () (w.setCell ⟨b,o,none⟩ v):=by
 have hc:w.cell? ⟨b,o,none⟩=some cs[o]:=by simp[World.cell?,hb,ho]
 have hz:w.frozen? ⟨b,o,none⟩=false:=by
  have:=hf o ho;simp[World.frozen?,hb];omega
 rw[run_store P w _ v m h1];simp[hc,hz]
theorem B5{b:Nat}{t:TypeId}{lo hi:Nat}:∀(vs:List Value) (i o:Nat) (cs:List Value) (w:World),w.heap[b]?=some (.cells cs.toArray t (lo,hi))->(∀i,i<cs.length->¬(lo<=i/\i<hi))->
 o+i+vs.length<=cs.length->(∀v∈vs,v.oneCell'=true)->
 ∃w',(storeCells ⟨b,o,none⟩ vs i).run P w=.ok () w'/\w'.heap[b]?=some (.cells (putAt cs (o+i) vs).toArray t (lo,hi))/\(∀k,k≠b->w'.heap[k]?=w.heap[k]?)/\
  w'.heap.size=w.heap.size/\w'.os=w.os/\w'.tape=w.tape/\w'.output=w.output
 |[],i,o,cs,w,hb,_,_,_=>⟨w,by simp[storeCells],hb,λ_ _=>rfl,rfl,rfl,rfl,rfl⟩
 |v::r,i,o,cs,w,hb,hf,hl,h1=>by
  have hst:=Tc (P:=P) (o:=o+i) v hb hf (by simp at hl;omega) (h1 v cU) .plain;have hb':(w.setCell ⟨b,o+i,none⟩ v).heap[b]?=some (.cells (cs.set (o+i) v).toArray t (lo,hi)):=by
   rw[heap_setCell_same hb];simp
  obtain⟨w',g1,g2,g3,g4,g5,g6,g7⟩:=B5 r (i+1) o (cs.set (o+i) v) (w.setCell ⟨b,o+i,none⟩ v) hb' (λj hj=>hf j (by simpa using hj)) (by simp at hl⊢;omega) (λx hx=>h1 x (cP _ hx));refine⟨w',?_,g2,λk hk=>(g3 k hk).trans (Below.heap_setCell _ _ _ _ hk),by rw[g4];simp[World.setCell],g5,g6,g7⟩;simp only[storeCells,add_plain,Sem.run_bind,hst,Result.andThen_ok];exact g1
theorem Ay{w:World}{t:TypeId}{d:TypeDesc}(hd:P.underlying t=some d):(isAgg t).run P w=.ok (js d) w:=by
 unfold isAgg;simp[run_underlying hd];cases d<;>rfl
theorem EL{w:World}{t:TypeId}{d:TypeDesc}{a:Addr}{v:Value}(hd:P.underlying t=some d)(hg:js d=false)(hc:w.cell? a=some v):(loadVar t a).run P w=.ok v w:=by
 unfold loadVar;simp only[Sem.run_bind,Ay hd,Result.andThen_ok,hg];simp[hc]
theorem HO{w:World}{t:TypeId}{d:TypeDesc}{a:Addr}{vs:List Value}{sz by':Nat}{z:Value}(hd:P.underlying t=some d)(hg:js d=true)(ti:TI P t sz by' z)(hl:vs.length=sz)
 (hc:∀j v,vs[j]?=some v->w.cell? (a.add j)=some v):(loadVar t a).run P w=.ok (.agg vs.toArray) w:=by
 obtain⟨i,hi,hs,_,_⟩:=ti;have:=run_loadCells_list (P:=P) w a vs hc;unfold loadVar;simp only[Sem.run_bind,Ay hd,Result.andThen_ok,hg];simp[sizeOf,typeInfo,hi,hs,<-hl,this]
end
section
variable {P:Program} {ty:TypeId} {ρ:Operand->Value} {w:World} {R:Value->World->Prop} {X B:List (Option Nat)} {w0:World} {O:List (Option Nat)} {C:List dE}
theorem pt(w:World)(cs:Array Value)(t:TypeId):dR (w.alloc (.cells cs t)) (some w.heap.size) (.cells cs.toList):=by
 refine⟨t,0,0,?_,bQ _,λi _ h=>by omega⟩;show(w.heap.push _)[w.heap.size]?=_;simp
theorem aF.box{t:TypeId}{x:Operand}{v:Value}{cs:List Value}(hx:ρ x=v)(hv:v.cells=cs.toArray)(hL:Loc X B w0 w O C)
 (h:∀b w',Loc X B w0 w' (some b::O) (.cells cs::C)->Step O (some b::O) w w'->R (.pointer (some ⟨b,0,none⟩)) w'):aF P (.box t x) ty ρ w R:=by
 have ha:=hL.alloc (o:=.cells cs.toArray t) (c:=.cells cs) (by simpa using pt w cs.toArray t);simp only[aF,dI,execOp,hx];simp[Instr.box,newVar,newRow,hv,upon];exact h _ _ ha.1 ha.2
theorem aF.alloc{t:TypeId}{sz by':Nat}{z:Value}{cs:List Value}(ti:TI P t sz by' z)(hv:z.cells=cs.toArray)(hL:Loc X B w0 w O C)
 (h:∀b w',Loc X B w0 w' (some b::O) (.cells cs::C)->Step O (some b::O) w w'->R (.pointer (some ⟨b,0,none⟩)) w'):aF P (.alloc t) ty ρ w R:=by
 obtain⟨i,hi,_,_,hz⟩:=ti;have ha:=hL.alloc (o:=.cells cs.toArray t) (c:=.cells cs) (by simpa using pt w cs.toArray t);simp only[aF,dI,execOp];simp[Instr.alloc,zeroValue,typeInfo,hi,hz,newVar,newRow,hv,upon];exact h _ _ ha.1 ha.2
theorem tp{w:World}{b o:Nat}{cs:List Value}{v:Value}(h:dR w (some b) (.cells cs))(hv:cs[o]?=some v):w.cell? ⟨b,o,none⟩=some v:=by
 obtain⟨t,lo,hi,h1,_⟩:=h;simp[World.cell?,h1,hv]
theorem aF.yy{t:TypeId}{x:Operand}{d:TypeDesc}{A:List (Option Nat)}{b o:Nat}{v:Value}(hd:P.underlying t=some d)(hg:js d=false)(hx:ρ x=.pointer (some ⟨b,o,none⟩))(hc:mw (view A w) b o=some v)(h:R v w):aF P (.load t x) ty ρ w R:=by
 have:=EL (P:=P) hd hg (zM hc);simp only[aF,dI,execOp,hx];simp[Instr.loadAt,Instr.sureAddr,this,upon];exact h
theorem aF.Ng{t:TypeId}{x:Operand}{d:TypeDesc}{A:List (Option Nat)}{b o:Nat}{vs:List Value}{sz by':Nat}{z:Value}(hd:P.underlying t=some d)(hg:js d=true)(ti:TI P t sz by' z)(hx:ρ x=.pointer (some ⟨b,o,none⟩))(hl:vs.length=sz)(hc:At (view A w) b o vs)(h:R (.agg vs.toArray) w):aF P (.load t x) ty ρ w R:=by
 have hc':∀j v,vs[j]?=some v->w.cell? ((⟨b,o,none⟩:Addr).add j)=some v:=by
  intro j v hj;rw[add_plain];exact zM (hc.get j hj)
 have:=HO (P:=P) hd hg ti hl hc';simp only[aF,dI,execOp,hx];simp[Instr.loadAt,Instr.sureAddr,this,upon];exact h
theorem aF.store{t:TypeId}{x y:Operand}{b o:Nat}{cs vs:List Value}{v:Value}{sz by':Nat}{z:Value}(ti:TI P t sz by' z)(hx:ρ x=.pointer (some ⟨b,o,none⟩))(hy:ρ y=v)(hv:v.cells=vs.toArray)(hl:vs.length=sz)(h1:fK vs=true)
 (hL:Loc X B w0 w O C)(i:Nat)(hO:O[i]?=some (some b))(hC:C[i]?=some (.cells cs))(hin:o+vs.length<=cs.length)
 (h:∀w',Loc X B w0 w' O (C.set i (.cells (putAt cs o vs)))->Step O O w w'->R undef w'):aF P (.store t x y) ty ρ w R:=by
 obtain⟨inf,hi,hs,_,_⟩:=ti;obtain⟨tt,lo,hh,g1,g0,g2⟩:=hL.at i hO hC;obtain⟨w',r1,r2,r3,r4,r5,r6,r7⟩:=B5 (P:=P) vs 0 o cs w g1 g2 (by simpa using hin) (FP h1);have hp:=hL.put (w':=w') i hO (c':=.cells (putAt cs o vs)) ⟨tt,lo,hh,r2,g0,λj hj=>g2 j (by simpa[Gz]using hj)⟩ r3 r4 r5 r6 r7;have hr:(Instr.storeAt t (.pointer (some ⟨b,o,none⟩)) v).run P w=.ok () w':=by
  simp[Instr.storeAt,Instr.sureAddr,storeVar,hv,sizeOf,typeInfo,hi,hs,hl,r1]
 simp only[aF,dI,execOp,hx,hy];simp[hr,upon];exact h w' hp.1 hp.2
theorem aF.fieldAddr{s:TypeId}{x:Operand}{fs:Array Field}{f:Field}{i b o q:Nat}{sz by':Nat}{z:Value}(hs:P.underlying s=some (.struct fs))(hf:fs[i]?=some f)(ti:TI P f.type sz by' z)(hsz:(sz==0)=false)
 (hx:ρ x=.pointer (some ⟨b,o,none⟩))(hq:o+f.offset=q)(h:R (.pointer (some ⟨b,q,none⟩)) w):aF P (.fieldAddr s x i) ty ρ w R:=by
 obtain⟨inf,hi,hz,_,_⟩:=ti;have hn:¬sz=0:=by simpa using hsz
 subst hq;simp only[aF,dI,execOp,hx];simp[Instr.fieldAt,run_underlying hs,hf,Instr.sureAddr,fieldPlace,sizeOf,typeInfo,hi,hz,hn,upon,add_plain];exact h
theorem aF.indexAddr{t el:TypeId}{x y:Operand}{b o n cap i q:Nat}{k:IntKind}{sz by':Nat}{z:Value}(hu:P.underlying t=some (.slice el))(ti:TI P el sz by' z)(hx:ρ x=.slice (some ⟨b,o,none⟩) n cap)(hy:ρ y=.int k (i:Nat))(hlt:i<n)(hq:o+i*sz=q)
 (h:R (.pointer (some ⟨b,q,none⟩)) w):aF P (.indexAddr t x y) ty ρ w R:=by
 obtain⟨inf,hi,hz,_,_⟩:=ti;subst hq;have h2:(i:Int)<n:=by omega
 simp only[aF,dI,execOp,hx,hy];simp[Instr.indexAt,run_underlying hu,asIntOf,h2,hlt,sizeOf,typeInfo,hi,hz,upon,add_plain];exact h
theorem aF.sU{x:Operand}{t el:TypeId}{a:Option Addr}{n cap:Nat}(hu:P.underlying t=some (.slice el))(hx:ρ x=.slice a n cap)(h:R (.int .i64 ((n:Nat):Int)) w):
 aF P (.call {callee:=.builtin .len,args:=#[x],argTypes:=#[t]}) ty ρ w R:=by
 simp only[aF,dI,execOp,resolve,invoke,builtin];simp[hx,Builtin.len_,run_underlying hu,upon,goInt];exact h
theorem aF.Ul{α:Type}{sz:Nat}{Rr:Hp->List Value->α->Prop}{H:Hp}{xs:List α}{x:Operand}{t el:TypeId}{v:Value}(hu:P.underlying t=some (.slice el))(hx:ρ x=v)(hS:Sl sz Rr H v xs)(h:R (.int .i64 ((xs.length:Nat):Int)) w):
 aF P (.call {callee:=.builtin .len,args:=#[x],argTypes:=#[t]}) ty ρ w R:=by
 rcases hS with⟨h1,h2⟩|⟨b,o,cap,hv,_,_⟩
 . obtain⟨oa,h1⟩:=h1;exact aF.sU hu (hx.trans h1) (by rw[h2]at h;exact h)
 . exact aF.sU hu (hx.trans hv) h
theorem aF.Tg{x:Operand}{t:TypeId}{s:ByteArray}(hu:P.underlying t=some .string)(hx:ρ x=.string s)(h:R (.int .i64 ((s.size:Nat):Int)) w):
 aF P (.call {callee:=.builtin .len,args:=#[x],argTypes:=#[t]}) ty ρ w R:=by
 simp only[aF,dI,execOp,resolve,invoke,builtin];simp[hx,Builtin.len_,run_underlying hu,upon,goInt];exact h
theorem Fc{f:FuncId}(he:Enters P f)(args:Array Value):(callFunc f args).run P w=.ok (.enter f args) w:=by
 obtain⟨fn,h1,h2,h3⟩:=he;simp only[callFunc,Sem.run_bind,run_program,Result.andThen_ok,h1,h2,h3];simp
theorem aF.JC{f:FuncId}{args:List Operand}{ats:Array TypeId}{l:List Value}{T:Ending->World->Prop}(he:Enters P f)(hf:ρ (.func f)=.func (.func f) #[] #[]) (ha:args.map ρ=l) (hc:Calls P f l.toArray w T) (h:∀e w',T e w'->∃v,e=.returned v/\R v w'):
 aF P (.call {callee:=.value (.func f),args:=args.toArray,argTypes:=ats}) ty ρ w R:=by
 have hr:=Fc (w:=w) he l.toArray;simp only[aF,dI,execOp,resolve,hf];simp[Deferred.ofValue,invoke,ha,hr,upon];refine hc.mono ?_;intro e w' ht;obtain⟨v,rfl,hv⟩:=h e w' ht;exact hv
theorem aF.OI{g:Operand}{f:FuncId}{fst cap:List Value}{args:List Operand}{ats:Array TypeId}{l:List Value}{T:Ending->World->Prop}(he:Enters P f)(hf:ρ g=.func (.func f) fst.toArray cap.toArray)(ha:fst++args.map ρ++cap=l)(hc:Calls P f l.toArray w T)(h:∀e w',T e w'->∃v,e=.returned v/\R v w'):
 aF P (.call {callee:=.value g,args:=args.toArray,argTypes:=ats}) ty ρ w R:=by
 have hr:=Fc (w:=w) he l.toArray;subst ha;simp only[aF,dI,execOp,resolve,hf];simp[Deferred.ofValue,invoke,upon]at hr⊢;rw[hr];simp[upon];refine(by simpa using hc:Calls P f _ w T).mono ?_;intro e w' ht;obtain⟨v,rfl,hv⟩:=h e w' ht;exact hv
end
open Go Go.RowKit
def cI(i:Nat):List Nat->Bool
 |[]=>false
 |x::r=>Nat.beq i x||cI i r
def mix(ws:List Nat)(e' e:Env):Env:=λi=>bif cI i ws then e' i else e i
section
variable {P:Program} {n:Nat} {k:List It} {Q:Env->World->Prop} {e:Env} {w:World}
theorem wp_loop_ghost{c:Code}{σ:Type}(I:σ->Act->World->Prop)(μ:σ->Nat){Q:Exit->Act->World->Prop}{s0:σ}{a:Act}{w:World}(h₀:I s0 a w)
 (round:∀s a w,I s a w->c.wp P (Exit.then (λa' w'=>∃s',I s' a' w'/\μ s'<μ s) Q) a w):(Code.loop c).wp P Q a w:=by
 intro b k cs;have key:∀n s a w,μ s=n->I s a w->∃e a' w',Q e a' w'/\Arrives P (lone (b.at a (.code c::.inLoop c::k)) cs w) b k cs e a' w':=by
  intro n
  induction n using Nat.strongRecOn with
  |_ n ih=>
   intro s a w hn hI;obtain⟨e,a₁,w₁,hq,harr⟩:=round s a w hI b (.inLoop c::k) cs;cases e with
   |normal=>
    obtain⟨s',hI₁,hlt⟩:=hq;obtain⟨e₂,a₂,w₂,hq₂,harr₂⟩:=ih (μ s') (hn▸hlt) s' a₁ w₁ rfl hI₁;exact⟨e₂,a₂,w₂,hq₂,.of_steps (Steps.trans harr (.one step_inLoop)) harr₂⟩
   |exit id=>exact⟨_,a₁,w₁,hq,.pass (x:=.inLoop c) rfl (λ_ _=>.inl (by simp)) harr⟩
   |goto l=>exact⟨_,a₁,w₁,hq,.pass (x:=.inLoop c) rfl (λ_ _=>.inl (by simp)) harr⟩
   |ret=>exact⟨_,a₁,w₁,hq,.pass (x:=.inLoop c) rfl (λ_ _=>.inl (by simp)) harr⟩
   |panic ch=>exact⟨_,a₁,w₁,hq,.pass (x:=.inLoop c) rfl (λ_ _=>.inl (by simp)) harr⟩
   |outgrown=>exact⟨_,a₁,w₁,hq,.pass (x:=.inLoop c) rfl (λ_ _=>.inl (by simp)) harr⟩
 obtain⟨e,a',w',hq,harr⟩:=key _ s0 a w rfl h₀;exact⟨e,a',w',hq,.of_steps (.one step_loop) harr⟩
end
def jW:List Value->Value
 |[v]=>v
 |vs=>.tuple vs.toArray
def tj(P:Program)(e:Env)(w:World):List ResultVar->List Value->Prop
 |[],[]=>True
 |.tmp t::r,v::vs=>e t=v/\tj P e w r vs
 |.cell a t::r,v::vs=>(∃p,e a=.pointer (some p)/\(loadVar t p).run P w=.ok v w)/\tj P e w r vs
 |_,_=>False
theorem A6{P:Program}{e:Env}{w:World}{tmps:Array Value}(he:∀i,tmps.getD i undef=e i)(g:ResultVar->Sem Value)
 (g1:∀t,g (.tmp t)=pure (tmps.getD t undef))(g2:∀a t,g (.cell a t)=(do loadVar t (<-asAddr (tmps.getD a undef)))):∀{rl:List ResultVar} {vs:List Value},tj P e w rl vs->
 (rl.mapM g).run P w=.ok vs w
 |[],[],_=>by simp
 |.tmp t::r,v::vs,h=>by
  simp only[PE,Sem.run_bind,Sem.run_pure,Result.andThen_ok,A6 he g g1 g2 h.2,g1,he t,h.1]
 |.cell a t::r,v::vs,h=>by
  obtain⟨p,hp,hl⟩:=h.1;have:(asAddr (tmps.getD a undef)).run P w=.ok p w:=by rw[he a,hp];rfl
  simp only[PE,Sem.run_bind,g2,this,Result.andThen_ok,hl,A6 he g g1 g2 h.2,Sem.run_pure]
 |[],_::_,h=>h.elim
 |.tmp _::_,[],h=>h.elim
 |.cell _ _::_,[],h=>h.elim
theorem JW{P:Program}{f:FuncId}{fn:Func}{c:Code}{l:List Value}{rl:List ResultVar}{n:Nat}{w:World}{R:Ending->World->Prop}
 (hf:P.funcs[f]?=some fn)(hb:fn.body=some c)(hn:fn.ntmps=n)(hr:fn.results=rl.toArray)(hl:l.length<=n)
 (h:cO P n [.code c] (λe w'=>∃vs,tj P e w' rl vs/\R (.returned (jW vs)) w') (lY l) w):
 Calls P f l.toArray w R:=by
 subst hn;refine US hf hb hl (h.mono ?_);rintro e w' ⟨vs,h1,h2⟩ tmps he;refine⟨jW vs,?_,h2⟩;unfold results;rw[hr];simp only[PF,Sem.run_bind,Sem.run_map];rw[A6 he _ (λ_=>rfl) (λ_ _=>rfl) h1];simp only[Result.andThen_ok];cases vs with
 |nil=>rfl
 |cons v vs=>cases vs<;>simp[jW]
open Go Go.RowKit
theorem Sl.one{α:Type}{sz:Nat}{R:Hp->List Value->α->Prop}{H:Hp}{v:Value}{xs:List α}(h:Sl sz R H v xs):one v=true:=by
 rcases h with⟨⟨oa,h⟩,_⟩|⟨b,o,cap,hv,_⟩
 . rw[h];rfl
 . rw[hv];rfl
theorem mv:fK []=true:=rfl
theorem eI{v:Value}{r:List Value}(h:X.one v=true)(hr:fK r=true):fK (v::r)=true:=by simp[fK,h,hr]
def sv:Option Nat->Nat->Nat->Value
 |none,_,_=>.slice none 0 0
 |some b,n,cap=>.slice (some ⟨b,0,none⟩) n cap
section
variable {P:Program} {X B:List (Option Nat)} {w0 w w':World} {O:List (Option Nat)} {C:List dE}
theorem iv.swap{w w':World}:∀{O:List (Option Nat)} {C:List dE},iv w O C->∀(i:Nat) {b:Option Nat} {c':dE},i<O.length->dR w' b c'->(∀k,k<w.heap.size->w'.heap[k]?=w.heap[k]?)->iv w' (O.set i b) (C.set i c')
 |[],[],_,i,b,c',hi,_,_=>by simp at hi
 |x::O,c::C,h,0,b,c',_,hc,hs=>⟨hc,h.2.same λk hk=>hs k (h.2.lt k hk)⟩
 |x::O,c::C,h,i+1,b,c',hi,hc,hs=>⟨h.1.same λk hk=>hs k (by subst hk;exact h.1.lt),h.2.swap i (by simpa using hi) hc hs⟩
 |[],_::_,h,_,_,_,_,_,_=>h.elim
 |_::_,[],h,_,_,_,_,_,_=>h.elim
theorem jM.swap{O:List (Option Nat)}:∀(i:Nat) {b:Nat},jM O->some b∉O->jM (O.set i (some b)):=by
 induction O with
 |nil=>intro i b h _;simpa using h
 |cons x O ih=>
  intro i b h hn;have hn':some b∉O:=λhm=>hn (cP _ hm);have hd:jM O:=by cases x with|none=>exact h|some y=>exact h.2
  cases i with
  |zero=>exact⟨hn',hd⟩
  |succ i=>
   rw[List.set_cons_succ];cases x with
   |none=>exact ih i hd hn'
   |some y=>
    refine⟨λhm=>?_,ih i hd hn'⟩;rcases qP hm with h1|h1
    . exact h.1 h1
    . cases h1;exact hn cU
theorem Loc.swap(hL:Loc X B w0 w O C)(i:Nat)(hi:i<O.length){b:Nat}{c':dE}(hE:Ext w w')(hb:w.heap.size<=b)(hc:dR w' (some b) c'):
 Loc X B w0 w' (O.set i (some b)) (C.set i c')/\Step O (O.set i (some b)) w w':=by
 have hL':=hL.ext hE;have hsame:∀k,k<w.heap.size->w'.heap[k]?=w.heap[k]?:=λk hk=>hE.block k hk;have hnot:some b∉O:=λh=>by have:=hL.own.lt b h;omega
 refine⟨⟨hL'.os,hL'.tape,hL'.output,hL'.size,hL'.keep,hL.own.swap i hi hc hsame,?_,hL.iq.swap i hnot,hL.apart,hL.vv⟩,⟨λk hk _=>hsame k hk,?_⟩⟩
 . intro c hcm;rcases qP hcm with h1|h1
   . exact hL.fresh c h1
   . cases h1;exact .inr (bV hL.size hb)
 . intro c hcm;rcases qP hcm with h1|h1
   . exact .inl h1
   . cases h1;exact .inr hb
theorem Loc.Ta(hL:Loc X B w0 w O C):Loc X B w0 w (none::O) (.cells []::C)/\Step O (none::O) w w:=by
 refine⟨⟨hL.os,hL.tape,hL.output,hL.size,hL.keep,⟨rfl,hL.own⟩,λb hb=>?_,hL.iq,hL.apart,hL.vv⟩,⟨λ_ _ _=>rfl,λb hb=>?_⟩⟩
 . rcases eJ.1 hb with h|h
   . cases h
   . exact hL.fresh b h
 . rcases eJ.1 hb with h|h
   . cases h
   . exact .inl h
end
section
variable {P:Program} {ty:TypeId} {ρ:Operand->Value} {w:World} {R:Value->World->Prop} {X B:List (Option Nat)} {w0:World} {O:List (Option Nat)} {C:List dE}
theorem aF.Uf{t el:TypeId}{sz by':Nat}{z:Value}(hu:P.underlying t=some (.slice el))(ti:TI P el sz by' z)(hL:Loc X B w0 w O C)
 (h:∀b w',Loc X B w0 w' (some b::O) (.cells []::C)->Step O (some b::O) w w'->R (.slice (some ⟨b,0,none⟩) 0 0) w'):aF P (.buildSlice t 0 #[]) ty ρ w R:=by
 obtain⟨i,hi,hs,hby,hzz⟩:=ti;have hal:=hL.alloc (o:=.cells #[] el) (c:=.cells []) (pt w #[] el);simp only[aF,dI,execOp];simp[Instr.buildSlice,run_underlying hu,sizeOf,typeInfo,hi,Instr.fill,newRow,upon,Array.range_zero'];exact h _ _ hal.1 hal.2
theorem aF.buildSlice{t el:TypeId}{n:Nat}{parts:List (Nat×Operand)}{sz by':Nat}{z:Value}{cs:List Value}(hu:P.underlying t=some (.slice el))(ti:TI P el sz by' z)(hn:n*sz<=16777216)
 (hf:Instr.fill (λi=>some (i*sz,sz)) ((Array.range (n*sz)).map (z.cells[·%z.cells.size]!)) ((parts.map λp=>(p.1,ρ p.2)))=some cs.toArray)(h0:0<n*sz)(hL:Loc X B w0 w O C)
 (h:∀b w',Loc X B w0 w' (some b::O) (.cells cs::C)->Step O (some b::O) w w'->R (.slice (some ⟨b,0,none⟩) n n) w'):aF P (.buildSlice t n parts.toArray) ty ρ w R:=by
 obtain⟨i,hi,hs,hby,hzz⟩:=ti;have hal:=hL.alloc (o:=.cells cs.toArray el) (c:=.cells cs) (by simpa using pt w cs.toArray el);have h1:¬(16777216<n*sz):=by omega
 have h2:¬(n*sz=0):=by omega
 have hr:(Instr.buildSlice t n ((parts.toArray.map λ(x:Nat×Operand)=>(x.1,ρ x.2)))).run P w=.ok (.slice (some ⟨w.heap.size,0,none⟩) n n) (w.alloc (.cells cs.toArray el)):=by
  have hf':Instr.fill (λi=>some (i*sz,sz)) ((Array.range (n*sz)).map (z.cells[·%z.cells.size]!)) ((parts.toArray.map λ(x:Nat×Operand)=>(x.1,ρ x.2))).toList=some cs.toArray:=by
   simpa using hf
  simp only[Instr.buildSlice,Sem.run_bind,run_underlying hu,Result.andThen_ok,sizeOf,typeInfo,run_program,hi,Sem.run_pure,hs];simp only[gt_iff_lt,show(2:Nat)^24=16777216 from rfl,h1,if_false,h2,zeroValue,typeInfo,Sem.run_bind,run_program,Result.andThen_ok,hi,Sem.run_pure,hzz,hf',newRow,run_newObj];rfl
 simp only[aF,dI,execOp];simp only[Sem.run_bind,hr,Result.andThen_ok,Sem.run_pure,upon];exact h _ _ hal.1 hal.2
end
open Go Go.RowKit
section
variable {P:Program} {ty:TypeId} {ρ:Operand->Value} {w:World} {R:Value->World->Prop} {X B:List (Option Nat)} {w0:World} {O:List (Option Nat)} {C:List dE}
def Src(w:World)(x:Value)(m sz:Nat)(news:List Value):Prop:= news.length=m*sz/\(((∃oa,x=.slice oa 0 0)/\m=0)\/∃b o cap,x=.slice (some ⟨b,o,none⟩) m cap/\∀j u,news[j]?=some u->w.cell? ⟨b,o+j,none⟩=some u)
theorem Xm{t el:TypeId}{inf:TypeInfo}{z:Value}{sz:Nat}(hu:P.underlying t=some (.slice el))(hi:P.info? el=some inf)(hs:inf.size=sz)(hz:inf.zero=some z)(hzc:z.cells.size=sz)
    {i:Nat}{ob:Option Nat}{n cap m:Nat}{xs sp news:List Value}{x:Value}(hL:Loc X B w0 w O C)(hO:O[i]?=some ob)(hC:C[i]?=some (.cells (xs++sp)))(hn:xs.length=n*sz)(hcap:(xs++sp).length=cap*sz)(hsz:0<sz)
    (hsrc:Src w x m sz news)(h1:fK news=true)(h63:n+m<=9223372036854775807)(hb:(n+m)*inf.bytes<=140737488355328)(ty:TypeId):
    ∃ob' cap' sp' w',(Builtin.append_ #[t,t] ty #[sv ob n cap,x]).run P w=.ok (sv ob' (n+m) cap') w'/\((xs++news)++sp').length=cap'*sz/\
      Loc X B w0 w' (O.set i ob') (C.set i (.cells ((xs++news)++sp')))/\Step O (O.set i ob') w w':=by
  subst hs;have hi':i<O.length:=by
    rcases cG i O.length with h|h
    . exact h
    . rw[gm h]at hO;cases hO
  obtain⟨hnl,hsrc⟩:=hsrc;have hset:O.set i ob=O:=by
    apply sJ;intro j;by_cases hj:j=i
    . subst hj;rw[Ae hi',hO]
    . rw[xn (Ne.symm hj)]
  have hcset:∀c,C[i]?=some c->C.set i c=C:=by
    intro c hc;apply sJ;intro j;by_cases hj:j=i
    . subst hj;have:j<C.length:=by
        rcases cG j C.length with h|h
        . exact h
        . rw[gm h]at hc;cases hc
      rw[Ae this,hc]
    . rw[xn (Ne.symm hj)]
  have hle:n<=cap:=by
    have:n*inf.size<=cap*inf.size:=by rw[<-hn,<-hcap];simp
    exact DM this hsz
  by_cases hm:m=0
  . 
    subst hm;have hnew:news=[]:=DN (by simpa using hnl);subst hnew;refine⟨ob,cap,sp,w,?_,by simpa using hcap,by rw[hset,lH,hcset _ hC];exact hL,by rw[hset];exact Step.refl⟩;have hx:(Builtin.lenOf x).run P w=.ok 0 w/\(Builtin.firstCells inf.size 0 x).run P w=.ok #[] w:=by
      rcases hsrc with⟨⟨oa,rfl⟩,_⟩|⟨b,o,c,rfl,_⟩
      . cases oa<;>exact⟨rfl,by simp[Builtin.firstCells,loadCells,loadCellsFrom]⟩
      . exact⟨rfl,by simp[Builtin.firstCells,loadCells,loadCellsFrom]⟩
    cases ob with
    |none=>
      have hz0:xs++sp=[]:=hL.at i hO hC;have h0:cap=0:=by
        rw[hz0]at hcap;have h2:cap*inf.size=0:=by simpa using hcap.symm
        rcases Nat.mul_eq_zero.1 h2 with h3|h3
        . exact h3
        . omega
      have hn0:n=0:=by omega
      subst h0;subst hn0;rcases hsrc with⟨⟨oa,rfl⟩,_⟩|⟨b,o,c,rfl,_⟩
      . cases oa<;>simp[sv,Builtin.append_,run_underlying hu,sizeOf,typeInfo,hi,Builtin.lenOf,Builtin.firstCells,loadCells,loadCellsFrom]
      . simp[sv,Builtin.append_,run_underlying hu,sizeOf,typeInfo,hi,Builtin.lenOf,Builtin.firstCells,loadCells,loadCellsFrom]
    |some b=>
      rcases hsrc with⟨⟨oa,rfl⟩,_⟩|⟨b2,o,c,rfl,_⟩
      . cases oa<;>simp[sv,Builtin.append_,run_underlying hu,sizeOf,typeInfo,hi,Builtin.lenOf,Builtin.firstCells,loadCells,loadCellsFrom,hle,storeCells]
      . simp[sv,Builtin.append_,run_underlying hu,sizeOf,typeInfo,hi,Builtin.lenOf,Builtin.firstCells,loadCells,loadCellsFrom,hle,storeCells]
  . obtain⟨b2,o2,c2,rfl,hcell⟩:∃b o cap,x=.slice (some ⟨b,o,none⟩) m cap/\∀j u,news[j]?=some u->w.cell? ⟨b,o+j,none⟩=some u:=by
      rcases hsrc with⟨_,h⟩|h
      . exact bX h hm
      . exact h
    have hnews:∀j u,news[j]?=some u->w.cell? ((⟨b2,o2,none⟩:Addr).add j)=some u:=λj u hj=>by rw[add_plain];exact hcell j u hj
    have grown:∀fg,fg<n+m->∀(wd:World),wd=w.drew.alloc (.cells (xs.toArray++news.toArray++Builtin.zeroCells z.cells (grownCap w (n+m) fg el-(n+m))) el)->
        ((xs++news)++(Builtin.zeroCells z.cells (grownCap w (n+m) fg el-(n+m))).toList).length=grownCap w (n+m) fg el*inf.size/\
        Loc X B w0 wd (O.set i (some w.heap.size)) (C.set i (.cells ((xs++news)++(Builtin.zeroCells z.cells (grownCap w (n+m) fg el-(n+m))).toList)))/\Step O (O.set i (some w.heap.size)) w wd:=by
      intro fg ho wd hwd;subst hwd;have hge:=grownCap_ge w (n+m) fg el;refine⟨?_,?_⟩
      . simp only[dL,Array.length_toList,size_zeroCells,hzc,hn,hnl,<-iJ];congr 1;omega
      . refine hL.swap i hi' ⟨rfl,rfl,rfl,by simp,λk hk=>Below.heap_alloc w.drew _ k hk⟩ (bQ _) ?_;have:=pt w.drew (xs.toArray++news.toArray++Builtin.zeroCells z.cells (grownCap w (n+m) fg el-(n+m))) el;simpa using this
    cases ob with
    |none=>
      have hz0:xs++sp=[]:=hL.at i hO hC;have hx0:xs=[]:=(Ix.1 hz0).1;have hn0:n=0:=by
        subst hx0;rcases Nat.mul_eq_zero.1 (show n*inf.size=0 by simpa using hn.symm)with h3|h3
        . exact h3
        . omega
      subst hx0;subst hn0;have hr:=run_append_nil (P:=P) w t ty el inf z hu hi hz ⟨b2,o2,none⟩ m c2 news hnl hnews (by omega) (by omega) (by have:=hb;simp only[ff]at this;omega);have hg:=grown 0 (by omega) _ rfl;simp only[ff,jC]at hg hr⊢;refine⟨some w.heap.size,grownCap w m 0 el,_,_,hr,hg.1,?_,?_⟩
      . have:=hg.2.1;simpa using this
      . have:=hg.2.2;simpa using this
    |some g=>
      obtain⟨tt,lo,hh,g1,g0,g2⟩:=hL.at i hO hC;by_cases hroom:n+m<=cap
      . have hfit:n*inf.size+news.length<=(xs++sp).length:=by rw[hnl,hcap,<-iJ];exact qQ _ hroom
        obtain⟨w',r1,r2,r3,r4,r5,r6,r7⟩:=B5 (P:=P) news 0 (n*inf.size) (xs++sp) w g1 g2 (by simpa using hfit) (FP h1);have hput:putAt (xs++sp) (n*inf.size) news=(xs++news)++sp.drop news.length:=by
          rw[<-hn];exact Ii xs sp news (by rw[dL]at hfit;omega)
        have hp:=hL.put (w':=w') i hO (c':=.cells ((xs++news)++sp.drop news.length)) ⟨tt,lo,hh,by rw[r2,pK,hput],g0,λj hj=>g2 j (by rw[dL]at hfit;simp at hj⊢;omega)⟩ r3 r4 r5 r6 r7;have hf:=run_firstCells_some (P:=P) w inf.size m ⟨b2,o2,none⟩ m c2 news hnl hnews;refine⟨some g,cap,sp.drop news.length,w',?_,?_,by rw[hset];exact hp.1,by rw[hset];exact hp.2⟩
        . simp only[sv];simp[Builtin.append_,run_underlying hu,sizeOf,typeInfo,hi,Builtin.lenOf,hroom,hf,add_plain,r1]
        . rw[dL]at hfit;rw[<-hcap];simp;omega
      . have holds:∀j u,xs[j]?=some u->w.cell? ((⟨g,0,none⟩:Addr).add j)=some u:=by
          intro j u hj;rw[add_plain,ff];refine tp (hL.at i hO hC) ?_;rw[kW,hj];rcases cG j xs.length with h|h
          . exact h
          . rw[gm h]at hj;cases hj
        have hr:=run_append_grow (P:=P) w t ty el inf z hu hi hz ⟨g,0,none⟩ n cap xs hn holds ⟨b2,o2,none⟩ m c2 news hnl hnews (by omega) (by omega) (growslice_fits (by omega) hb);have hg:=grown cap (by omega) _ rfl;exact⟨some w.heap.size,grownCap w (n+m) cap el,_,_,hr,hg.1,hg.2.1,hg.2.2⟩
theorem aF.append{t el:TypeId}{a c:Operand}{sz by' n cap m i:Nat}{z x:Value}{ob:Option Nat}{xs sp news:List Value}(hu:P.underlying t=some (.slice el))(ti:TI P el sz by' z)(hzc:z.cells.size=sz)(hsz:0<sz)
 (ha:ρ a=sv ob n cap)(hc:ρ c=x)(hL:Loc X B w0 w O C)(hO:O[i]?=some ob)(hC:C[i]?=some (.cells (xs++sp)))(hn:xs.length=n*sz)(hcap:(xs++sp).length=cap*sz)(hsrc:Src w x m sz news)(h1:fK news=true)
 (h63:n+m<=9223372036854775807)(hb:(n+m)*by'<=140737488355328)
 (h:∀ob' cap' sp' w',((xs++news)++sp').length=cap'*sz->Loc X B w0 w' (O.set i ob') (C.set i (.cells ((xs++news)++sp')))->Step O (O.set i ob') w w'->R (sv ob' (n+m) cap') w'):
 aF P (.call {callee:=.builtin .append,args:=#[a,c],argTypes:=#[t,t]}) ty ρ w R:=by
 obtain⟨inf,hi,hs,hby,hz⟩:=ti;subst hby;obtain⟨ob',cap',sp',w',r1,r2,r3,r4⟩:=Xm (P:=P) hu hi hs hz hzc hL hO hC hn hcap hsz hsrc h1 h63 hb ty;simp only[aF,dI,execOp,resolve,invoke,builtin];simp[ha,hc,r1,upon];exact h _ _ _ _ r2 r3 r4
theorem BA{t el:TypeId}{inf:TypeInfo}(hu:P.underlying t=some (.slice el))(hi:P.info? el=some inf)(a:Option Addr)(len cap l h:Nat)(lo hi':Option Value)(hlo:(lo=none/\l=0)\/∃k,lo=some (.int k ((l:Nat):Int)))(hhi:(hi'=none/\h=len)\/∃k,hi'=some (.int k ((h:Nat):Int)))(h1:l<=h)(h2:h<=cap):
 (Instr.sliceAt t (.slice a len cap) lo hi' none).run P w=.ok (.slice (if cap=l then a else a.map (·.add (l*inf.size))) (h-l) (cap-l)) w:=by
 have g1:(l:Int)<=(h:Int):=by omega
 have g2:(h:Int)<=(cap:Int):=by omega
 have b1:∀k,(Instr.sliceBound (.int k ((h:Nat):Int)) cap .sliceAcap).run P w=.ok h w:=by
  intro k;simp[Instr.sliceBound,asIntOf,g2,h2]
 have b2:∀k,(Instr.sliceBound (.int k ((l:Nat):Int)) h .sliceB).run P w=.ok l w:=by
  intro k;simp[Instr.sliceBound,asIntOf,g1,h1]
 rcases hlo with⟨rfl,rfl⟩|⟨k,rfl⟩<;>rcases hhi with⟨rfl,rfl⟩|⟨k',rfl⟩<;>
  simp[Instr.sliceAt,Instr.slice,run_underlying hu,Instr.sliceBounds,b1,b2,sizeOf,typeInfo,hi]
theorem Sl.cut{α:Type}{sz:Nat}{Rr:Hp->List Value->α->Prop}{H:Hp}{a:Option Addr}{len cap l h:Nat}{xs:List α}(hS:Sl sz Rr H (.slice a len cap) xs)(h1:l<=h)(h2:h<=xs.length):
 len=xs.length/\h<=cap/\Sl sz Rr H (.slice (if cap=l then a else a.map (·.add (l*sz))) (h-l) (cap-l)) ((xs.take h).drop l):=by
 rcases hS with⟨⟨oa,hv⟩,hx⟩|⟨b,o,cap',hv,hc,hxs⟩
 . cases hv;subst hx;have:h=0:=by simpa using h2
   subst this;have:l=0:=by omega
   subst this;exact⟨rfl,bQ _,.inl ⟨⟨a,by simp⟩,by simp⟩⟩
 . cases hv;refine⟨rfl,by omega,?_⟩;have hlen:((xs.take h).drop l).length=h-l:=by simp;omega
   by_cases hcl:cap=l
   . have:h=l:=by omega
     subst this;have hnil:(xs.take h).drop h=[]:=DN (by rw[hlen];omega);rw[bA hcl,hnil,xm];refine .inr ⟨b,o,cap-h,rfl,by simp,λi x hi=>by simp at hi⟩
   . rw[aQ hcl];refine .inr ⟨b,o+l*sz,cap-l,?_,by rw[hlen];omega,λi x hi=>?_⟩
     . rw[hlen];simp[add_plain]
     . have hi2:xs[l+i]?=some x:=by
        rw[sH,xj]at hi;split at hi
        . exact hi
        . cases hi
       obtain⟨vs,g1,g2,g3⟩:=hxs (l+i) x hi2;refine⟨vs,g1,?_,g3⟩;rw[qO,<-iJ];exact g2
theorem aF.UJ{t el:TypeId}{x:Operand}{lo hi:Option Operand}{sz by' l h b o len cap:Nat}{z:Value}(hu:P.underlying t=some (.slice el))(ti:TI P el sz by' z)
    (hx:ρ x=.slice (some ⟨b,o,none⟩) len cap)(hlo:(lo=none/\l=0)\/∃k y,lo=some y/\ρ y=.int k ((l:Nat):Int))(hhi:(hi=none/\h=len)\/∃k y,hi=some y/\ρ y=.int k ((h:Nat):Int))(h1:l<=h)(h2:h<=cap)(hlt:l<cap)
    (hk:R (.slice (some ⟨b,o+l*sz,none⟩) (h-l) (cap-l)) w):aF P (.slice t x lo hi none) ty ρ w R:=by
  obtain⟨inf,hi',hs,_,_⟩:=ti;subst hs;have hr:=BA (P:=P) (w:=w) hu hi' (some ⟨b,o,none⟩) len cap l h (lo.map ρ) (hi.map ρ)
    (by rcases hlo with⟨rfl,rfl⟩|⟨k,y,rfl,hy⟩
        . exact .inl ⟨rfl,rfl⟩
        . exact .inr ⟨k,by simp[hy]⟩)
    (by rcases hhi with⟨rfl,rfl⟩|⟨k,y,rfl,hy⟩
        . exact .inl ⟨rfl,rfl⟩
        . exact .inr ⟨k,by simp[hy]⟩) h1 h2
  have hne:¬cap=l:=by omega
  simp only[aF,dI,execOp,hx];simp only[Iy,Sem.run_bind,hr,Result.andThen_ok,Sem.run_pure,upon,aQ hne,pL,add_plain];exact hk
def isNil:Value->Bool
 |.slice none _ _=>true
 |_=>false
theorem Q5(d:Nat){t el:TypeId}(hu:P.underlying t=some (.slice el))(a:Option Addr)(n c:Nat):(Op.equalIn (d+1) t (.slice a n c) (.slice none 0 0)).run P w=.ok a.isNone w:=by
 cases a<;>simp[Op.equalIn,run_underlying hu]
theorem aF.RV{t u el:TypeId}{a b:Operand}{v:Value}(hu:P.underlying t=some (.slice el))(ha:ρ a=v)(hv:∃p n c,v=.slice p n c)(hb:ρ b=.slice none 0 0)(h:R (.bool (isNil v)) w):aF P (.binOp .eql t a b u) ty ρ w R:=by
 obtain⟨p,n,c,rfl⟩:=hv;have hr:(Op.equal t (.slice p n c) (.slice none 0 0)).run P w=.ok p.isNone w:=Q5 9999 hu p n c;simp only[aF,dI,execOp,ha,hb];simp only[binOp,eqGuard];simp[hr,upon];cases p<;>exact h
theorem Sl.isSlice{α:Type}{sz:Nat}{Rr:Hp->List Value->α->Prop}{H:Hp}{v:Value}{xs:List α}(hS:Sl sz Rr H v xs):∃p n c,v=.slice p n c:=by
 rcases hS with⟨⟨oa,h⟩,_⟩|⟨b,o,c,h,_⟩<;>exact⟨_,_,_,h⟩
theorem Sl.U5{α:Type}{sz:Nat}{Rr:Hp->List Value->α->Prop}{H:Hp}{v:Value}{xs:List α}(hS:Sl sz Rr H v xs)(h:isNil v=true):xs=[]/\v=.slice none 0 0:=by
 rcases hS with⟨h1,h2⟩|⟨b,o,c,h1,_⟩
 . obtain⟨oa,h1⟩:=h1;cases oa with
   |none=>exact⟨h2,h1⟩
   |some a=>subst h1;simp[isNil]at h
 . subst h1;simp[isNil]at h
def str(xs:List Nat):ByteArray:=⟨(xs.map UInt8.ofNat).toArray⟩
def Tt(xs:List Nat):Prop:=∀x∈xs,x<256
theorem toList_loop_eq(s:ByteArray):s.toList=s.data.toList:=by
 have hsz:s.size=s.data.toList.length:=rfl;have key:∀(n i:Nat) (r:List UInt8),s.size-i=n->ByteArray.toList.loop s i r=r.reverse++s.data.toList.drop i:=by
  intro n
  induction n with
  |zero=>
   intro i r h;unfold ByteArray.toList.loop;rw[aQ (by omega),Af (by rw[<-hsz];omega)];simp
  |succ n ih=>
   intro i r h;unfold ByteArray.toList.loop;rw[bA (by omega),ih (i+1) _ (by omega)];have hi:i<s.data.toList.length:=by rw[<-hsz];omega
   rw[gn hi];have:s.get! i=s.data.toList[i]:=by
    simp only[ByteArray.get!];simp[Array.getElem!_eq_getD];rw[Iw (by simpa using hi)];rfl
   simp[this]
 have:=key s.size 0 [] (by simp);simpa[ByteArray.toList]using this
theorem ofNat_inj{a b:Nat}(ha:a<256)(hb:b<256)(h:UInt8.ofNat a=UInt8.ofNat b):a=b:=by
 have:=dd UInt8.toNat h;simp[UInt8.toNat_ofNat']at this;omega
end
open Go Go.RowKit
theorem VR{w:World}{b:Nat}{vs:List Value}(h:dR w (some b) (.cells vs)){o:Nat}(ho:o=0):∀j v,vs[j]?=some v->w.cell? ((⟨b,o,none⟩:Addr).add j)=some v:=by
 intro j v hj;subst ho;rw[add_plain,ff];exact tp h hj
open Go Go.RowKit
inductive Ph where
 |det (c:Value)
 |rel (Φ:Value->World->Prop)
def Ph.holds:Ph->Value->World->Prop
 |.det c,v,_=>v=c
 |.rel Φ,v,w=>Φ v w
def fG(o:Oper):List Nat:=(o.after.toList.filter (Region.binds .any ·)).map (·.on)
def me(P:Program)(l:List Oper)(o:Oper)(e:Env)(w:World)(R:Value->World->Prop):Prop:= match jw l o e with
 |true=>aF P o.op o.type (ev e) w R
 |false=>R undef w
def fh(l:List Oper)(o:Oper):List Nat:=(o.op.operands.toList.filterMap λ|.tmp t=>some t|_=>none)++(match o.guard with|some (g,_)=>(mR l g).toList|none=>[])
def LW:Op->Bool
 |.select _ _=>true
 |_=>false
def lookOk(l:List Oper)(n0 i:Nat)(o:Oper):Bool:=(fh l o).all λt=>(List.range n0).all λj=>!(mR l j==some t)||(cI j (fG o)&&Nat.blt j i)||(Nat.blt i j&&match l[j]?with
  |some o'=>cI i (fG o')
  |none=>false)
def tX(l:List Oper):Bool:=(List.range l.length).all λi=>match l[i]?with
 |some o=>(fG o).all λj=>Nat.blt j i
 |none=>true
theorem jH{i:Nat}{l:List Nat}:cI i l=true↔i∈l:=by
 induction l with
 |nil=>simp[cI]
 |cons x r ih=>
  simp only[cI,xo,ih,eJ];constructor
  . rintro(h|h)
    . exact .inl (ee h)
    . exact .inr h
  . rintro(h|h)
    . exact .inl (by subst h;exact sK i)
    . exact .inr h
section
variable {P:Program} {l:List Oper} {n n0:Nat} {K:Env->World->Prop} {e:Env} {w0:World}
def fits(Φs:List Ph)(vs:Nat->Value):Prop:=∀(i:Nat) c,Φs[i]?=some (Ph.det c)->vs i=c
def fq(listed:Array Bool)(j:Nat):Prop:=listed.getD j false=true
structure Inv (l:List Oper)(n n0:Nat)(e:Env)(w0:World)(Φs:List Ph)(listed:Array Bool)(a:Act)(w:World)(vs:Nat->Value):Prop where
 size:listed.size=l.length
 tmps:a.tmps.size=n
 defs:a.defers=[]
 ext:Ext w0 w
 fit:fits Φs vs
 env1:∀t j,j<n0->mR l j=some t->fq listed j->dh a t=vs j
 env2:∀t,(∀j,j<n0->fq listed j->mR l j≠some t)->dh a t=e t
 holds:∀j ph,j<n0->fq listed j->Φs[j]?=some ph->ph.holds (vs j) w
theorem W5{listed:Array Bool}{i j:Nat}:fq (listed.setIfInBounds i true) j->fq listed j\/(j=i):=by
 intro h;by_cases hj:i=j
 . exact .inr hj.symm
 . left;unfold fq at*;rwa[getD_set_ne false hj]at h
theorem T6{Q:Exit->Act->World->Prop}{i:Nat}{o:Oper}{a:Act}{w:World}{R:Value->World->Prop}{K':Act->World->Prop}(hd:∀o,o∈l->∀d,o.dst=some d->d<a.tmps.size)(ho:l[i]?=some o)
 (h:me P l o (dh a) w R)(hk:∀v w',R v w'->K' (a.put o.dst v) w'):wpOp P l.toArray Q i K' a w:=by
 unfold wpOp;rw[xi,ho];simp only[Ec hd o];unfold me at h;cases hw:jw l o (dh a)with
 |true=>rw[hw]at h;simp only[if_true];exact .inl (KE h hk)
 |false=>rw[hw]at h;simp only[nB,if_false];exact hk _ _ h
theorem CM(h:tX l=true){i j:Nat}{o:Oper}(ho:l[i]?=some o)(hj:j∈fG o):j<i:=by
 have hi:i<l.length:=by
  rcases cG i l.length with h2|h2
  . exact h2
  . rw[gm h2]at ho;cases ho
 have:=uP.1 h i (qR.2 hi);rw[ho]at this;simpa using uP.1 this j hj
theorem Ti{listed:Array Bool}{i:Nat}{o:Oper}(h:i∈Region.ready .any l.toArray listed)(ho:l[i]?=some o):listed.getD i true=false/\∀j∈fG o,fq listed j:=by
 obtain⟨h1,o',ho',h2⟩:=mem_ready.1 h;rw[xi,ho]at ho';cases ho';refine⟨h1,λj hj=>?_⟩;simp only[fG,eh,DO]at hj;obtain⟨e,⟨he,hb⟩,rfl⟩:=hj;exact h2 e (by simpa using he) hb
theorem Wu{listed:Array Bool}{i:Nat}{o:Oper}(ho:l[i]?=some o)(h1:listed.getD i true=false)(h2:∀j∈fG o,fq listed j):i∈Region.ready .any l.toArray listed:=by
 refine mem_ready.2 ⟨h1,o,by rw[xi];exact ho,λe he hb=>h2 e.on ?_⟩;simp only[fG,eh,DO];exact⟨e,⟨by simpa using he,hb⟩,rfl⟩
theorem filter_lt{p p':Nat->Bool}:∀{xs:List Nat},(∀x∈xs,p' x=true->p x=true)->(∃x∈xs,p x=true/\p' x=false)->(xs.filter p').length<(xs.filter p).length
 |[],_,h=>by obtain⟨x,hx,_⟩:=h;cases hx
 |y::r,hs,h=>by
  have hle:(r.filter p').length<=(r.filter p).length:=by
   have:∀{zs:List Nat},(∀x∈zs,p' x=true->p x=true)->(zs.filter p').length<=(zs.filter p).length:=by
    intro zs
    induction zs with
    |nil=>intro _;simp
    |cons z zs ih=>
     intro hz;have h1:=ih (λx hx=>hz x (cP _ hx));have h2:=hz z cU;cases h3:p' z with
     |true=>simp[h3,h2 h3];omega
     |false=>
      cases h4:p z<;>simp[h3,h4]<;>omega
   exact this (λx hx=>hs x (cP _ hx))
  obtain⟨x,hx,h1,h2⟩:=h;cases hx with
  |head=>simp[h1,h2];omega
  |tail _ hm=>
   have ih:=filter_lt (xs:=r) (λx hx=>hs x (cP _ hx)) ⟨x,hm,h1,h2⟩;have h3:=hs y cU;cases h4:p' y with
   |true=>simp[h4,h3 h4];omega
   |false=>cases h5:p y<;>simp[h4,h5]<;>omega
def ja(l:List Oper)(listed:Array Bool):Nat:=((List.range l.length).filter λj=>!(listed.getD j true)).length
theorem Xr{listed:Array Bool}{i:Nat}(hs:listed.size=l.length)(hi:i<l.length)(hu:listed.getD i true=false):ja l (listed.setIfInBounds i true)<ja l listed:=by
 refine filter_lt (λx _ h=>?_) ⟨i,qR.2 hi,by simp only[hu,Bool.not_false],?_⟩
 . by_cases hx:i=x
   . subst hx;simp only[hu,Bool.not_false]
   . rwa[getD_set_ne true hx]at h
 . have:i<listed.size:=by omega
   simp[this]
theorem Tf{listed:Array Bool}(h:ja l listed=0){j:Nat}(hj:j<l.length):listed.getD j true=true:=by
 have:=DN h;have h2:=List.filter_eq_nil_iff.1 this j (qR.2 hj);simpa using h2
end
open Go Go.RowKit
theorem HP:∀(cs A:List Value) (off k:Nat),(cs.zipIdx k).foldl (λ(a:Array Value) p=>a.setIfInBounds (off+p.2) p.1) A.toArray=(putAt A (off+k) cs).toArray
 |[],A,off,k=>rfl
 |v::r,A,off,k=>by
  simp only[List.zipIdx_cons,List.foldl_cons,putAt,List.setIfInBounds_toArray];rw[HP r (A.set (off+k) v) off (k+1),qO]
def mT:Nat->List Value->List (Nat×Value)
 |_,[]=>[]
 |k,v::r=>(k,v)::mT (k+1) r
def sX(sz:Nat):List Value->List (List Value)->Prop
 |[],[]=>True
 |v::r,c::cs=>v.cells=c.toArray/\c.length=sz/\sX sz r cs
 |_,_=>False
theorem F6{sz:Nat}:∀(vs:List Value) (css:List (List Value)) (k:Nat) (pre post:List Value),pre.length=k*sz->post.length=vs.length*sz->sX sz vs css->
 Instr.fill (λi=>some (i*sz,sz)) (pre++post).toArray (mT k vs)=some (pre++css.flatten).toArray
 |[],[],k,pre,post,h1,h2,_=>by
  have:post=[]:=DN (by simpa using h2);subst this;simp[mT,Instr.fill]
 |v::r,c::cs,k,pre,post,h1,h2,h3=>by
  obtain⟨g1,g2,g3⟩:=h3;have hl:sz<=post.length:=by rw[h2,cN,iJ];omega
  have hf:=HP c (pre++post) (k*sz) 0;rw[pK]at hf;have hp:putAt (pre++post) (k*sz) c=(pre++c)++post.drop sz:=by
   rw[<-h1,Ii pre post c (by omega),g2]
  have ih:=F6 r cs (k+1) (pre++c) (post.drop sz) (by simp[h1,g2,iJ]) (by simp[h2,iJ]) g3;simp only[mT,Instr.fill];have h5:¬(v.cells.size≠sz\/(pre++post).toArray.size<k*sz+v.cells.size):=by
   rw[g1];simp[g2,h1];omega
  rw[aQ (by simpa using h5)];have h6:v.cells.zipIdx.foldl (λ(cs:Array Value) (x:Value×Nat)=>cs.setIfInBounds (k*sz+x.2) x.1) (pre++post).toArray=((pre++c)++post.drop sz).toArray:=by
   rw[g1,<-hp,<-hf];rw[<-Array.foldl_toList];simp
  rw[h6,ih];simp
 |[],_::_,_,_,_,_,_,h=>h.elim
 |_::_,[],_,_,_,_,_,h=>h.elim
section
variable {P:Program} {ty:TypeId} {ρ:Operand->Value} {w:World} {R:Value->World->Prop} {X B:List (Option Nat)} {w0:World} {O:List (Option Nat)} {C:List dE}
theorem aF.WE{t el:TypeId}{n:Nat}{parts:List (Nat×Operand)}{sz by':Nat}{z:Value}{vs:List Value}{css:List (List Value)}(hu:P.underlying t=some (.slice el))(ti:TI P el sz by' z)(hn:n*sz<=16777216)
 (hp:(parts.map λp=>(p.1,ρ p.2))=mT 0 vs)(hvs:vs.length=n)(hc:sX sz vs css)(h0:0<n*sz)(hL:Loc X B w0 w O C)
 (h:∀b w',Loc X B w0 w' (some b::O) (.cells css.flatten::C)->Step O (some b::O) w w'->R (.slice (some ⟨b,0,none⟩) n n) w'):aF P (.buildSlice t n parts.toArray) ty ρ w R:=by
 refine aF.buildSlice hu ti hn ?_ h0 hL h;have:=F6 (sz:=sz) vs css 0 [] ((Array.range (n*sz)).map (z.cells[·%z.cells.size]!)).toList (by simp) (by simp[hvs]) hc;rw[hp];rw[jC,jC,uQ]at this;exact this
theorem aF.Im{t el:TypeId}{x y:Operand}{b o n i q:Nat}{k:IntKind}{sz by':Nat}{z:Value}(hu:P.underlying t=some (.array n el))(ti:TI P el sz by' z)(hx:ρ x=.pointer (some ⟨b,o,none⟩))(hy:ρ y=.int k ((i:Nat):Int))(hlt:i<n)(hq:o+i*sz=q)
 (h:R (.pointer (some ⟨b,q,none⟩)) w):aF P (.indexAddr t x y) ty ρ w R:=by
 obtain⟨inf,hi,hz,_,_⟩:=ti;subst hq;have h2:(i:Int)<n:=by omega
 simp only[aF,dI,execOp,hx,hy];simp[Instr.indexAt,Instr.sureAddr,run_underlying hu,asIntOf,h2,hlt,sizeOf,typeInfo,hi,hz,upon,add_plain];exact h
end
section
variable {P:Program} {ty:TypeId} {ρ:Operand->Value} {w:World} {R:Value->World->Prop} {X B:List (Option Nat)} {w0:World} {O:List (Option Nat)} {C:List dE}
theorem FG{α:Type}{C:List α}{i:Nat}{c:α}(h:C[i]?=some c):C.set i c=C:=by
 refine sJ λj=>?_;rw[uR];by_cases e:i=j
 . subst e;rw[bA rfl,h,bA];exact(eN.1 h).1
 . rw[aQ e]
end
instance (xs:List Nat):Decidable (Tt xs):=inferInstanceAs (Decidable (∀x∈xs,x<256))
open Go Go.RowKit
inductive aH (σ ρ:Type)where
 |next (s:σ)
 |done (r:ρ)
def bO{σ ρ:Type}(body:σ->Option (aH σ ρ)):Nat->σ->Option ρ
 |0,_=>none
 |n+1,s=>match body s with
  |none=>none
  |some (.next s')=>bO body n s'
  |some (.done r)=>some r
theorem bind_some{α β:Type}{a:Option α}{f:α->Option β}{r:β}(h:a.bind f=some r):∃x,a=some x/\f x=some r:=by
 cases a with
 |none=>cases h
 |some x=>exact⟨x,rfl,h⟩
theorem Jm{σ ρ:Type}{body:σ->Option (aH σ ρ)}{n:Nat}{s s':σ}(h:body s=some (.next s')):bO body (n+1) s=bO body n s':=by simp[bO,h]
theorem yn{σ ρ:Type}{body:σ->Option (aH σ ρ)}{n:Nat}{s:σ}{r:ρ}(h:body s=some (.done r)):bO body (n+1) s=some r:=by simp[bO,h]
section
variable {P:Program} {n:Nat} {k:List It} {Q:Env->World->Prop} {e:Env} {w:World}
theorem cO.bO{c:Code}{σ ρ:Type}{body:σ->Option (aH σ ρ)}{N:Nat}{s0:σ}{r:ρ}(hh:bO body N s0=some r)(I:σ->Env->World->Prop)(h0:I s0 e w)
 (round:∀(s:σ) (o:aH σ ρ) (e':Env) (w':World),I s e' w'->body s=some o->(∀r',o=.done r'->r'=r)->
  cO P n (.code c::.back (λe'' w''=>∃s',o=.next s'/\I s' e'' w'')::k) Q e' w'):
 cO P n (.code (.loop c)::k) Q e w:=by
 intro a h1 h2 h3;refine wp_loop_ghost (σ:=Nat×σ) (I:=λs a w=>a.tmps.size=n/\a.defers=[]/\X.bO body s.1 s.2=some r/\I s.2 (dh a) w) (λs=>s.1) (s0:=(N,s0)) ⟨h1,h2,hh,h3▸h0⟩ ?_;rintro⟨m,s⟩ a w ⟨g1,g2,g3,g4⟩;cases m with
 |zero=>simp[X.bO]at g3
 |succ m=>
  simp only[X.bO]at g3;cases hb:body s with
  |none=>rw[hb]at g3;cases g3
  |some o=>
   have hr:=round s o (dh a) w g4 hb (by
    rintro r' rfl;rw[hb]at g3;exact jd g3)
   refine wp_mono (hr a g1 g2 rfl) ?_;rintro x a' w' ⟨r1,r2,r3⟩;cases x with
   |normal=>
    obtain⟨s',rfl,q2⟩:=r3;rw[hb]at g3;exact⟨(m,s'),⟨r1,r2,g3,q2⟩,xp m⟩
   |_=>exact⟨r1,r2,r3⟩
theorem T4{J:Env->World->Prop}:∀{x:Exit} {e w},(∀e w,J e w->cO P n k Q e w)->jU P n (.back J::k) Q x e w->jU P n k Q x e w:=by
 intro x e w hJ h;cases x<;>first|exact hJ _ _ h|exact h
theorem cO.join{c:Code}(J:Env->World->Prop)(h:cO P n (.code c::.back J::k) Q e w)(hJ:∀e w,J e w->cO P n k Q e w):cO P n (.code c::k) Q e w:=by
 intro a h1 h2 h3;refine wp_mono (h a h1 h2 h3) ?_;rintro x a' w' ⟨g1,g2,g3⟩;exact⟨g1,g2,T4 hJ g3⟩
end
def idx{α:Type}(xs:List α)(i:Int):Option α:=if i<0 then none else xs[i.toNat]?
theorem uL{α:Type}{xs:List α}{i:Int}{x:α}(h:idx xs i=some x):∃n:Nat,i=(n:Int)/\xs[n]?=some x:=by
 unfold idx at h;split at h
 . cases h
 . exact⟨i.toNat,by omega,h⟩
theorem E9{α:Type}{xs:List α}{i:Nat}:idx xs (i:Int)=xs[i]?:=by simp[idx];intro h;omega
theorem QL{α:Type}{xs:List α}{i:Nat}(h:i<xs.length):idx xs (i:Int)=some xs[i]:=by rw[E9,cy h]
def dw{α:Type}(xs:List α)(i:Int)(y:α):Option (List α):=if i<0\/(xs.length:Int)<=i then none else some (xs.set i.toNat y)
theorem Eo{α:Type}{xs ys:List α}{i:Int}{y:α}(h:dw xs i y=some ys):∃n:Nat,i=(n:Int)/\n<xs.length/\ys=xs.set n y:=by
 unfold dw at h;split at h
 . cases h
 . exact⟨i.toNat,by omega,by omega,(jd h).symm⟩
def inr{α:Type}(xs:List α)(i:Int):Option Unit:=if i<0\/(xs.length:Int)<=i then none else some ()
def cut{α:Type}(xs:List α)(l h:Int):Option (List α):=if l<0\/h<l\/(xs.length:Int)<h then none else some ((xs.take h.toNat).drop l.toNat)
theorem Kx{α:Type}{xs ys:List α}{l h:Int}(hc:cut xs l h=some ys):∃m n:Nat,l=(m:Int)/\h=(n:Int)/\m<=n/\n<=xs.length/\ys=(xs.take n).drop m:=by
 unfold cut at hc;split at hc
 . cases hc
 . exact⟨l.toNat,h.toNat,by omega,by omega,by omega,by omega,(jd hc).symm⟩
theorem DA{α:Type}{xs:List α}{l h:Nat}(h1:l<=h)(h2:h<=xs.length):cut xs (l:Int) (h:Int)=some ((xs.take h).drop l):=by
 unfold cut;rw[aQ (by omega)];simp
def cY{α:Type}(bs:Nat)(xs ys:List α):Option (List α):=if(xs.length+ys.length)*bs<=140737488355328/\xs.length+ys.length<=9223372036854775807 then some (xs++ys)else none
theorem Dm{α:Type}{bs:Nat}{xs ys zs:List α}(h:cY bs xs ys=some zs):xs.length+ys.length<=9223372036854775807/\(xs.length+ys.length)*bs<=140737488355328/\zs=xs++ys:=by
 unfold cY at h;split at h
 . rename_i g;exact⟨g.2,g.1,(jd h).symm⟩
 . cases h
def fZ{α:Type}(bs:Nat)(z:α)(n:Int):Option (List α):=if n<0\/281474976710656<bs*n.toNat\/9223372036854775807<n then none else some (List.replicate n.toNat z)
theorem V5{α:Type}{bs:Nat}{z:α}{n:Int}{xs:List α}(h:fZ bs z n=some xs):∃m:Nat,n=(m:Int)/\bs*m<=281474976710656/\m<=9223372036854775807/\xs=List.replicate m z:=by
 unfold fZ at h;split at h
 . cases h
 . exact⟨n.toNat,by omega,by omega,by omega,(jd h).symm⟩
def sdiv(k:IntKind)(x y:Int):Option Int:=if y=0 then none else some (k.wrap (x.tdiv y))
theorem Ub{k:IntKind}{x y z:Int}(h:sdiv k x y=some z):¬y=0/\k.wrap (x.tdiv y)=z:=by
 unfold sdiv at h;split at h
 . cases h
 . exact⟨by assumption,jd h⟩
def srem(x y:Int):Option Int:=if y=0 then none else some (x.tmod y)
theorem RJ{x y z:Int}(h:srem x y=some z):¬y=0/\x.tmod y=z:=by
 unfold srem at h;split at h
 . cases h
 . exact⟨by assumption,jd h⟩
def mu(p:Prop)[Decidable p]:Option Unit:=if p then some ()else none
theorem AA{p:Prop}[Decidable p]{u:Unit}(h:mu p=some u):p:=by
 unfold mu at h;split at h
 . assumption
 . cases h
theorem wi64{z:Int}(h1:-9223372036854775808<=z)(h2:z<=9223372036854775807):IntKind.i64.wrap z=z:=Nn rfl h1 h2
theorem wu{z:Int}:IntKind.u64.wrap z=z%18446744073709551616:=by simp[IntKind.wrap,IntKind.signed,IntKind.bits]
theorem wu32{z:Int}:IntKind.u32.wrap z=z%4294967296:=by simp[IntKind.wrap,IntKind.signed,IntKind.bits]
theorem wu8{z:Int}:IntKind.u8.wrap z=z%256:=by simp[IntKind.wrap,IntKind.signed,IntKind.bits]
open Classical in
noncomputable def vw(S:Nat->Prop)(w:World):Hp:=λb=>if S b then w.heap[b]?else none
theorem AJ{S:Nat->Prop}{w:World}{b:Nat}{o:Obj}(h:vw S w b=some o):S b/\w.heap[b]?=some o:=by
 unfold vw at h;split at h
 . exact⟨by assumption,h⟩
 . cases h
theorem Gp{S:Nat->Prop}{w:World}{b:Nat}{o:Obj}(hS:S b)(h:w.heap[b]?=some o):vw S w b=some o:=by
 unfold vw;rw[bA hS];exact h
def HS(s:Nat)(S:Nat->Prop)(O:List (Option Nat)):Nat->Prop:=λb=>(S b\/s<=b)/\some b∉O
noncomputable def Hv(s:Nat)(S:Nat->Prop)(O:List (Option Nat))(w:World):Hp:=vw (HS s S O) w
theorem ld{w:World}{b:Nat}{o:Obj}(h:w.heap[b]?=some o):b<w.heap.size:=by
 rcases cG b w.heap.size with h1|h1
 . exact h1
 . rw[DK h1]at h;cases h
section
variable {X:List (Option Nat)} {s s':Nat} {S:Nat->Prop} {O O':List (Option Nat)} {w w' w0:World} {C:List dE}
theorem Hv.step(h:Step O O' w w'):Le (Hv s S O w) (Hv s S O' w'):=λb o hb=>by
 obtain⟨⟨h1,h2⟩,h3⟩:=AJ hb;have hlt:=ld h3;refine Gp ⟨h1,λhm=>?_⟩ ((h.same b hlt h2).trans h3);rcases h.grow b hm with g|g
 . exact h2 g
 . omega
theorem Hv.ext(h:Ext w w'):Le (Hv s S O w) (Hv s S O w'):=Hv.step (Step.ext h)
theorem Step.trans{O'':List (Option Nat)}{w'':World}(h:Step O O' w w')(h':Step O' O'' w' w'')(hsz:w.heap.size<=w'.heap.size):Step O O'' w w'':=by
 refine⟨λk hk hn=>?_,λb hb=>?_⟩
 . rw[h'.same k (by omega) (λhm=>?_),h.same k hk hn];rcases h.grow k hm with g|g
   . exact hn g
   . omega
 . rcases h'.grow b hb with g|g
   . exact h.grow b g
   . exact .inr (by omega)
end
structure cx (α:Type)where
 sz:Nat
 R:Hp->List Value->α->Prop
 mono:∀(H H':Hp) (vs:List Value) (x:α),Le H H'->R H vs x->R H' vs x
 len:∀(H:Hp) (vs:List Value) (x:α),R H vs x->vs.length=sz
 one:∀(H:Hp) (vs:List Value) (x:α),R H vs x->fK vs=true
def Rs{α:Type}(r:cx α)(H:Hp)(v:Value)(xs:List α):Prop:=Sl r.sz r.R H v xs
theorem Rs.mono{α:Type}{r:cx α}{H H':Hp}{v:Value}{xs:List α}(h:Rs r H v xs)(hle:Le H H'):Rs r H' v xs:=Sl.mono r.mono hle h
theorem Rs.one{α:Type}{r:cx α}{H:Hp}{v:Value}{xs:List α}(h:Rs r H v xs):X.one v=true:=Sl.one h
theorem Rs.nil{α:Type}{r:cx α}{H:Hp}:Rs r H (.slice none 0 0) []:=.inl ⟨⟨_,rfl⟩,rfl⟩
theorem Rs.get{α:Type}{r:cx α}{H:Hp}{v:Value}{xs:List α}{n:Nat}{x:α}(h:Rs r H v xs)(hx:xs[n]?=some x):
 ∃b o cap vs,v=.slice (some ⟨b,o,none⟩) xs.length cap/\vs.length=r.sz/\At H b (o+n*r.sz) vs/\r.R H vs x:=by
 rcases h with⟨_,h2⟩|⟨b,o,cap,hv,hc,hxs⟩
 . subst h2;simp at hx
 . obtain⟨vs,g1,g2,g3⟩:=hxs n x hx;exact⟨b,o,cap,vs,hv,g1,g2,g3⟩
def s8(xs:List UInt8):ByteArray:=⟨xs.toArray⟩
theorem yp(xs:List UInt8):(s8 xs).size=xs.length:=by simp[s8,ByteArray.size]
theorem Uz(xs ys:List UInt8):s8 xs++s8 ys=s8 (xs++ys):=by apply ByteArray.ext;simp[s8]
theorem Oh(xs:List UInt8):(s8 xs).toList=xs:=by rw[toList_loop_eq];simp[s8]
def BO(k:IntKind):cx Int:=⟨1,λ_ vs x=>vs=[.int k x],λ_ _ _ _ _ h=>h,λ_ _ _ h=>by rw[h];rfl,λ_ _ _ h=>by rw[h];rfl⟩
abbrev aY:=BO .i64
abbrev bM:=BO .u32
def AM:cx Bool:=⟨1,λ_ vs x=>vs=[.bool x],λ_ _ _ _ _ h=>h,λ_ _ _ h=>by rw[h];rfl,λ_ _ _ h=>by rw[h];rfl⟩
def iy:cx (List UInt8):=⟨1,λ_ vs x=>vs=[.string (s8 x)],λ_ _ _ _ _ h=>h,λ_ _ _ h=>by rw[h];rfl,λ_ _ _ h=>by rw[h];rfl⟩
def kL{α:Type}(r:cx α):cx (List α):=
 ⟨1,λH vs xs=>∃v,vs=[v]/\Rs r H v xs,λ_ _ _ _ hle ⟨v,h1,h2⟩=>⟨v,h1,h2.mono hle⟩,λ_ _ _ ⟨v,h1,_⟩=>by rw[h1];rfl,λ_ _ _ ⟨v,h1,h2⟩=>by rw[h1];exact eI h2.one mv⟩
def cz{α:Type}(r:cx α)(H:Hp):List Value->List α->Prop
 |cs,[]=>cs=[]
 |cs,x::xs=>∃a b,cs=a++b/\r.R H a x/\cz r H b xs
section
variable {α:Type} {r:cx α} {H H':Hp}
theorem cz.nil:cz r H [] []:=rfl
theorem cz.cons{a b:List Value}{x:α}{xs:List α}(h:r.R H a x)(h':cz r H b xs):cz r H (a++b) (x::xs):=⟨a,b,rfl,h,h'⟩
theorem cz.mono:∀{cs:List Value} {xs:List α},cz r H cs xs->Le H H'->cz r H' cs xs
 |_,[],h,_=>h
 |_,_::_,⟨a,b,h1,h2,h3⟩,hle=>⟨a,b,h1,r.mono _ _ _ _ hle h2,h3.mono hle⟩
theorem cz.length:∀{cs:List Value} {xs:List α},cz r H cs xs->cs.length=xs.length*r.sz
 |_,[],h=>by rw[show _=[] from h];simp
 |_,_::xs,⟨a,b,h1,h2,h3⟩=>by rw[h1,dL,r.len _ _ _ h2,h3.length,cN,iJ];omega
theorem cz.fK:∀{cs:List Value} {xs:List α},cz r H cs xs->Go.X.fK cs=true
 |_,[],h=>by rw[show _=[] from h];rfl
 |_,_::xs,⟨a,b,h1,h2,h3⟩=>by
  have e1:=r.one _ _ _ h2;have e2:=h3.fK;rw[h1];clear h1 h2 h3
  induction a with
  |nil=>exact e2
  |cons v a ih=>simp only[DP,Go.X.fK,gz]at e1⊢;exact⟨e1.1,ih e1.2⟩
theorem cz.append:∀{cs ds:List Value} {xs ys:List α},cz r H cs xs->cz r H ds ys->cz r H (cs++ds) (xs++ys)
 |_,_,[],_,h,h'=>by rw[show _=[] from h];exact h'
 |_,_,_::xs,_,⟨a,b,h1,h2,h3⟩,h'=>⟨a,b++_,by rw[h1,jS],h2,h3.append h'⟩
theorem cz.split:∀{cs:List Value} {xs ys:List α},cz r H cs (xs++ys)->∃a b,cs=a++b/\cz r H a xs/\cz r H b ys
 |cs,[],ys,h=>⟨[],cs,rfl,rfl,h⟩
 |_,x::xs,ys,⟨a,b,h1,h2,h3⟩=>by
  obtain⟨a',b',g1,g2,g3⟩:=cz.split (xs:=xs) h3;exact⟨a++a',b',by rw[h1,g1,jS],⟨a,a',rfl,h2,g2⟩,g3⟩
theorem cz.get{cs:List Value}{xs:List α}{n:Nat}{x:α}(h:cz r H cs xs)(hx:xs[n]?=some x):∃a,(cs.drop (n*r.sz)).take r.sz=a/\a.length=r.sz/\r.R H a x:=by
 induction xs generalizing cs n with
 |nil=>simp at hx
 |cons y xs ih=>
  obtain⟨a,b,h1,h2,h3⟩:=h;have hl:=r.len _ _ _ h2;subst h1;cases n with
  |zero=>
   simp at hx;subst hx;refine⟨a,?_,hl,h2⟩;rw[DQ,mf,<-hl,Iz];rfl
  |succ n=>
   obtain⟨a',g1,g2,g3⟩:=ih h3 (by simpa using hx);refine⟨a',?_,g2,g3⟩;rw[<-g1,iJ,Ag,<-hl,Nat.add_comm,<-nC,DR];rfl
theorem cz.set{cs vs:List Value}{xs:List α}{n:Nat}{y:α}(h:cz r H cs xs)(hy:r.R H vs y)(hn:n<xs.length):cz r H (putAt cs (n*r.sz) vs) (xs.set n y):=by
 have hlen:=h.length;have hv:=r.len _ _ _ hy;have hb:n*r.sz+r.sz<=xs.length*r.sz:=by rw[<-IA];exact qQ _ hn
 rw[xZ _ _ _ (by rw[hlen,hv];exact hb),hv];obtain⟨a,b,h1,h2,h3⟩:=cz.split (xs:=xs.take n) (ys:=xs.drop n) (by rw[oC];exact h);have hal:=h2.length;rw[fm,kX (DT hn)]at hal;rw[gn hn]at h3;obtain⟨c,d,g1,g2,g3⟩:=h3;have hcl:=r.len _ _ _ g2;have e1:cs.take (n*r.sz)=a:=by rw[h1,<-hal,Iz];rfl
 have e2:cs.drop (n*r.sz+r.sz)=d:=by
  rw[h1,g1,<-jS];have:n*r.sz+r.sz=(a++c).length:=by simp[hal,hcl]
  rw[this,DR];rfl
 rw[e1,e2,XQ,bA hn,jS];exact h2.append (cz.cons hy g3)
theorem cz.replicate{a:List Value}{x:α}(h:r.R H a x):∀n,cz r H (List.replicate n a).flatten (List.replicate n x)
 |0=>rfl
 |n+1=>by rw[Ah,Ah,PG];exact cz.cons h (cz.replicate h n)
theorem cz.cut{cs:List Value}{xs:List α}{m n:Nat}(h:cz r H cs xs)(h1:m<=n)(h2:n<=xs.length):cz r H ((cs.take (n*r.sz)).drop (m*r.sz)) ((xs.take n).drop m):=by
 obtain⟨a,b,e1,g1,g2⟩:=cz.split (xs:=xs.take n) (ys:=xs.drop n) (by rw[oC];exact h);have hal:=g1.length;rw[fm,kX h2]at hal;have e:cs.take (n*r.sz)=a:=by rw[e1,<-hal,Iz];rfl
 rw[e];obtain⟨c,d,e2,g3,g4⟩:=cz.split (xs:=(xs.take n).take m) (ys:=(xs.take n).drop m) (by rw[oC];exact g1);have hcl:=g3.length;rw[fm,fm,kX h2,kX h1]at hcl;rw[e2,<-hcl,DR rfl];exact g4
theorem cz.rs{b o cap:Nat}{pre cs:List Value}{xs:List α}(h:cz r H cs xs)(hA:At H b o cs)(hc:xs.length<=cap):Rs r H (.slice (some ⟨b,o,none⟩) xs.length cap) xs:=by
 refine .inr ⟨b,o,cap,rfl,hc,λi x hx=>?_⟩;obtain⟨a,h1,h2,h3⟩:=h.get hx;exact⟨a,h2,hA.part (i*r.sz) (by rw[h2];exact h1),h3⟩
theorem Rs.cells:∀{xs:List α} {b o:Nat},(∀i x,xs[i]?=some x->∃vs,vs.length=r.sz/\At H b (o+i*r.sz) vs/\r.R H vs x)->∃cs,At H b o cs/\cz r H cs xs
 |[],b,o,_=>⟨[],At.nil,rfl⟩
 |x::xs,b,o,h=>by
  obtain⟨a,h1,h2,h3⟩:=h 0 x rfl;rw[DQ,pK]at h2;obtain⟨cs,g1,g2⟩:=Rs.cells (xs:=xs) (b:=b) (o:=o+r.sz) (λi y hy=>by
   obtain⟨vs,e1,e2,e3⟩:=h (i+1) y (by simpa using hy);refine⟨vs,e1,?_,e3⟩;rw[iJ,Ag]at e2;rw[show o+r.sz+i*r.sz=o+(i*r.sz+r.sz) by omega];exact e2)
  exact⟨a++cs,h2.append (by rw[h1];exact g1),cz.cons h3 g2⟩
end
open Go Go.RowKit
section
variable {P:Program} {l:List Oper} {n n0:Nat} {K:Env->World->Prop} {e:Env} {w0:World}
theorem S3{listed:Array Bool}{i:Nat}(hi:i<listed.size):fq (listed.setIfInBounds i true)=λj=>fq listed j\/j=i:=by
 funext j;apply propext;constructor
 . exact W5
 . rintro(h|h)
   . exact getD_set_true h
   . subst h;simp[fq,hi]
theorem me.mono{o:Oper}{E:Env}{w:World}{R R':Value->World->Prop}(h:me P l o E w R)(hR:∀v w',R v w'->R' v w'):me P l o E w R':=by
 unfold me at*;cases hw:jw l o E with
 |true=>rw[hw]at h;exact aF.mono h hR
 |false=>rw[hw]at h;exact hR _ _ h
def LateP(P:Program)(l:List Oper)(lt:List Nat)(E:Env)(w:World):Prop:=∀i∈lt,∀o,l[i]?=some o->me P l o E w λv w'=>(∃d,o.dst=some d/\v=E d)/\w'=w
def RlL(P:Program)(l:List Oper)(K:Env->World->Prop):List Nat->List Oper->Env->World->Prop
 |_,[],e,w=>K e w
 |lt,o::r,e,w=>me P l o e w λv w'=>LateP P l (lt.filter λi=>!cI i (fG o)) (ku e o.dst v) w'/\RlL P l K (lt.filter λi=>!cI i (fG o)) r (ku e o.dst v) w'
theorem XL{listed:Array Bool}(hs:listed.size=l.length)(hb:tX l=true)(hr:Region.ready .any l.toArray listed=[]):∀j,j<l.length->fq listed j:=by
 intro m
 induction m using Nat.strongRecOn with
 |_ m ih=>
  intro hm;refine je λhml=>?_;have hmo:l[m]?=some l[m]:=cy hm;have:m∈Region.ready .any l.toArray listed:=by
   refine Wu hmo ?_ (λd hd=>ih d (CM hb hmo hd) (by have:=CM hb hmo hd;omega));unfold fq at hml;simp[hs,hm]at hml⊢;exact hml
  rw[hr]at this;cases this
theorem unl{listed:Array Bool}(hs:listed.size=l.length){j:Nat}(hj:j<l.length):¬fq listed j↔listed.getD j true=false:=by
 unfold fq;simp[hs,hj]
theorem Mu{listed:Array Bool}(hs:listed.size=l.length){i j:Nat}(hi:i<l.length):fq (listed.setIfInBounds i true) j↔(fq listed j\/j=i):=by
 rw[S3 (by omega)]
theorem WL{listed:Array Bool}(hs:listed.size=l.length){i:Nat}(hi:i<l.length)(hcl:∀j oj,l[j]?=some oj->fq listed j->∀d∈fG oj,fq listed d)(hd:∀d∈fG l[i],fq listed d):
 ∀j oj,l[j]?=some oj->fq (listed.setIfInBounds i true) j->∀d∈fG oj,fq (listed.setIfInBounds i true) d:=by
 intro j oj hoj hjl d hdm;rw[Mu hs hi]at hjl⊢;rcases hjl with h1|h1
 . exact .inl (hcl j oj hoj h1 d hdm)
 . subst h1;rw[cy hi]at hoj;cases hoj;exact .inl (hd d hdm)
end
inductive Pz where
 |det (c:Value)
 |fn (m:Nat) (g:Value->Value)
 |rel (Φ:Value->(Nat->Prop)->World->Prop) (ft:Value->List (Option Nat))
structure FE where
 idx:Nat
 φ:(Nat->Prop)->World->Prop
 ft:List (Option Nat)
def UR(cs:List (List Nat))(j:Nat):List Nat:=(List.range cs.length).filter λc=>cI j (cs.getD c [])
def K9(cs:List (List Nat))(j:Nat):Bool:=(UR cs j).isEmpty
def o6(cs:List (List Nat))(x:FE):List FE->Prop
 |[]=>True
 |y::r=>(bif K9 cs x.idx&&K9 cs y.idx then∀b,some b∈x.ft->some b∉y.ft else True)/\o6 cs x r
structure eF (cf:List (Option Nat))(w w':World):Prop where
 os:w'.os=w.os
 tape:w'.tape=w.tape
 output:w'.output=w.output
 size:w.heap.size<=w'.heap.size
 keep:∀k,k<w.heap.size->some k∉cf->w'.heap[k]?=w.heap[k]?
def vf(Φs:List Pz)(vs:Nat->Value)(j:Nat):Value:=match Φs[j]?with
 |some (.fn m g)=>g (vs m)
 |_=>vs j
section
variable {P:Program} {l:List Oper} {cs:List (List Nat)} {w1:World} {K:Env->World->Prop} {r:List Oper} {Φs:List Pz} {e:Env} {F:List FE} {i:Nat}
theorem er{w:World}{v c:Value}(h:v=c):Ext w w/\v=c:=⟨Ext.refl _,h⟩
end
open Go Go.RowKit
theorem TU{v:Value}(h:one v=true):v.cells=#[v]:=by
 cases v<;>first|rfl|(simp[one,Value.oneCell']at h)
theorem Loc.begin{X:List (Option Nat)}{C:List dE}{w:World}(h:iv w X C)(hd:jM X):Loc X [] w w X C:=
 ⟨rfl,rfl,rfl,bQ _,λ_ _ _=>rfl,h,λ_ hb=>.inl hb,hd,λ_ _ h=>(by cases h),λ_ h=>(by cases h)⟩
def fJ:Option Nat->Nat->Nat->Nat->Value
 |none,_,_,_=>.slice none 0 0
 |some b,o,n,cap=>.slice (some ⟨b,o,none⟩) n cap
theorem KP(ob:Option Nat)(o n cap:Nat):one (fJ ob o n cap)=true:=by cases ob<;>rfl
theorem Lt(ob:Option Nat)(n cap:Nat):fJ ob 0 n cap=sv ob n cap:=by cases ob<;>rfl
section
variable {P:Program} {ty:TypeId} {ρ:Operand->Value} {w w0:World} {R:Value->World->Prop} {X:List (Option Nat)} {O:List (Option Nat)} {C:List dE} {α:Type} {r:cx α} {H:Hp}
theorem yL{pre cs sp:List Value}{xs:List α}{n:Nat}{a:α}(hE:cz r H cs xs)(hn:xs[n]?=some a)(hz:0<r.sz):0<(pre++(cs++sp)).length:=by
 have h1:=hE.length;have h2:n<xs.length:=(eN.1 hn).1;have:1*1<=xs.length*r.sz:=kY (by omega) hz;simp;omega
theorem aF.Mp{t:TypeId}{x:Operand}{d:TypeDesc}{b o:Nat}{v:Value}(hd:P.underlying t=some d)(hg:js d=false)(hx:ρ x=.pointer (some ⟨b,o,none⟩))(hle:Le H (view [] w))(hA:At H b o [v])(h:R v w):aF P (.load t x) ty ρ w R:=
 aF.yy hd hg hx (yf hle (hA.get 0 rfl)) h
theorem aF.Ou{t:TypeId}{x:Operand}{d:TypeDesc}{b o:Nat}{vs:List Value}{sz by':Nat}{z:Value}(hd:P.underlying t=some d)(hg:js d=true)(ti:TI P t sz by' z)(hx:ρ x=.pointer (some ⟨b,o,none⟩))(hl:vs.length=sz)(hle:Le H (view [] w))(hA:At H b o vs)(h:R (.agg vs.toArray) w):aF P (.load t x) ty ρ w R:=
 aF.Ng hd hg ti hx hl (hA.mono hle) h
theorem aF.Oj{t:TypeId}{x:Operand}{d:TypeDesc}{b o:Nat}{cs:List Value}{v:Value}(hd:P.underlying t=some d)(hg:js d=false)(hx:ρ x=.pointer (some ⟨b,o,none⟩))(hc:dR w (some b) (.cells cs))
 (hv:cs[o]?=some v)(h:R v w):aF P (.load t x) ty ρ w R:=by
 have:=EL (P:=P) hd hg (tp hc hv);simp only[aF,dI,execOp,hx];simp[Instr.loadAt,Instr.sureAddr,this,upon];exact h
theorem aF.Iq{t:TypeId}{x:Operand}{d:TypeDesc}{b o:Nat}{cs vs:List Value}{sz by':Nat}{z:Value}(hd:P.underlying t=some d)(hg:js d=true)(ti:TI P t sz by' z)(hx:ρ x=.pointer (some ⟨b,o,none⟩))(hc:dR w (some b) (.cells cs))
 (hl:vs.length=sz)(hv:(cs.drop o).take vs.length=vs)(h:R (.agg vs.toArray) w):aF P (.load t x) ty ρ w R:=by
 have hc':∀j v,vs[j]?=some v->w.cell? ((⟨b,o,none⟩:Addr).add j)=some v:=by
  intro j v hj;rw[add_plain];refine tp hc ?_;rw[<-hj];conv=>rhs;rw[<-hv]
  rw[xj,sH,bA];rcases cG j vs.length with h|h
  . exact h
  . rw[gm h]at hj;cases hj
 have:=HO (P:=P) hd hg ti hl hc';simp only[aF,dI,execOp,hx];simp[Instr.loadAt,Instr.sureAddr,this,upon];exact h
theorem AG{l vs us:List Value}{p q:Nat}(h:(l.drop p).take vs.length=vs)(hu:(vs.drop q).take us.length=us):(l.drop (p+q)).take us.length=us:=by
 rw[<-nC];generalize l.drop p=m at*;have e:(m.take vs.length).drop q=vs.drop q:=by rw[h]
 rw[List.drop_take]at e;rw[<-e,IB]at hu;have hk:us.length<=vs.length-q:=by
  have:=dd List.length hu;rw[fm]at this;omega
 rw[kX hk]at hu;exact hu
theorem HE{pre cs sp:List Value}{xs:List α}{n:Nat}{a:α}(hE:cz r H cs xs)(hn:xs[n]?=some a):∃vs,vs.length=r.sz/\r.R H vs a/\((pre++(cs++sp)).drop (pre.length+n*r.sz)).take vs.length=vs:=by
 obtain⟨vs,h1,h2,h3⟩:=hE.get hn;refine⟨vs,h2,h3,?_⟩;have hlt:n<xs.length:=(eN.1 hn).1;have hlen:=hE.length;have hb:n*r.sz+r.sz<=cs.length:=by rw[hlen,<-IA];exact qQ _ hlt
 rw[<-nC,DR rfl,DU (by omega),qS (by rw[xq,h2];omega),h2,h1]
theorem aF.stRow{t:TypeId}{x y:Operand}{b q n by':Nat}{z v:Value}{pre cs sp vs:List Value}{xs:List α}{a:α}(ti:TI P t r.sz by' z)(hx:ρ x=.pointer (some ⟨b,q,none⟩))(hy:ρ y=v)(hv:v.cells=vs.toArray)(hR:r.R H vs a)
 (hL:Loc X [] w0 w O C)(i:Nat)(hO:O[i]?=some (some b))(hC:C[i]?=some (.cells (pre++(cs++sp))))(hE:cz r H cs xs)(hn:n<xs.length)(hq:q=pre.length+n*r.sz)
 (h:∀w' cs',Loc X [] w0 w' O (C.set i (.cells (pre++(cs'++sp))))->Step O O w w'->cz r H cs' (xs.set n a)->cs'.length=cs.length->R undef w'):aF P (.store t x y) ty ρ w R:=by
 have hlen:=hE.length;have hvl:=r.len _ _ _ hR;have hb:n*r.sz+r.sz<=cs.length:=by rw[hlen,<-IA];exact qQ _ hn
 have hp:putAt (pre++(cs++sp)) q vs=pre++(putAt cs (n*r.sz) vs++sp):=by
  subst hq;rw[xZ _ _ _ (by simp[hvl];omega),xZ _ _ _ (by rw[hvl];exact hb),hvl];rw[List.take_append,fx (by omega),show pre.length+n*r.sz-pre.length=n*r.sz by omega,
   qS (by omega),List.drop_append,Af (by omega),jC,
   show pre.length+n*r.sz+r.sz-pre.length=n*r.sz+r.sz by omega,DU hb]
  simp
 refine aF.store ti hx hy hv hvl (r.one _ _ _ hR) hL i hO hC (by subst hq;simp[hvl];omega) λw' h1 h2=>?_;rw[hp]at h1;exact h w' _ h1 h2 (hE.set hR hn) (Gz _ _ _)
theorem aF.Gb{x:Operand}{t el:TypeId}{v:Value}{xs:List α}(hu:P.underlying t=some (.slice el))(hx:ρ x=v)(hS:Rs r H v xs)(h:R (.int .i64 (xs.length:Int)) w):
 aF P (.call {callee:=.builtin .len,args:=#[x],argTypes:=#[t]}) ty ρ w R:=aF.Ul hu hx hS h
theorem aF.Vt{x:Operand}{t el:TypeId}{o n cap:Nat}{ob:Option Nat}{pre cs sp:List Value}{xs:List α}(hu:P.underlying t=some (.slice el))(hx:ρ x=fJ ob o n cap)(hc:dR w ob (.cells (pre++(cs++sp))))(hE:cz r H cs xs)(hz:(r.sz==0)=false)(hn:n=xs.length)
    (h:R (.int .i64 (xs.length:Int)) w):aF P (.call {callee:=.builtin .len,args:=#[x],argTypes:=#[t]}) ty ρ w R:=by
  have hpos : 0 < r.sz := by have : ¬ r.sz = 0 := by simpa using hz
                             omega
  cases ob with
  |none=>
    have h0:pre++(cs++sp)=[]:=hc;have hxs:xs.length=0:=by
      rcases ij xs.length with h1|h1
      . exact h1
      . have:=yL (pre:=pre) (sp:=sp) hE (cy h1) hpos;rw[h0]at this;simp at this
    exact aF.sU hu hx (by rw[hxs]at h;exact h)
  |some b=>subst hn;exact aF.sU hu hx h
theorem aF.Oc{x:Operand}{t el:TypeId}(hu:P.underlying t=some (.slice el))(hx:ρ x=.slice none 0 0)(h:R (.int .i64 0) w):aF P (.call {callee:=.builtin .len,args:=#[x],argTypes:=#[t]}) ty ρ w R:=aF.sU hu hx h
theorem aF.Qk{x:Operand}{t:TypeId}{s:List UInt8}(hu:P.underlying t=some .string)(hx:ρ x=.string (s8 s))(h:R (.int .i64 (s.length:Int)) w):
 aF P (.call {callee:=.builtin .len,args:=#[x],argTypes:=#[t]}) ty ρ w R:=aF.Tg hu hx (by rw[yp];exact h)
theorem Src.row{o n cap:Nat}{ob:Option Nat}{pre cs sp:List Value}{xs:List α}(hc:dR w ob (.cells (pre++(cs++sp))))(hE:cz r H cs xs)(hz:(r.sz==0)=false)(ho:o=pre.length)(hn:n=xs.length):Src w (fJ ob o n cap) xs.length r.sz cs:=by
  have hpos : 0 < r.sz := by have : ¬ r.sz = 0 := by simpa using hz
                             omega
  refine⟨hE.length,?_⟩;cases ob with
  |none=>
    have h0:pre++(cs++sp)=[]:=hc;left;have hx0:xs.length=0:=by
     rcases ij xs.length with h1|h1
     . exact h1
     . have:=yL (pre:=pre) (sp:=sp) hE (cy h1) hpos;rw[h0]at this;simp at this
    refine⟨⟨none,by simp[fJ]⟩,?_⟩;rcases ij xs.length with h1|h1
    . exact h1
    . have:=yL (pre:=pre) (sp:=sp) hE (cy h1) hpos;rw[h0]at this;simp at this
  |some b=>
    subst hn;subst ho;refine .inr ⟨b,_,cap,rfl,λj u hj=>tp hc ?_⟩;have hjl:j<cs.length:=(eN.1 hj).1;rw[pJ (by omega),show pre.length+j-pre.length=j by omega,kW hjl,hj]
theorem aF.apRow{t el:TypeId}{a c:Operand}{by' n cap i:Nat}{z x:Value}{ob:Option Nat}{cs sp ds:List Value}{xs ys:List α}(hu:P.underlying t=some (.slice el))(ti:TI P el r.sz by' z)(hzc:z.cells.size=r.sz)(hz:(r.sz==0)=false)
    (ha:ρ a=fJ ob 0 n cap)(hc:ρ c=x)(hL:Loc X [] w0 w O C)(hO:O[i]?=some ob)(hC:C[i]?=some (.cells ([]++(cs++sp))))(hE:cz r H cs xs)(hn:n=xs.length)(hcap:(cs++sp).length=cap*r.sz)(hsrc:Src w x ys.length r.sz ds)(hD:cz r H ds ys)
    (h63:xs.length+ys.length<=9223372036854775807)(hb:(xs.length+ys.length)*by'<=140737488355328)
    (h:∀ob' cap' sp' ds' w',cz r H ds' (xs++ys)->(ds'++sp').length=cap'*r.sz->Loc X [] w0 w' (O.set i ob') (C.set i (.cells ([]++(ds'++sp'))))->Step O (O.set i ob') w w'->R (fJ ob' 0 (xs++ys).length cap') w'):
    aF P (.call {callee:=.builtin .append,args:=#[a,c],argTypes:=#[t,t]}) ty ρ w R:=by
  have hpos : 0 < r.sz := by have : ¬ r.sz = 0 := by simpa using hz
                             omega
  subst hn;refine aF.append (m:=ys.length) (xs:=cs) (sp:=sp) hu ti hzc hpos (by rw[ha,Lt]) hc hL hO hC hE.length hcap hsrc hD.fK h63 hb λob' cap' sp' w' h1 h2 h3=>?_;have:=h ob' cap' sp' (cs++ds) w' (hE.append hD) h1 h2 h3;rw[Lt,dL]at this;exact this
theorem V1(zc:List Value)(n:Nat):(madeCells zc.toArray (n*zc.length)).toList=(List.replicate n zc).flatten:=by
 apply sJ;intro i;simp only[madeCells,Array.toList_map,iA,Array.toList_range]
 induction n generalizing i with
 |zero=>simp
 |succ n ih=>
  rw[Ah,PG];by_cases hi:i<zc.length
  . rw[kW hi,IC (by rw[iJ];omega)];simp[Ai hi,hi]
  . rw[pJ (by omega),<-ih (i-zc.length)];by_cases hlt:i<(n+1)*zc.length
    . rw[iJ,Ag]at hlt;rw[IC (by rw[iJ];omega),IC (by omega)];simp only[pL];congr 2;show i%zc.length=(i-zc.length)%zc.length;rw[Nat.mod_eq_sub_mod (by omega)]
    . rw[iJ,Ag]at hlt;rw[gm (by simp[iJ];omega),gm (by simp;omega)]
theorem aF.mkRow{t el:TypeId}{a c:Operand}{k k':IntKind}{i:Int}{m by':Nat}{z:Value}{zc:List Value}{x:α}(hu:P.underlying t=some (.slice el))(ti:TI P el r.sz by' z)(hzc:z.cells=zc.toArray)(hR:r.R H zc x)
 (ha:ρ a=.int k i)(hc:ρ c=.int k' i)(hi:i=(m:Int))(hb:by'*m<=281474976710656)(hm:m<=9223372036854775807)(hL:Loc X [] w0 w O C)
 (h:∀b w' cs,cz r H cs (List.replicate m x)->(cs++[]).length=m*r.sz->Loc X [] w0 w' (some b::O) (.cells ([]++(cs++[]))::C)->Step O (some b::O) w w'->R (fJ (some b) 0 (List.replicate m x).length m) w'):
 aF P (.makeSlice t a c) ty ρ w R:=by
 obtain⟨inf,hi',hs,hby,hzz⟩:=ti;subst hi;have hl:=r.len _ _ _ hR;have hb':(inf.bytes:Int)*(m:Int)<=281474976710656:=by
  subst hby;have:((inf.bytes*m:Nat):Int)<=281474976710656:=by omega
  rwa[ID]at this
 have hr:=run_make (P:=P) w t el inf z hu hi' hzz k k' (m:Int) (m:Int) (by omega) (by omega) hb' (by omega);simp only[mQ,hs]at hr;have hfl:=V1 zc m;rw[hl,<-hzc]at hfl;have hal:=hL.alloc (o:=.cells (madeCells z.cells (m*r.sz)) el) (c:=.cells (List.replicate m zc).flatten) (by rw[<-hfl];exact pt w _ el);simp only[aF,dI,execOp,ha,hc];simp[hr,upon];have hE:=cz.replicate (r:=r) hR m;have hln:=hE.length;have:=h _ _ _ hE (by rw[lH,hln];simp) (by rw[lH];exact hal.1) hal.2;rw[mg]at this;exact this
theorem aF.WI{t el:TypeId}{n:Nat}{parts:List (Nat×Operand)}{by':Nat}{z:Value}{vs:List Value}{css:List (List Value)}{xs:List α}(hu:P.underlying t=some (.slice el))(ti:TI P el r.sz by' z)(hn:n*r.sz<=16777216)
 (hp:(parts.map λp=>(p.1,ρ p.2))=mT 0 vs)(hvs:vs.length=n)(hc:sX r.sz vs css)(h0:0<n*r.sz)(hE:cz r H css.flatten xs)(hxs:xs.length=n)(hL:Loc X [] w0 w O C)
 (h:∀b w',(css.flatten++[]).length=n*r.sz->Loc X [] w0 w' (some b::O) (.cells ([]++(css.flatten++[]))::C)->Step O (some b::O) w w'->R (fJ (some b) 0 n n) w'):aF P (.buildSlice t n parts.toArray) ty ρ w R:=by
 refine aF.WE hu ti hn hp hvs hc h0 hL λb w' h1 h2=>?_;refine h b w' (by rw[lH,hE.length,hxs]) (by rw[lH];exact h1) h2
theorem aF.UC{t el:TypeId}{sz by':Nat}{z:Value}(hu:P.underlying t=some (.slice el))(ti:TI P el sz by' z)(hL:Loc X [] w0 w O C)
 (h:∀b w',Loc X [] w0 w' (some b::O) (.cells ([]++([]++[]))::C)->Step O (some b::O) w w'->R (fJ (some b) 0 0 0) w'):aF P (.buildSlice t 0 #[]) ty ρ w R:=
 aF.Uf hu ti hL h
theorem aF.cutRo{t el:TypeId}{x:Operand}{lo hi:Option Operand}{by' l h':Nat}{z v:Value}{xs:List α}(hu:P.underlying t=some (.slice el))(ti:TI P el r.sz by' z)
    (hx:ρ x=v)(hS:Rs r H v xs)(hlo:(lo=none/\l=0)\/∃k y,lo=some y/\ρ y=.int k ((l:Nat):Int))(hhi:(hi=none/\h'=xs.length)\/∃k y,hi=some y/\ρ y=.int k ((h':Nat):Int))(h1:l<=h')(h2:h'<=xs.length)
    (hk:∀v',Rs r H v' ((xs.take h').drop l)->R v' w):aF P (.slice t x lo hi none) ty ρ w R:=by
  obtain⟨inf,hi',hs,_,_⟩:=ti;obtain⟨a,len,cap,rfl⟩:∃a len cap,v=.slice a len cap:=by
    rcases hS with⟨⟨oa,h⟩,_⟩|⟨b,o,c,h,_⟩<;>exact⟨_,_,_,h⟩
  obtain⟨hl,hc,hcut⟩:=Sl.cut hS h1 h2;have hr:=BA (P:=P) (w:=w) hu hi' a len cap l h' (lo.map ρ) (hi.map ρ)
    (by rcases hlo with⟨rfl,rfl⟩|⟨k,y,rfl,hy⟩
        . exact .inl ⟨rfl,rfl⟩
        . exact .inr ⟨k,by simp[hy]⟩)
    (by rcases hhi with⟨rfl,rfl⟩|⟨k,y,rfl,hy⟩
        . exact .inl ⟨rfl,hl.symm⟩
        . exact .inr ⟨k,by simp[hy]⟩) h1 hc
  simp only[aF,dI,execOp,hx];simp only[Iy,Sem.run_bind,hr,Result.andThen_ok,Sem.run_pure,upon];rw[hs];exact hk _ hcut
theorem aF.QG{t el:TypeId}{x:Operand}{hi:Option Operand}{by' o n h' cap:Nat}{z:Value}{ob:Option Nat}{pre cs sp:List Value}{xs:List α}(hu:P.underlying t=some (.slice el))(ti:TI P el r.sz by' z)(hz:(r.sz==0)=false)
    (hx:ρ x=fJ ob o n cap)(hc:dR w ob (.cells (pre++(cs++sp))))(hE:cz r H cs xs)(hn:n=xs.length)(hcap:(cs++sp).length=cap*r.sz)(hhi:(hi=none/\h'=xs.length)\/∃k y,hi=some y/\ρ y=.int k ((h':Nat):Int))(h2:h'<=xs.length)
    (hk:∀cs' sp',cs'++sp'=cs++sp->cz r H cs' (xs.take h')->R (fJ ob o (xs.take h').length cap) w):aF P (.slice t x none hi none) ty ρ w R:=by
  have hpos : 0 < r.sz := by have : ¬ r.sz = 0 := by simpa using hz
                             omega
  have hlen:=hE.length;have hE':=hE.cut (fI h') h2;rw[DQ,mf,mf]at hE';have hkk:=hk (cs.take (h'*r.sz)) (cs.drop (h'*r.sz)++sp) (by rw[<-jS,oC]) hE';rw[fm,kX h2]at hkk;have hcx:xs.length<=cap:=by
    have:xs.length*r.sz<=cap*r.sz:=by rw[<-hcap,dL,hlen];omega
    exact DM this hpos
  obtain⟨inf,hi',hs,_,_⟩:=ti;have key:∀a,ρ x=.slice a n cap->R (.slice a (h'-0) (cap-0)) w->aF P (.slice t x none hi none) ty ρ w R:=by
    intro a hxa hR;have hr:=BA (P:=P) (w:=w) hu hi' a n cap 0 h' none (hi.map ρ) (.inl ⟨rfl,rfl⟩)
      (by rcases hhi with⟨rfl,rfl⟩|⟨k,y,rfl,hy⟩
          . exact .inl ⟨rfl,hn.symm⟩
          . exact .inr ⟨k,by simp[hy]⟩) (fI _) (by omega)
    simp only[aF,dI,execOp,hxa];simp only[Iy,Sem.run_bind,hr,Result.andThen_ok,Sem.run_pure,upon];have e:(if cap=0 then a else a.map (·.add (0*inf.size)))=a:=by
      split
      . rfl
      . cases a with
        |none=>rfl
        |some a=>simp[Addr.add]
    rw[e];exact hR
  cases ob with
  |none=>
    have h0:pre++(cs++sp)=[]:=hc;have:cs=[]/\sp=[]:=by simpa using(Ix.1 h0).2
    have hx0:xs.length=0:=by
      rw[this.1]at hlen;rcases ij xs.length with h1|h1
      . exact h1
      . have:1*1<=xs.length*r.sz:=kY h1 hpos;simp at hlen;omega
    have hc0:cap=0:=by
      rw[this.1,this.2]at hcap;rcases ij cap with h1|h1
      . exact h1
      . have:1*1<=cap*r.sz:=kY h1 hpos;simp at hcap;omega
    subst hc0;have hh:h'=0:=by omega
    subst hh;refine key none (by rw[hx,hn,hx0];rfl) ?_;exact hkk
  |some b=>exact key _ hx hkk
def td(pl:List (Nat×Nat))(cells:List Value):List (Nat×List Value)->Option (List Value)
 |[]=>some cells
 |(i,cs)::r=>match pl[i]?with
  |none=>none
  |some (off,size)=>bif !(Nat.beq cs.length size)||Nat.blt cells.length (off+cs.length)then none else td pl (putAt cells off cs) r
def CJ:List Value->List (List Value)->Prop
 |[],[]=>True
 |v::vs,c::cs=>v.cells=c.toArray/\CJ vs cs
 |_,_=>False
theorem N9{pl:List (Nat×Nat)}:∀(is:List Nat) (vs:List Value) (css:List (List Value)) (cells cs:List Value),is.length=vs.length->CJ vs css->td pl cells (is.zip css)=some cs->Instr.fill (pl[·]?) cells.toArray (is.zip vs)=some cs.toArray
 |[],[],[],cells,cs,_,_,h=>by simp[td]at h;subst h;rfl
 |i::is,v::vs,c::css,cells,cs,hl,hp,h=>by
  simp only[PH,td]at h;simp only[PH,Instr.fill];cases hpl:pl[i]?with
  |none=>rw[hpl]at h;cases h
  |some q=>
   obtain⟨off,size⟩:=q;rw[hpl]at h;simp only at h;cases hb:(!(Nat.beq c.length size)||Nat.blt cells.length (off+c.length))with
   |true=>rw[hb]at h;cases h
   |false=>
    rw[hb]at h;simp only[cond_false]at h;have h1:c.length=size/\off+c.length<=cells.length:=by
     simp only[IE,Bool.not_eq_false']at hb;refine⟨ee hb.1,?_⟩;rcases cG cells.length (off+c.length)with h2|h2
     . have:Nat.blt cells.length (off+c.length)=true:=PI h2;rw[this]at hb;cases hb.2
     . exact h2
    have hv:=hp.1;have hsz:v.cells.size=c.length:=by rw[hv];simp
    simp only;rw[aQ (by simp[hsz,h1.1];omega)];have hf:=HP c cells off 0;rw[pK]at hf;rw[hv,show(c.toArray.zipIdx.foldl (λ(cs:Array Value) (x:Value×Nat)=>cs.setIfInBounds (off+x.2) x.1) cells.toArray)=(putAt cells off c).toArray by
     rw[<-hf,<-Array.foldl_toList];simp]
    exact N9 is vs css _ cs (by simpa using hl) hp.2 h
 |[],_::_,_,_,_,hl,_,_=>by simp at hl
 |_::_,[],_,_,_,hl,_,_=>by simp at hl
 |[],[],_::_,_,_,_,hp,_=>hp.elim
 |_::_,_::_,[],_,_,_,hp,_=>hp.elim
def placesOf(P:Program)(fs:List Field):Option (List (Nat×Nat)):=fs.mapM λf=>(P.info? f.type).map λi=>(f.offset,i.size)
def Br(P:Program)(t:TypeId):Option (List (Nat×Nat)):=match P.underlying t with
 |some (.struct fs)=>placesOf P fs.toList
 |_=>none
theorem aF.build{t:TypeId}{pl:List (Nat×Nat)}{sz by':Nat}{z:Value}{zc cs:List Value}{is:List Nat}{vs:List Value}{css:List (List Value)}{parts:List (Nat×Operand)}(hpl:Br P t=some pl)(ti:TI P t sz by' z)(hz:z.cells=zc.toArray)
 (hp:(parts.map λp=>(p.1,ρ p.2))=is.zip vs)(hil:is.length=vs.length)(hc:CJ vs css)(hf:td pl zc (is.zip css)=some cs)(h:R (.agg cs.toArray) w):aF P (.build t parts.toArray) ty ρ w R:=by
 obtain⟨inf,hi,hs,hby,hzz⟩:=ti;have hfill:=N9 is vs css zc cs hil hc hf;unfold Br at hpl;split at hpl
 . rename_i fs hu;have hpl':(fs.mapM (λ(f:Field)=>do pure (f.offset,<-sizeOf f.type)):Sem (Array (Nat×Nat))).run P w=.ok pl.toArray w:=by
    have:=run_places (P:=P) w fs.toList pl hpl;have e:(λ(f:Field)=>(do pure (f.offset,<-sizeOf f.type):Sem (Nat×Nat)))=λf=>Prod.mk f.offset<$>sizeOf f.type:=by
     funext f;rfl
    rw[e,<-uQ (xs:=fs),PF,Sem.run_map,this];rfl
   have hr:(Instr.build t ((parts.toArray.map λ(x:Nat×Operand)=>(x.1,ρ x.2)))).run P w=.ok (.agg cs.toArray) w:=by
    have hlist:((parts.toArray.map λ(x:Nat×Operand)=>(x.1,ρ x.2))).toList=is.zip vs:=by simpa using hp
    have hfn:(λ(i:Nat)=>pl.toArray[i]?)=(λ(i:Nat)=>pl[i]?):=by funext i;simp
    simp only[Instr.build,Sem.run_bind,zeroValue,typeInfo,run_program,Result.andThen_ok,hi,Sem.run_pure,hzz,run_underlying hu,hpl',hz,hlist,hfn,hfill]
   simp only[aF,dI,execOp];simp only[Sem.run_bind,hr,Result.andThen_ok,Sem.run_pure,upon];exact h
 . cases hpl
theorem aF.R5{t:TypeId}{x:Operand}{fs:Array Field}{f:Field}{i:Nat}{d:TypeDesc}{cs:List Value}{v:Value}(hu:P.underlying t=some (.struct fs))(hf:fs[i]?=some f)(hd:P.underlying f.type=some d)(hg:js d=false)(hx:ρ x=.agg cs.toArray)(hv:cs[f.offset]?=some v)(h:R v w):aF P (.field t x i) ty ρ w R:=by
 have hr:(Instr.field t (.agg cs.toArray) i).run P w=.ok v w:=by
  simp[Instr.field,run_underlying hu,hf,asAgg,part,Ay hd,hg,hv]
 simp only[aF,dI,execOp,hx];simp only[Sem.run_bind,hr,Result.andThen_ok,Sem.run_pure,upon];exact h
theorem aF.TX{t:TypeId}{x:Operand}{fs:Array Field}{f:Field}{i sz by':Nat}{z:Value}{d:TypeDesc}{cs vs:List Value}(hu:P.underlying t=some (.struct fs))(hf:fs[i]?=some f)(hd:P.underlying f.type=some d)(hg:js d=true)(ti:TI P f.type sz by' z)(hx:ρ x=.agg cs.toArray)(hv:(cs.drop f.offset).take sz=vs)(h:R (.agg vs.toArray) w):aF P (.field t x i) ty ρ w R:=by
 obtain⟨inf,hi,hs,hby,hzz⟩:=ti;have hr:(Instr.field t (.agg cs.toArray) i).run P w=.ok (.agg vs.toArray) w:=by
  simp[Instr.field,run_underlying hu,hf,asAgg,part,Ay hd,hg,sizeOf,typeInfo,hi,hs];rw[<-hv]
 simp only[aF,dI,execOp,hx];simp only[Sem.run_bind,hr,Result.andThen_ok,Sem.run_pure,upon];exact h
def imax(x y:Int):Int:=if y>x then y else x
def zX(x y:Int):Int:=if y<x then y else x
theorem aF.max{a b:Operand}{ats:Array TypeId}{k k':IntKind}{x y:Int}(hx:ρ a=.int k x)(hy:ρ b=.int k' y)(h:R (.int k (imax x y)) w):aF P (.call {callee:=.builtin .max,args:=#[a,b],argTypes:=ats}) ty ρ w R:=by
 simp only[aF,dI,execOp,resolve,invoke,builtin];simp[hx,hy,Builtin.max_,Builtin.max2,upon];exact h
theorem aF.min{a b:Operand}{ats:Array TypeId}{k k':IntKind}{x y:Int}(hx:ρ a=.int k x)(hy:ρ b=.int k' y)(h:R (.int k (zX x y)) w):aF P (.call {callee:=.builtin .min,args:=#[a,b],argTypes:=ats}) ty ρ w R:=by
 simp only[aF,dI,execOp,resolve,invoke,builtin];simp[hx,hy,Builtin.min_,Builtin.min2,upon];exact h
end
theorem Sa{P:Program}{w:World}{t:TypeId}{d:TypeDesc}{b:Nat}{cs:List Value}{v:Value}(hd:P.underlying t=some d)(hg:js d=false)(hc:dR w (some b) (.cells cs))(hv:cs[0]?=some v):(loadVar t ⟨b,0,none⟩).run P w=.ok v w:=
 EL hd hg (tp hc hv)
theorem RR{P:Program}{w:World}{t:TypeId}{d:TypeDesc}{b sz by':Nat}{z:Value}{cs:List Value}(hd:P.underlying t=some d)(hg:js d=true)(ti:TI P t sz by' z)(hc:dR w (some b) (.cells cs))(hl:cs.length=sz):(loadVar t ⟨b,0,none⟩).run P w=.ok (.agg cs.toArray) w:=
 HO hd hg ti hl (VR hc rfl)
open Go Go.RowKit
theorem Ky{α:Type}{sz:Nat}{R R':Hp->List Value->α->Prop}{H:Hp}{v:Value}{xs:List α}(h:∀vs x,R H vs x->R' H vs x)(hs:Sl sz R H v xs):Sl sz R' H v xs:=by
 rcases hs with⟨h1,h2⟩|⟨b,o,cap,hv,hc,hx⟩
 . exact .inl ⟨h1,h2⟩
 . refine .inr ⟨b,o,cap,hv,hc,λi y hi=>?_⟩;obtain⟨vs,h1,h2,h3⟩:=hx i y hi;exact⟨vs,h1,h2,h _ _ h3⟩
theorem Jh{α:Type}{p:Nat->α->Nat->Prop}(hm:∀i x n m,n<=m->p i x n->p i x m):∀(xs:List α) (k:Nat),(∀i x,xs[i]?=some x->∃n,p (k+i) x n)->∃n,∀i x,xs[i]?=some x->p (k+i) x n
 |[],k,_=>⟨0,λi x h=>by simp at h⟩
 |y::xs,k,h=>by
  obtain⟨n1,h1⟩:=h 0 y rfl;obtain⟨n2,h2⟩:=Jh hm xs (k+1) (λi x hx=>by
   obtain⟨n,hn⟩:=h (i+1) x (by simpa using hx);exact⟨n,by rw[show k+1+i=k+(i+1) by omega];exact hn⟩)
  refine⟨max n1 n2,λi x hx=>?_⟩;cases i with
  |zero=>simp at hx;subst hx;exact hm _ _ _ _ (Nat.le_max_left _ _) h1
  |succ i=>
   have:=h2 i x (by simpa using hx);rw[show k+1+i=k+(i+1) by omega]at this;exact hm _ _ _ _ (Nat.le_max_right _ _) this
theorem V8{α:Type}{sz:Nat}{Rn:Nat->Hp->List Value->α->Prop}{H:Hp}{v:Value}{xs:List α}(hm:∀n m vs x,n<=m->Rn n H vs x->Rn m H vs x)(hs:Sl sz (λH vs x=>∃n,Rn n H vs x) H v xs):∃n,Sl sz (Rn n) H v xs:=by
 rcases hs with⟨h1,h2⟩|⟨b,o,cap,hv,hc,hx⟩
 . exact⟨0,.inl ⟨h1,h2⟩⟩
 . obtain⟨n,hn⟩:=Jh (p:=λi (x:α) n=>∃vs:List Value,vs.length=sz/\At H b (o+i*sz) vs/\Rn n H vs x) (λi x n m hnm h=>by obtain⟨vs,g1,g2,g3⟩:=h;exact⟨vs,g1,g2,hm _ _ _ _ hnm g3⟩) xs 0
    (λi x hi=>by
     obtain⟨vs,g1,g2,n,g3⟩:=hx i x hi;exact⟨n,vs,g1,by rw[ff];exact g2,g3⟩)
   refine⟨n,.inr ⟨b,o,cap,hv,hc,λi x hi=>?_⟩⟩;have:=hn i x hi;rwa[ff]at this
def q9(s:Nat)(O:List (Option Nat))(w:World)(O':List (Option Nat))(w':World):Prop:=∀S,Le (Hv s S O w) (Hv s S O' w')
def pickL{α:Type}(l:List α):List Nat->Option (List α)
 |[]=>some []
 |i::r=>match l[i]?,pickL l r with
  |some x,some y=>some (x::y)
  |_,_=>none
def gE:List Nat->Bool
 |[]=>true
 |i::r=>!(cI i r)&&gE r
section
variable {P:Program} {s:Nat} {S:Nat->Prop} {X O O' O'':List (Option Nat)} {C C':List dE} {w w' w'' w0:World} {α:Type} {r:cx α}
theorem q9.step(h:Step O O' w w'):q9 s O w O' w':=λ_=>Hv.step h
theorem q9.ext(h:Ext w w'):q9 s O w O w':=λ_=>Hv.ext h
theorem ks(w:World){O O':List (Option Nat)}{w1 w2:World}(h:Step O O' w1 w2):q9 w.heap.size O w1 O' w2:=q9.step h
theorem ke{X F:List (Option Nat)}{w0 w1 w2:World}{O:List (Option Nat)}{C:List dE}(hL:Loc X F w0 w1 O C)(h:Ext w1 w2):q9 w0.heap.size O w1 O w2:=q9.ext h
theorem pT{b:Nat}{cs:List Value}(hc:dR w (some b) (.cells cs)){H:Hp}(hH:∀o,w.heap[b]?=some o->H b=some o):At H b 0 cs:=by
 obtain⟨t,lo,hi,h1,_⟩:=hc;intro i hi;simp[mw,hH _ h1]
theorem xX{H:Hp}{b o n cap:Nat}{pre cs sp:List Value}{xs:List α}(hA:At H b 0 (pre++(cs++sp)))(hE:cz r H cs xs)(hz:(r.sz==0)=false)(ho:o=pre.length)(hn:n=xs.length)(hcap:(cs++sp).length=cap*r.sz):Rs r H (fJ (some b) o n cap) xs:=by
  have hpos : 0 < r.sz := by have : ¬ r.sz = 0 := by simpa using hz
                             omega
  subst ho;subst hn;have hcx:xs.length<=cap:=by
    have:xs.length*r.sz<=cap*r.sz:=by rw[<-hcap,dL,hE.length];omega
    exact DM this hpos
  refine cz.rs (pre:=pre) hE ?_ hcx;have:=hA.part (us:=cs) pre.length (by rw[DR rfl,Iz rfl]);rwa[ff]at this
theorem rV{H H':Hp}{o n cap:Nat}{pre cs sp:List Value}{xs:List α}(h0:pre++(cs++sp)=[])(hE:cz r H cs xs)(hz:(r.sz==0)=false):Rs r H' (fJ none o n cap) xs:=by
  have hpos : 0 < r.sz := by have : ¬ r.sz = 0 := by simpa using hz
                             omega
  have:xs=[]:=by
    apply DN;rcases ij xs.length with h1|h1
    . exact h1
    . have:=yL (pre:=pre) (sp:=sp) hE (cy h1) hpos;rw[h0]at this;simp at this
  subst this;exact Rs.nil
end
section
variable {P:Program} {ty:TypeId} {ρ:Operand->Value} {w:World} {R:Value->World->Prop}
theorem aF.makeFunc{f:FuncId}{caps:List Operand}{vs:List Value}(hv:caps.map ρ=vs)(h:R (.func (.func f) #[] vs.toArray) w):aF P (.makeFunc (.func f) #[] caps.toArray) ty ρ w R:=by
 have:(caps.toArray.map ρ)=vs.toArray:=by rw[<-hv];simp
 simp only[aF,dI,execOp,this];simp[Instr.makeFunc,upon];exact h
end
open Go Go.RowKit
def Any(_:Nat):Prop:=True
section
variable {s:Nat} {S:Nat->Prop} {X O O' OB:List (Option Nat)} {C CB:List dE} {w w' w'' w0 w1:World} {α:Type} {r:cx α} {Z Z':Nat->Prop} {cf ft:List (Option Nat)} {φ:(Nat->Prop)->World->Prop}
theorem Loc.Wf(w:World):Loc [] [] w w [] []:=Loc.begin trivial trivial
end
theorem MT(x y:List UInt8):(x==y)=decide (x=y):=by
 by_cases h:x=y
 . subst h;simp
 . simp[h]
section
variable {P:Program} {ty:TypeId} {ρ:Operand->Value} {w:World} {R:Value->World->Prop}
theorem aF.sAdd{t u:TypeId}{a b:Operand}{x y:List UInt8}(ha:ρ a=.string (s8 x))(hb:ρ b=.string (s8 y))(hl:(x.length:Int)+y.length<=9223372036854775807)(h:R (.string (s8 (x++y))) w):aF P (.binOp .add t a b u) ty ρ w R:=by
 have h1:¬(((s8 x).size+(s8 y).size:Nat):Int)>IntKind.i64.max:=by
  have hm:IntKind.i64.max=9223372036854775807:=by decide
  rw[yp,yp,hm];omega
 have hr:(Op.stringOp .add (s8 x) (s8 y)).run P w=.ok (.string (s8 (x++y))) w:=by
  simp only[Op.stringOp];rw[aQ h1,Uz];rfl
 simp only[aF,dI,execOp,ha,hb];simp only[binOp,eqGuard];simp[hr,upon];exact h
theorem aF.sEql{t u:TypeId}{a b:Operand}{x y:List UInt8}(ha:ρ a=.string (s8 x))(hb:ρ b=.string (s8 y))(h:R (.bool (decide (x=y))) w):aF P (.binOp .eql t a b u) ty ρ w R:=by
 have hr:(Op.stringOp .eql (s8 x) (s8 y)).run P w=.ok (.bool (decide (x=y))) w:=by
  simp only[Op.stringOp,Oh];rw[MT];rfl
 simp only[aF,dI,execOp,ha,hb];simp only[binOp,eqGuard];simp[hr,upon];exact h
theorem aF.sNeq{t u:TypeId}{a b:Operand}{x y:List UInt8}(ha:ρ a=.string (s8 x))(hb:ρ b=.string (s8 y))(h:R (.bool (decide (¬x=y))) w):aF P (.binOp .neq t a b u) ty ρ w R:=by
 have hr:(Op.stringOp .neq (s8 x) (s8 y)).run P w=.ok (.bool (decide (¬x=y))) w:=by
  simp only[Op.stringOp,Oh];rw[MT,decide_not];rfl
 simp only[aF,dI,execOp,ha,hb];simp only[binOp,eqGuard];simp[hr,upon];simpa using h
end
open Go Go.RowKit
def iw(z:Int):Int:=IntKind.i64.wrap z
def uw(z:Int):Int:=IntKind.u64.wrap z
def eL(z:Int):Int:=IntKind.u32.wrap z
def uw8(z:Int):Int:=IntKind.u8.wrap z
theorem bU{z:Int}(h1:-9223372036854775808<=z)(h2:z<=9223372036854775807):iw z=z:=Nn rfl h1 h2
theorem gD(z:Int):uw z=z%18446744073709551616:=wu
theorem gZ(z:Int):eL z=z%4294967296:=wu32
def rm(k:IntKind)(x y:Int):Int:=k.wrap ((BitVec.ofInt k.bits x&&&BitVec.ofInt k.bits y).toNat:Int)
def ko(k:IntKind)(x y:Int):Int:=k.wrap ((BitVec.ofInt k.bits x|||BitVec.ofInt k.bits y).toNat:Int)
def Bp(k:IntKind)(x y:Int):Int:=k.wrap ((BitVec.ofInt k.bits x^^^BitVec.ofInt k.bits y).toNat:Int)
def HG(k:IntKind)(x y:Int):Int:=k.wrap ((BitVec.ofInt k.bits x&&&~~~BitVec.ofInt k.bits y).toNat:Int)
def bnot(k:IntKind)(x:Int):Int:=Bp k (if k.signed then-1 else k.max) x
def jF(k:IntKind)(x y:Int):Int:=k.wrap (x*2^(min y.toNat k.bits))
def gj(k:IntKind)(x y:Int):Int:=x.fdiv (2^(min y.toNat k.bits))
theorem U4{k:IntKind}{x y:Nat}(hx:k.wrap (x:Int)=(x:Int))(hy:k.wrap (y:Int)=(y:Int)):rm k x y=((x&&&y:Nat):Int):=by
 obtain⟨h1,h2⟩:=Bh hx;obtain⟨h3,h4⟩:=Bh hy;have hw:=JZ (z:=x&&&y) hx hy (DV Nat.and_le_left h1) (λhs=>DV Nat.and_le_left (h2 hs));unfold rm;rw[C7,C7,show(BitVec.ofNat k.bits x&&&BitVec.ofNat k.bits y).toNat=x&&&y by simp[BitVec.toNat_and,Ai h1,Ai h3],hw]
theorem Mn{k:IntKind}{x y:Nat}(hx:k.wrap (x:Int)=(x:Int))(hy:k.wrap (y:Int)=(y:Int)):ko k x y=((x|||y:Nat):Int):=by
 obtain⟨h1,h2⟩:=Bh hx;obtain⟨h3,h4⟩:=Bh hy;have hw:=JZ (z:=x|||y) hx hy (Nat.or_lt_two_pow h1 h3) (λhs=>Nat.or_lt_two_pow (h2 hs) (h4 hs));unfold ko;rw[C7,C7,show(BitVec.ofNat k.bits x|||BitVec.ofNat k.bits y).toNat=x|||y by simp[BitVec.toNat_or,Ai h1,Ai h3],hw]
section
variable {P:Program} {ty:TypeId} {ρ:Operand->Value} {w:World} {R:Value->World->Prop}
theorem aF.iand{t u:TypeId}{a b:Operand}{k:IntKind}{x y:Int}(hx:ρ a=.int k x)(hy:ρ b=.int k y)(h:R (.int k (rm k x y)) w):aF P (.binOp .and t a b u) ty ρ w R:=
 aF.kq hx hy (by simp[binOp,Op.intBits,rm]) h
theorem aF.ior{t u:TypeId}{a b:Operand}{k:IntKind}{x y:Int}(hx:ρ a=.int k x)(hy:ρ b=.int k y)(h:R (.int k (ko k x y)) w):aF P (.binOp .or t a b u) ty ρ w R:=
 aF.kq hx hy (by simp[binOp,Op.intBits,ko]) h
theorem aF.ixor{t u:TypeId}{a b:Operand}{k:IntKind}{x y:Int}(hx:ρ a=.int k x)(hy:ρ b=.int k y)(h:R (.int k (Bp k x y)) w):aF P (.binOp .xor t a b u) ty ρ w R:=
 aF.kq hx hy (by simp[binOp,Op.intBits,Bp]) h
theorem aF.Qx{t u:TypeId}{a b:Operand}{k:IntKind}{x y:Int}(hx:ρ a=.int k x)(hy:ρ b=.int k y)(h:R (.int k (HG k x y)) w):aF P (.binOp .andNot t a b u) ty ρ w R:=
 aF.kq hx hy (by simp[binOp,Op.intBits,HG]) h
theorem aF.ishl{t u:TypeId}{a b:Operand}{k k':IntKind}{x y:Int}(hx:ρ a=.int k x)(hy:ρ b=.int k' y)(h0:¬y<0)(h:R (.int k (jF k x y)) w):aF P (.binOp .shl t a b u) ty ρ w R:=
 aF.kq hx hy (by simp[binOp,Op.shift,h0,jF]) h
theorem aF.ishr{t u:TypeId}{a b:Operand}{k k':IntKind}{x y:Int}(hx:ρ a=.int k x)(hy:ρ b=.int k' y)(h0:¬y<0)(h:R (.int k (gj k x y)) w):aF P (.binOp .shr t a b u) ty ρ w R:=
 aF.kq hx hy (by simp[binOp,Op.shift,h0,gj]) h
theorem aF.inot{t:TypeId}{a:Operand}{k:IntKind}{x:Int}(hx:ρ a=.int k x)(h:R (.int k (bnot k x)) w):aF P (.unOp .xor t a) ty ρ w R:=by
 simp[aF,dI,execOp,hx,Op.unary,Op.intBits,upon];exact h
end
section
variable {P:Program} {ty:TypeId} {ρ:Operand->Value} {w w0:World} {R:Value->World->Prop} {X:List (Option Nat)} {O:List (Option Nat)} {C:List dE} {α:Type} {r:cx α} {H:Hp}
theorem aF.Xw{t el:TypeId}{a c:Operand}{k k':IntKind}{i:Int}{m by':Nat}{z:Value}{zc:List Value}{x:α}{Y:List α}(hu:P.underlying t=some (.slice el))(ti:TI P el r.sz by' z)(hzc:z.cells=zc.toArray)(hR:r.R H zc x)
 (ha:ρ a=.int k i)(hc:ρ c=.int k' i)(hi:i=(m:Int))(hb:by'*m<=281474976710656)(hm:m<=9223372036854775807)(hY:Y=List.replicate m x)(hL:Loc X [] w0 w O C)
 (h:∀b w' cs,cz r H cs Y->(cs++[]).length=m*r.sz->Loc X [] w0 w' (some b::O) (.cells ([]++(cs++[]))::C)->Step O (some b::O) w w'->R (fJ (some b) 0 Y.length m) w'):
 aF P (.makeSlice t a c) ty ρ w R:=by
 subst hY;exact aF.mkRow hu ti hzc hR ha hc hi hb hm hL h
theorem aF.Lp{t el:TypeId}{a c:Operand}{by' n cap i:Nat}{z x:Value}{ob:Option Nat}{cs sp ds:List Value}{xs ys Y:List α}(hu:P.underlying t=some (.slice el))(ti:TI P el r.sz by' z)(hzc:z.cells.size=r.sz)(hz:(r.sz==0)=false)
 (ha:ρ a=fJ ob 0 n cap)(hc:ρ c=x)(hL:Loc X [] w0 w O C)(hO:O[i]?=some ob)(hC:C[i]?=some (.cells ([]++(cs++sp))))(hE:cz r H cs xs)(hn:n=xs.length)(hcap:(cs++sp).length=cap*r.sz)(hsrc:Src w x ys.length r.sz ds)(hD:cz r H ds ys)
 (h63:xs.length+ys.length<=9223372036854775807)(hb:(xs.length+ys.length)*by'<=140737488355328)(hY:Y=xs++ys)
 (h:∀ob' cap' sp' ds' w',cz r H ds' Y->(ds'++sp').length=cap'*r.sz->Loc X [] w0 w' (O.set i ob') (C.set i (.cells ([]++(ds'++sp'))))->Step O (O.set i ob') w w'->R (fJ ob' 0 Y.length cap') w'):
 aF P (.call {callee:=.builtin .append,args:=#[a,c],argTypes:=#[t,t]}) ty ρ w R:=by
 subst hY;exact aF.apRow hu ti hzc hz ha hc hL hO hC hE hn hcap hsrc hD h63 hb h
theorem aF.Ug{t:TypeId}{x y:Operand}{b q n by':Nat}{z v:Value}{pre cs sp vs:List Value}{xs Y:List α}{a:α}(ti:TI P t r.sz by' z)(hx:ρ x=.pointer (some ⟨b,q,none⟩))(hy:ρ y=v)(hv:v.cells=vs.toArray)(hR:r.R H vs a)
 (hL:Loc X [] w0 w O C)(i:Nat)(hO:O[i]?=some (some b))(hC:C[i]?=some (.cells (pre++(cs++sp))))(hE:cz r H cs xs)(hn:n<xs.length)(hq:q=pre.length+n*r.sz)(hY:Y=xs.set n a)
 (h:∀w' cs',Loc X [] w0 w' O (C.set i (.cells (pre++(cs'++sp))))->Step O O w w'->cz r H cs' Y->cs'.length=cs.length->R undef w'):aF P (.store t x y) ty ρ w R:=by
 subst hY;exact aF.stRow ti hx hy hv hR hL i hO hC hE hn hq h
theorem aF.Rp{t el:TypeId}{x:Operand}{lo hi:Option Operand}{by' l h':Nat}{z v:Value}{xs Y:List α}(hu:P.underlying t=some (.slice el))(ti:TI P el r.sz by' z)
 (hx:ρ x=v)(hS:Rs r H v xs)(hlo:(lo=none/\l=0)\/∃k y,lo=some y/\ρ y=.int k ((l:Nat):Int))(hhi:(hi=none/\h'=xs.length)\/∃k y,hi=some y/\ρ y=.int k ((h':Nat):Int))(h1:l<=h')(h2:h'<=xs.length)(hY:Y=(xs.take h').drop l)
 (hk:∀v',Rs r H v' Y->R v' w):aF P (.slice t x lo hi none) ty ρ w R:=by
 subst hY;exact aF.cutRo hu ti hx hS hlo hhi h1 h2 hk
theorem aF.Ua{t el:TypeId}{x:Operand}{hi:Option Operand}{by' o n l h' cap:Nat}{z:Value}{ob:Option Nat}{pre cs sp:List Value}{xs Y:List α}(hu:P.underlying t=some (.slice el))(ti:TI P el r.sz by' z)(hz:(r.sz==0)=false)
 (hx:ρ x=fJ ob o n cap)(hc:dR w ob (.cells (pre++(cs++sp))))(hE:cz r H cs xs)(hn:n=xs.length)(hcap:(cs++sp).length=cap*r.sz)(hhi:(hi=none/\h'=xs.length)\/∃k y,hi=some y/\ρ y=.int k ((h':Nat):Int))(h2:h'<=xs.length)(hl:(0:Int)=(l:Int))(hY:Y=(xs.take h').drop l)
 (hk:∀cs' sp',cs'++sp'=cs++sp->cz r H cs' Y->R (fJ ob o Y.length cap) w):aF P (.slice t x none hi none) ty ρ w R:=by
 have:l=0:=by omega
 subst this;rw[mf]at hY;subst hY;exact aF.QG hu ti hz hx hc hE hn hcap hhi h2 hk
end
open Go Go.RowKit
theorem Jy{α:Type}{p:Prop}[Decidable p]{A B r:α}(hc:p)(h:(if p then A else B)=r):A=r:=by rw[bA hc]at h;exact h
theorem Nk{α:Type}{p:Prop}[Decidable p]{A B r:α}(hc:¬p)(h:(if p then A else B)=r):B=r:=by rw[aQ hc]at h;exact h
section
variable {P:Program} {ty:TypeId} {ρ:Operand->Value} {w:World} {R:Value->World->Prop} {α:Type} {r:cx α} {H:Hp}
theorem aF.JH{t el:TypeId}{x y:Operand}{b o m cap:Nat}{i:Int}{n:Nat}{k:IntKind}{by':Nat}{z v:Value}{xs:List α}{a:α}(hu:P.underlying t=some (.slice el))(ti:TI P el r.sz by' z)
 (hx:ρ x=v)(hv:v=.slice (some ⟨b,o,none⟩) xs.length cap)(hy:ρ y=.int k i)(hi:i=(n:Int))(hn:xs[n]?=some a)(hm:m=o+n*r.sz)
 (h:R (.pointer (some ⟨b,m,none⟩)) w):aF P (.indexAddr t x y) ty ρ w R:=by
 subst hi;subst hm;exact aF.indexAddr hu ti (hx.trans hv) hy (eN.1 hn).1 rfl h
theorem aF.EY{t el:TypeId}{x y:Operand}{b o m cap q:Nat}{i:Int}{n:Nat}{k:IntKind}{by':Nat}{z:Value}{xs:List α}(hu:P.underlying t=some (.slice el))(ti:TI P el r.sz by' z)
 (hx:ρ x=fJ (some b) o m cap)(hm:m=xs.length)(hy:ρ y=.int k i)(hi:i=(n:Int))(hn:n<xs.length)(hq:q=o+n*r.sz)
 (h:R (.pointer (some ⟨b,q,none⟩)) w):aF P (.indexAddr t x y) ty ρ w R:=by
 subst hi;subst hq;subst hm;exact aF.indexAddr hu ti hx hy hn rfl h
theorem aF.NG{t:TypeId}{x:Operand}{d:TypeDesc}{b q:Nat}{cs:List Value}{v:Value}(hd:P.underlying t=some d)(hg:js d=false)(hx:ρ x=.pointer (some ⟨b,q,none⟩))(hc:dR w (some b) (.cells cs))
 (hv:(cs.drop q).take [v].length=[v])(h:R v w):aF P (.load t x) ty ρ w R:=by
 refine aF.Oj hd hg hx hc ?_ h;have:=dd (·[0]?) hv;simp only[lJ,xj,sH,Nat.lt_one_iff,if_true,pK]at this;exact this
end
open Go Go.RowKit
end Go.X
namespace Go.X
open Go Go.RowKit
section
variable {P:Program} {ty:TypeId} {ρ:Operand->Value} {w w0:World} {R:Value->World->Prop} {X:List (Option Nat)} {O:List (Option Nat)} {C:List dE} {α:Type} {r:cx α} {H:Hp}
theorem aF.Vs{t:TypeId}{x y:Operand}{xs:List UInt8}{i:Int}{n:Nat}{k:IntKind}{a:UInt8}(hu:P.underlying t=some .string)(hx:ρ x=.string (s8 xs))(hy:ρ y=.int k i)(hi:i=(n:Int))(hn:xs[n]?=some a)(hk:R (.int .u8 (a.toNat:Int)) w):aF P (.index t x y) ty ρ w R:=by
 subst hi;have hlt:=(eN.1 hn).1;have hg:(s8 xs)[n]?=some a:=by
  have hs:n<(s8 xs).size:=by rw[yp];exact hlt
  rw[getElem?_pos (s8 xs) n hs];exact dd some (eN.1 hn).2
 have hr:(Instr.index t (.string (s8 xs)) (.int k ((n:Nat):Int))).run P w=.ok (.int .u8 (a.toNat:Int)) w:=by
  simp only[Instr.index,asIntOf,Sem.run_bind,Sem.run_pure,Result.andThen_ok,run_underlying hu,mQ,hg];simp
 simp only[aF,dI,execOp,hx,hy];simp only[Sem.run_bind,hr,Result.andThen_ok,Sem.run_pure,upon];exact hk
end
open Go Go.RowKit
def og{α:Type}(xs:List α)(l h:Int):Option Unit:=if 0<=l/\l<h/\h<=xs.length then some ()else none
theorem JX{α:Type}{xs:List α}{l h:Int}{u:Unit}(hs:og xs l h=some u):∃m n:Nat,l=(m:Int)/\h=(n:Int)/\m<n/\n<=xs.length:=by
 unfold og at hs;split at hs
 . exact⟨l.toNat,h.toNat,by omega,by omega,by omega,by omega⟩
 . cases hs
theorem Kh{α:Type}{xs:List α}{l h:Nat}(h1:l<h)(h2:h<=xs.length):og xs (l:Int) (h:Int)=some ():=by
 unfold og;rw[bA ⟨by omega,by omega,by omega⟩]
theorem T0{α:Type}{r:cx α}{H:Hp}{cs sp:List Value}{xs:List α}{cap:Nat}(hE:cz r H cs xs)(hz:(r.sz==0)=false)(hcap:(cs++sp).length=cap*r.sz):xs.length<=cap:=by
  have hpos : 0 < r.sz := by have : ¬ r.sz = 0 := by simpa using hz
                             omega
  have:xs.length*r.sz<=cap*r.sz:=by rw[<-hcap,dL,hE.length];omega
  exact DM this hpos
section
variable {P:Program} {ty:TypeId} {ρ:Operand->Value} {w w0:World} {R:Value->World->Prop} {X:List (Option Nat)} {O:List (Option Nat)} {C:List dE} {α:Type} {r:cx α} {H:Hp}
theorem aF.QD{t el:TypeId}{x:Operand}{lo hi:Option Operand}{by' b l h' cap ln:Nat}{z:Value}{cs sp:List Value}{xs:List α}(hu:P.underlying t=some (.slice el))(ti:TI P el r.sz by' z)(hz:(r.sz==0)=false)
 (hx:ρ x=fJ (some b) 0 ln cap)(hln:ln=xs.length)(hE:cz r H cs xs)(hcap:(cs++sp).length=cap*r.sz)(hlo:(lo=none/\l=0)\/∃k y,lo=some y/\ρ y=.int k ((l:Nat):Int))(hhi:(hi=none/\h'=ln)\/∃k y,hi=some y/\ρ y=.int k ((h':Nat):Int))(h1:l<h')(h2:h'<=xs.length)
 (hk:R (.slice (some ⟨b,0+l*r.sz,none⟩) (h'-l) (cap-l)) w):aF P (.slice t x lo hi none) ty ρ w R:=by
 have:=T0 hE hz hcap;exact aF.UJ hu ti hx hlo hhi (by omega) (by omega) (by omega) hk
theorem aF.Nj{x:Operand}{t el:TypeId}{a:Option Addr}{n cap:Nat}{e:Int}(hu:P.underlying t=some (.slice el))(hx:ρ x=.slice a n cap)(he:((n:Nat):Int)=e)(h:R (.int .i64 e) w):
 aF P (.call {callee:=.builtin .len,args:=#[x],argTypes:=#[t]}) ty ρ w R:=by
 subst he;exact aF.sU hu hx h
end
open Go Go.RowKit
open Go Go.RowKit
theorem cz.GW{α:Type}{r:cx α}(hr:∀(H H':Hp) (vs:List Value) (x:α),r.R H vs x->r.R H' vs x){H H':Hp}:∀{cs:List Value} {xs:List α},cz r H cs xs->cz r H' cs xs
 |_,[],h=>h
 |_,_::_,⟨a,b,h1,h2,h3⟩=>⟨a,b,h1,hr _ _ _ _ h2,h3.GW hr⟩
def xP(v:Value):Prop:=∀a n c,v=.slice a n c->n=c
section
variable {P:Program} {ty:TypeId} {ρ:Operand->Value} {w w0:World} {R:Value->World->Prop} {X:List (Option Nat)} {O:List (Option Nat)} {C:List dE} {α:Type} {r:cx α} {H:Hp}
theorem aF.QI{t el:TypeId}{x:Operand}{y y':Operand}{by' n:Nat}{i:Int}{k k':IntKind}{z v:Value}{xs:List α}(hu:P.underlying t=some (.slice el))(ti:TI P el r.sz by' z)
 (hx:ρ x=v)(hS:Rs r H v xs)(hy:ρ y=.int k i)(hy':ρ y'=.int k' i)(hi:i=(n:Int))(hn:n=xs.length)
 (hk:∀v',Rs r H v' xs->xP v'->R v' w):aF P (.slice t x none (some y) (some y')) ty ρ w R:=by
 obtain⟨inf,hi',hs,_,_⟩:=ti;subst hi;subst hn;obtain⟨a,len,cap,rfl⟩:∃a len cap,v=.slice a len cap:=by
  rcases hS with⟨⟨oa,h⟩,_⟩|⟨b,o,c,h,_⟩<;>exact⟨_,_,_,h⟩
 have hlen:len=xs.length/\xs.length<=cap:=by
  rcases hS with⟨⟨oa,h⟩,h2⟩|⟨b,o,c,h,h2,_⟩
  . cases h;rw[h2];exact⟨rfl,bQ _⟩
  . cases h;exact⟨rfl,h2⟩
 obtain⟨rfl,hc⟩:=hlen;have b1:∀k m,xs.length<=m->∀code,(Instr.sliceBound (.int k ((xs.length:Nat):Int)) m code).run P w=.ok xs.length w:=by
  intro k m hm code;have:(xs.length:Int)<=(m:Int):=by omega
  simp[Instr.sliceBound,asIntOf,this,hm]
 have hr:(Instr.sliceAt t (.slice a xs.length cap) none (some (.int k ((xs.length:Nat):Int))) (some (.int k' ((xs.length:Nat):Int)))).run P w=.ok (.slice a xs.length xs.length) w:=by
  have e:(if xs.length=0 then a else a.map (·.add (0*inf.size)))=a:=by
   split
   . rfl
   . cases a with
     |none=>rfl
     |some a=>simp[Addr.add]
  have h1:=b1 k' cap hc;have h2:=b1 k xs.length (bQ _);simp only[Instr.sliceAt,Instr.slice,Sem.run_bind,run_underlying hu,Result.andThen_ok,Instr.sliceBounds,Option.isSome_some,if_true,h1,h2,sizeOf,typeInfo,run_program,hi',Sem.run_pure,Nat.sub_zero,e]
 simp only[aF,dI,execOp,hx];simp only[Iy,pL,hy,hy',Sem.run_bind,hr,Result.andThen_ok,Sem.run_pure,upon];refine hk _ ?_ (λa' n' c' h=>by cases h;rfl);rcases hS with⟨⟨oa,h⟩,h2⟩|⟨b,o,c,h,h2,h3⟩
 . subst h2;injection h with e1 _ _;subst e1;exact .inl ⟨⟨_,rfl⟩,rfl⟩
 . injection h with e1 _ _;subst e1;exact .inr ⟨b,o,_,rfl,bQ _,h3⟩
end
open Go Go.RowKit
section
variable {P:Program} {ty:TypeId} {ρ:Operand->Value} {w w0:World} {R:Value->World->Prop} {X:List (Option Nat)} {O:List (Option Nat)} {C:List dE} {α:Type} {r:cx α} {S':Nat->Prop}
theorem aF.Ns{t el:TypeId}{a c:Operand}{by':Nat}{z v x:Value}{ds:List Value}{xs ys Y:List α}(hu:P.underlying t=some (.slice el))(ti:TI P el r.sz by' z)(hzc:z.cells.size=r.sz)(hz:(r.sz==0)=false)
    (ha:ρ a=v)(hc:ρ c=x)(hS:Rs r (vw S' w) v xs)(hcl:xP v)(hsrc:Src w x ys.length r.sz ds)(hD:cz r (vw S' w) ds ys)(hpos:0<ys.length)
    (h63:xs.length+ys.length<=9223372036854775807)(hb:(xs.length+ys.length)*by'<=140737488355328)(hY:Y=xs++ys)(hL:Loc X [] w0 w O C)
    (h:∀b cap sp cs w',cz r (vw S' w) cs Y->(cs++sp).length=cap*r.sz->Loc X [] w0 w' (some b::O) (.cells ([]++(cs++sp))::C)->Step O (some b::O) w w'->R (fJ (some b) 0 Y.length cap) w'):
    aF P (.call {callee:=.builtin .append,args:=#[a,c],argTypes:=#[t,t]}) ty ρ w R:=by
  obtain⟨inf,hi,hs,hby,hzz⟩:=ti;subst hby;subst hY;obtain⟨hnl,hsrc⟩:=hsrc;obtain⟨b2,o2,c2,rfl,hcell⟩:∃b o cap,x=.slice (some ⟨b,o,none⟩) ys.length cap/\∀j u,ds[j]?=some u->w.cell? ⟨b,o+j,none⟩=some u:=by
    rcases hsrc with⟨_,h⟩|h
    . omega
    . exact h
  have hnews:∀j u,ds[j]?=some u->w.cell? ((⟨b2,o2,none⟩:Addr).add j)=some u:=λj u hj=>by rw[add_plain];exact hcell j u hj
  have fin:∀(olds:List Value) (fg:Nat),fg<xs.length+ys.length->cz r (vw S' w) olds xs->
      (Builtin.append_ #[t,t] ty #[v,.slice (some ⟨b2,o2,none⟩) ys.length c2]).run P w=.ok (.slice (some ⟨w.heap.size,0,none⟩) (xs.length+ys.length) (grownCap w (xs.length+ys.length) fg el))
        (w.drew.alloc (.cells (olds.toArray++ds.toArray++Builtin.zeroCells z.cells (grownCap w (xs.length+ys.length) fg el-(xs.length+ys.length))) el))->
      aF P (.call {callee:=.builtin .append,args:=#[a,c],argTypes:=#[t,t]}) ty ρ w R:=by
    intro olds fg ho hE hr;have hge:=grownCap_ge w (xs.length+ys.length) fg el;have hEL:=Ext.drawn w (w.drawn+1);have hL1:Loc X [] w0 w.drew O C:=hL.ext hEL;have hal:=hL1.alloc (o:=.cells (olds.toArray++ds.toArray++Builtin.zeroCells z.cells (grownCap w (xs.length+ys.length) fg el-(xs.length+ys.length))) el)
      (c:=.cells ([]++((olds++ds)++(Builtin.zeroCells z.cells (grownCap w (xs.length+ys.length) fg el-(xs.length+ys.length))).toList)))
      (by have:=pt w.drew (olds.toArray++ds.toArray++Builtin.zeroCells z.cells (grownCap w (xs.length+ys.length) fg el-(xs.length+ys.length))) el
          simpa using this)
    have hst:Step O (some w.heap.size::O) w (w.drew.alloc (.cells (olds.toArray++ds.toArray++Builtin.zeroCells z.cells (grownCap w (xs.length+ys.length) fg el-(xs.length+ys.length))) el)):=
      Step.trans (Step.ext hEL) hal.2 (bQ _)
    have hk:=h w.heap.size (grownCap w (xs.length+ys.length) fg el) (Builtin.zeroCells z.cells (grownCap w (xs.length+ys.length) fg el-(xs.length+ys.length))).toList (olds++ds) _ (hE.append hD)
      (by simp only[dL,Array.length_toList,size_zeroCells,hzc,hE.length,hnl,<-iJ];congr 1;omega) hal.1 hst
    rw[dL]at hk;simp only[aF,dI,execOp,resolve,invoke,builtin];simp[ha,hc,hr,upon];simpa[fJ]using hk
  have hfit:∀fg,fg<xs.length+ys.length->Builtin.nextslicecap (xs.length+ys.length) fg*inf.bytes<=281474976710656:=λfg ho=>growslice_fits ho hb;rcases hS with⟨h1,h2⟩|⟨b,o,cap,hv,hcap,hxs⟩
  . obtain⟨oa,h1⟩:=h1;subst h1;subst h2;refine fin [] 0 (by simp;omega) rfl ?_;cases oa with
    |some a=>
      exact run_append_grow (P:=P) w t ty el inf z hu hi hzz a 0 0 [] (by simp) (λj u hj=>by simp at hj) ⟨b2,o2,none⟩ ys.length c2 ds (by rw[hnl,hs]) hnews (by omega) (by omega) (hfit 0 (by omega))
    |none=>
    have hr:=run_append_nil (P:=P) w t ty el inf z hu hi hzz ⟨b2,o2,none⟩ ys.length c2 ds (by rw[hnl,hs]) hnews hpos (by simp at h63;omega) (by
      have:ys.length*inf.bytes<=140737488355328:=by simpa using hb
      omega)
    simpa using hr
  . have hcn:=hcl _ _ _ hv;obtain⟨cs,g1,g2⟩:=Rs.cells hxs;refine fin cs cap (by omega) g2 ?_;subst hv;have hr:=run_append_grow (P:=P) w t ty el inf z hu hi hzz ⟨b,o,none⟩ xs.length cap cs (by rw[g2.length,hs]) (λj u hj=>by
      rw[add_plain];exact zM (A:=[]) (yf (λb o h=>wZ (AJ h).2 (by simp)) (g1.get j hj))) ⟨b2,o2,none⟩ ys.length c2 ds (by rw[hnl,hs]) hnews (by omega) (by omega) (hfit cap (by omega))
    exact hr
end
open Go.ChangeShapes Go.WideShapes Go.ChangeAt Go.RowKit
section
variable {H:Type} {enc:TypeId×Value->H} {P:Program} {W:World}
theorem Lq{W':World}(hl:laidOutB P=true)(hE:Ext W W'){sp:Nat->Bool}:
 ∀{ts:List TypeId} {vs:List Value} {ds:List (DataW H)} {p:List MemPlace},(∀t∈ts,P.readableRec t=true/\t<P.types.size)->(∀x∈p,x.block<W.heap.size)->(∀x∈p,sp x.block=true)->
  DataW.TrodAll enc P W 0 (λ_=>true) true ts vs ds p->DataW.TrodAll enc P W' 0 sp true ts vs ds p
 |[],_,_,_,_,_,_,h=>by
  obtain⟨rfl,rfl,rfl⟩:=trodAll_nil h;exact trodAll_mk0
 |t::ts,vs,ds,p,hr,hlt,hsp,h=>by
  obtain⟨v,vs1,d,ds1,a,b,rfl,rfl,rfl,h1,h2⟩:=trodAll_cons h;have hrt:=hr t cU;exact trodAll_cons_mk (WideElems.Trod_stays hl hrt.1 hrt.2 h1 (λx hx=>hE.same (hlt x (DW _ hx))) (λx hx=>hsp x (DW _ hx)))
   (Lq hl hE (λu hu=>hr u (cP _ hu)) (λx hx=>hlt x (xt _ hx)) (λx hx=>hsp x (xt _ hx)) h2)
theorem QY{f:Func}{s:ChangeSpec}{apart fresh handsOn again:Bool}{W':World}{args:Array Value}{ds gs:List (DataW H)}{before:List MemPlace}{tb:TypeId}
 (hl:laidOutB P=true)(hr:∀t∈f.params.toList,P.readableRec t=true/\t<P.types.size)(hv:s.vars=[])(hrt:f.resultTypes=#[tb]) (htb:P.underlying tb=some .bool)
 (hW:DataW.Whole enc P f.params.toList s.vars apart W args.toList ds gs before) (hs:s.fn H (ds++gs)={results:=[.lit (.bool true)],args:=ds}) (hE:Ext W W'):
 s.post enc P f apart fresh handsOn again W args (.bool true) W':=by
 have hlt:=hW.lt;have hW':=hW;obtain⟨p,q,hA,hV,rfl,hz,hn⟩:=hW;rw[hv]at hV;obtain⟨rfl,rfl⟩:=trodVars_none hV;simp only[lH]at*;have hargs:∀sp:Nat->Bool,(∀x∈p,sp x.block=true)->DataW.TrodAll enc P W' 0 sp true f.params.toList args.toList (s.fn H ds).args p:=λsp hsp=>by
  rw[hs];exact Lq hl hE hr hlt hsp hA
 have hvars:∀sp:Nat->Bool,DataW.TrodVars enc P W' sp s.vars (s.fn H ds).vars []:=λsp=>by rw[hs,hv];rfl
 have hres:∀(b:Nat) (sp:Nat->Bool) (hd:Bool),DataW.TrodAll enc P W' b sp hd f.resultTypes.toList ((Value.bool true).resultList f.resultTypes.size) (s.fn H ds).results []:=λb sp hd=>by
  rw[hs,hrt];exact trodAll_cons_mk (shut_bool htb _) trodAll_mk0
 have hok:=ok_one (P:=P) (W':=W') (f:=f) (v:=.bool true) hrt rfl (okWide_bool_mk htb _);refine⟨ds,[],p,[],p,[],by simpa using hW',by simpa using hres _ _ _,by simpa using hargs _ (λx hx=>by simpa using hlt x hx),by simpa using hvars _,hE.frame _,λ_=>?_⟩;refine⟨hok,_,_,([]++p)++[],⟨[]++p,[],trodAll_append (by simpa using hargs _ (λ_ _=>rfl)) (by simpa using hres _ _ _),by simpa using hvars _,rfl,?_,?_⟩,?_⟩
 . intro b off hp;have hp':MemPlace.cell b off∈p:=by simpa using hp
   have hlb:=hlt _ hp';have:=hz b off hp';have hb:=hE.block b (show b<W.heap.size from hlb);simp only[World.frozen?,hb]at this⊢;exact this
 . intro ha;simpa using hn ha
 . intro x hx _;simpa using hx
end
open Go Go.ChangeShapes Go.WideShapes Go.ChangeAt Go.RowKit
section
variable {H:Type} {enc:TypeId×Value->H} {P:Program} {W:World}
noncomputable abbrev HW(W:World):Hp:=Hv W.heap.size (λ_=>True) [] W
theorem M7{w:World}{b o:Nat}{v:Value}(h:w.cell? ⟨b,o,none⟩=some v):mw (HW w) b o=some v:=by
 unfold World.cell? at h;unfold mw HW Hv vw;have hs:HS w.heap.size (λ_=>True) [] b:=⟨.inl trivial,by simp⟩;rw[bA hs];cases hb:w.heap[b]?with
 |none=>rw[hb]at h;cases h
 |some x=>
  rw[hb]at h;cases x<;>simp_all
theorem cell_spot{w:World}{a:Addr}{v:Value}(h:w.cell? a=some v):a.spot=none:=by
 unfold World.cell? at h;split at h
 . split at h
   . cases h
   . rename_i h1;cases hs:a.spot with
     |none=>rfl
     |some _=>rw[hs]at h1;simp at h1
 . cases h
def aO(enc:TypeId×Value->H)(P:Program)(W:World)(N:Nat){α:Type}(r:cx α)(t:TypeId)(G:α->Prop):Prop:= ∀fuel,fuel<=N->∀cs x,DataW.trod enc P W 0 (λ_=>true) true fuel t cs=some x->∃a,r.R (HW W) cs a/\G a
theorem aO.int{N:Nat}{t:TypeId}{k:IntKind}(ht:P.underlying t=some (.int k)):aO enc P W N (BO k) t (λx=>(Lit.int k x).wf=true):=by
 intro fuel _ cs x h;obtain⟨n,rfl,_,hw⟩:=DataW.trod_int ht h;exact⟨n,rfl,hw⟩
theorem aO.bool{N:Nat}{t:TypeId}(ht:P.underlying t=some .bool):aO enc P W N AM t (λ_=>True):=by
 intro fuel _ cs x h;obtain⟨b,rfl,_⟩:=DataW.trod_bool ht h;exact⟨b,rfl,trivial⟩
theorem Dd(b o n:Nat):(⟨b,o,none⟩:Addr).add n=⟨b,o+n,none⟩:=by unfold Addr.add;split<;>simp_all
theorem aO.slice{N:Nat}{α:Type}{r:cx α}{t e:TypeId}{G:α->Prop}(ht:P.underlying t=some (.slice e))(hc:P.cellsOf e=r.sz)(hz:(r.sz==0)=false)(he:aO enc P W N r e G):
 aO enc P W (N+1) (kL r) t (λxs=>xs.length<=9223372036854775807/\∀x∈xs,G x):=by
 have hpos:0<r.sz:=by
  have:¬r.sz=0:=by simpa using hz
  omega
 intro fuel hf cs x h;rcases DataW.trod_slice ht h with⟨rfl,rfl⟩|⟨a,len,cap,elems,rest,n,hn,rfl,rfl,hb,hl,hm,hlen,hel,hsp,hns⟩
 . exact⟨[],⟨_,rfl,Rs.nil⟩,by simp,λ_ hx=>by cases hx⟩
 have hcap:cap<=9223372036854775807:=hm;rcases ij cap with h0|h0
 . subst h0;obtain rfl:len=0:=by omega
   exact⟨[],⟨_,rfl,.inl ⟨⟨_,rfl⟩,rfl⟩⟩,by simp,λ_ hx=>by cases hx⟩
 have hfirst:∃y,(W.cells? 0 (a.add (0*P.cellsOf e)) (P.cellsOf e)).bind (DataW.trod enc P W 0 (λ_=>true) true n e)=some y:=by
  rcases ij len with h1|h1
  . obtain⟨hr,hs⟩:=hsp rfl;have:=hs 0 (by omega);rw[h1,ff]at this;exact⟨_,this.trans (cy (by omega))⟩
  . exact⟨_,(hel 0 h1).trans (cy (by omega))⟩
 have hspot:a.spot=none:=by
  obtain⟨y,hy⟩:=hfirst;rw[IF]at hy;obtain⟨cs',hcs,-⟩:=hy;obtain⟨_,hl',hcell⟩:=World.cells?_some hcs;have:=hcell 0 (by omega);rw[cy (by omega),DQ]at this;have:=cell_spot this;simpa[Addr.add]using this
 obtain⟨b,o,s⟩:=a;cases hspot;have each:∀i,i<len->∃x vs,vs.length=r.sz/\At (HW W) b (o+i*r.sz) vs/\r.R (HW W) vs x/\G x:=by
  intro i hi;have hy:=(hel i hi).trans (cy (by omega));rw[IF]at hy;obtain⟨vs,hcs,hy⟩:=hy;obtain⟨_,hl',hcell⟩:=World.cells?_some hcs;obtain⟨x,hR,hG⟩:=he n (by omega) vs _ hy;refine⟨x,vs,by omega,λj hj=>?_,hR,hG⟩;have:=hcell j (by omega);rw[cy hj]at this⊢;rw[hc,Dd,Dd]at this;exact M7 this
 let xs:List α:=List.ofFn (λi:Fin len=>Classical.choose (each i.1 i.2))
 have hxl:xs.length=len:=by simp[xs]
 refine⟨xs,⟨_,rfl,.inr ⟨b,o,cap,by rw[hxl],by omega,λi x hi=>?_⟩⟩,by omega,λx hx=>?_⟩
 . have hil:i<len:=by rw[<-hxl];exact(eN.1 hi).1
   have hx:x=Classical.choose (each i hil):=by
    have:=(eN.1 hi).2;simp only[xs,DX]at this;exact this.symm
   subst hx;obtain⟨vs,h1,h2,h3,_⟩:=Aj (each i hil);exact⟨vs,h1,h2,h3⟩
 . obtain⟨i,hi,rfl⟩:=IG.1 hx;have hil:i<len:=by omega
   simp only[xs,DX];obtain⟨_,_,_,_,hG⟩:=Aj (each i hil);exact hG
theorem aO.less{N:Nat}{α:Type}{r:cx α}{t:TypeId}{G:α->Prop}(h:aO enc P W (N+1) r t G):aO enc P W N r t G:=λfuel hf=>h fuel (by omega)
theorem HK{t:TypeId}{fuel:Nat}{cs:List Value}{x:DataW H×List MemPlace}{fs:Array Field}(ht:P.underlying t=some (.struct fs))(h:DataW.trod enc P W 0 (λ_=>true) true fuel t cs=some x):
 cs.length=P.cellsOf t/\∃n,n<fuel/\∀(i:Nat) (f:Field),fs[i]?=some f->∃y,DataW.trod enc P W 0 (λ_=>true) true n f.type ((cs.drop f.offset).take (P.cellsOf f.type))=some y:=by
 obtain⟨xs,n,hn,_,hl,hxl,hf⟩:=DataW.trod_struct ht h;refine⟨hl,n,by omega,λi f hi=>?_⟩;have hi':i<xs.length:=by rw[hxl];exact(Array.getElem?_eq_some_iff.1 hi).1
 exact⟨_,(hf i f hi).trans (cy hi')⟩
end
open Go Go.ChangeShapes Go.WideShapes Go.ChangeAt Go.RowKit
section
variable {H:Type} {enc:TypeId×Value->H} {P:Program} {W:World}
def ma(enc:TypeId×Value->H)(P:Program)(W:World)(N:Nat){α:Type}(r:cx α)(t:TypeId)(G:α->Prop)(T:α->DataW H->Prop):Prop:= ∀fuel,fuel<=N->∀cs x,DataW.trod enc P W 0 (λ_=>true) true fuel t cs=some x->∃a,r.R (HW W) cs a/\G a/\T a x.1
theorem aO.t{N:Nat}{α:Type}{r:cx α}{t:TypeId}{G:α->Prop}(h:aO enc P W N r t G):ma enc P W N r t G (λ_ _=>True):=λfuel hf cs x hx=>by
 obtain⟨a,h1,h2⟩:=h fuel hf cs x hx;exact⟨a,h1,h2,trivial⟩
def SlT{α:Type}(T:α->DataW H->Prop)(xs:List α)(d:DataW H):Prop:=(d=.nil/\xs=[])\/∃es sp,d=.slice es sp/\es.length=xs.length/\∀(i:Nat) x y,xs[i]?=some x->es[i]?=some y->T x y
theorem ma.less{N:Nat}{α:Type}{r:cx α}{t:TypeId}{G:α->Prop}{T:α->DataW H->Prop}(h:ma enc P W (N+1) r t G T):ma enc P W N r t G T:=λfuel hf=>h fuel (by omega)
theorem ma.slice{N:Nat}{α:Type}{r:cx α}{t e:TypeId}{G:α->Prop}{T:α->DataW H->Prop}(ht:P.underlying t=some (.slice e))(hc:P.cellsOf e=r.sz)(hz:(r.sz==0)=false)(he:ma enc P W N r e G T):
 ma enc P W (N+1) (kL r) t (λxs=>xs.length<=9223372036854775807/\∀x∈xs,G x) (SlT T):=by
 have hpos:0<r.sz:=by
  have:¬r.sz=0:=by simpa using hz
  omega
 intro fuel hf cs x h;rcases DataW.trod_slice ht h with⟨rfl,rfl⟩|⟨a,len,cap,elems,rest,n,hn,rfl,rfl,hb,hl,hm,hlen,hel,hsp,hns⟩
 . exact⟨[],⟨_,rfl,Rs.nil⟩,⟨by simp,λ_ hx=>by cases hx⟩,.inl ⟨rfl,rfl⟩⟩
 have hcap:cap<=9223372036854775807:=hm;rcases ij cap with h0|h0
 . subst h0;obtain rfl:len=0:=by omega
   exact⟨[],⟨_,rfl,.inl ⟨⟨_,rfl⟩,rfl⟩⟩,⟨by simp,λ_ hx=>by cases hx⟩,.inr ⟨_,_,rfl,by simp;exact nD.1 hlen,λi x y hx=>by simp at hx⟩⟩
 have hfirst:∃y,(W.cells? 0 (a.add (0*P.cellsOf e)) (P.cellsOf e)).bind (DataW.trod enc P W 0 (λ_=>true) true n e)=some y:=by
  rcases ij len with h1|h1
  . obtain⟨hr,hs⟩:=hsp rfl;have:=hs 0 (by omega);rw[h1,ff]at this;exact⟨_,this.trans (cy (by omega))⟩
  . exact⟨_,(hel 0 h1).trans (cy (by omega))⟩
 have hspot:a.spot=none:=by
  obtain⟨y,hy⟩:=hfirst;rw[IF]at hy;obtain⟨cs',hcs,-⟩:=hy;obtain⟨_,hl',hcell⟩:=World.cells?_some hcs;have:=hcell 0 (by omega);rw[cy (by omega),DQ]at this;have:=cell_spot this;simpa[Addr.add]using this
 obtain⟨b,o,s⟩:=a;cases hspot;have each:∀i,(hi:i<len)->∃x vs,vs.length=r.sz/\At (HW W) b (o+i*r.sz) vs/\r.R (HW W) vs x/\G x/\T x (elems[i]'(by omega)).1:=by
  intro i hi;have hy:=(hel i hi).trans (cy (by omega));rw[IF]at hy;obtain⟨vs,hcs,hy⟩:=hy;obtain⟨_,hl',hcell⟩:=World.cells?_some hcs;obtain⟨x,hR,hG,hT⟩:=he n (by omega) vs _ hy;refine⟨x,vs,by omega,λj hj=>?_,hR,hG,hT⟩;have:=hcell j (by omega);rw[cy hj]at this⊢;rw[hc,Dd,Dd]at this;exact M7 this
 let xs:List α:=List.ofFn (λi:Fin len=>Classical.choose (each i.1 i.2))
 have hxl:xs.length=len:=by simp[xs]
 refine⟨xs,⟨_,rfl,.inr ⟨b,o,cap,by rw[hxl],by omega,λi x hi=>?_⟩⟩,⟨by omega,λx hx=>?_⟩,.inr ⟨_,_,rfl,by rw[cS];omega,λi x y hx hy=>?_⟩⟩
 . have hil:i<len:=by rw[<-hxl];exact(eN.1 hi).1
   have hx:x=Classical.choose (each i hil):=by
    have:=(eN.1 hi).2;simp only[xs,DX]at this;exact this.symm
   subst hx;obtain⟨vs,h1,h2,h3,_⟩:=Aj (each i hil);exact⟨vs,h1,h2,h3⟩
 . obtain⟨i,hi,rfl⟩:=IG.1 hx;have hil:i<len:=by omega
   simp only[xs,DX];obtain⟨_,_,_,_,hG,_⟩:=Aj (each i hil);exact hG
 . have hil:i<len:=by rw[<-hxl];exact(eN.1 hx).1
   have hx:x=Classical.choose (each i hil):=by
    have:=(eN.1 hx).2;simp only[xs,DX]at this;exact this.symm
   subst hx;obtain⟨_,_,_,_,_,hT⟩:=Aj (each i hil);rw[iA,cy (by omega)]at hy;cases hy;exact hT
theorem Ms{α:Type}{r:cx α}{t e:TypeId}{G:List α->Prop}{T:List α->DataW H->Prop}{v:Value}{d:DataW H}{ps:List MemPlace}(ht:P.underlying t=some (.slice e))(ho:∀N,ma enc P W N (kL r) t G T){rc:Reach}{base:Nat}(hval:Value.okWide P W rc base t v)(h:DataW.Trod enc P W 0 (λ_=>true) true t v d ps):
 ∃xs,Rs r (HW W) v xs/\G xs/\T xs d:=by
 obtain⟨n,hn⟩:=h;obtain⟨xs,⟨v',hv',hR⟩,hG,hT⟩:=ho n n (bQ _) _ _ hn;have:v=v':=by
  cases v<;>simp_all[Value.okWide,Cell.okWide,Cell.ok,Value.cells]
 subst this;exact⟨xs,hR,hG,hT⟩
end
def W8:DataW Unit->Array Value
 |.agg ds=>(ds.map λ|.lit (.int k n)=>Value.int k n|_=>.bool false).toArray
 |_=>#[]
def J4(w:World):List (Nat×DataW Unit)->World
 |[]=>w
 |(g,d)::r=>J4 {w with heap:=w.heap.modify g λ|.cells _ t fr=>.cells (W8 d) t fr|o=>o} r
open Go
def Tm{α:Type}(f:Nat->Option α)(Q:α->Prop):Prop:=∃a N0,Q a/\∀N,N0<=N->f N=some a
section
variable {α β σ ρ:Type}
theorem aZ{a:α}{Q:α->Prop}(h:Q a):Tm (λ_=>some a) Q:=⟨a,0,h,λ_ _=>rfl⟩
theorem Tm.bind{f:Nat->Option α}{g:Nat->α->Option β}{Q:α->Prop}{R:β->Prop}(h:Tm f Q)(k:∀a,Q a->Tm (λN=>g N a) R):Tm (λN=>(f N).bind (g N)) R:=by
 obtain⟨a,N0,hQ,h⟩:=h;obtain⟨b,N1,hR,k⟩:=k a hQ;exact⟨b,max N0 N1,hR,λN hN=>by show(f N).bind (g N)=some b;rw[h N (by omega)];exact k N (by omega)⟩
theorem aJ{f:Option α}{a:α}(e:f=some a){g:Nat->α->Option β}{R:β->Prop}(k:Tm (λN=>g N a) R):Tm (λN=>f.bind (g N)) R:=by
 subst e;exact k
theorem Tm.mono{f:Nat->Option α}{Q R:α->Prop}(h:Tm f Q)(k:∀a,Q a->R a):Tm f R:=by
 obtain⟨a,N0,hQ,h⟩:=h;exact⟨a,N0,k a hQ,h⟩
theorem cR{c:Prop}[Decidable c]{f g:Nat->Option α}{Q:α->Prop}(hc:c)(h:Tm f Q):Tm (λN=>if c then f N else g N) Q:=by simpa only[bA hc]using h
theorem cE{c:Prop}[Decidable c]{f g:Nat->Option α}{Q:α->Prop}(hc:¬c)(h:Tm g Q):Tm (λN=>if c then f N else g N) Q:=by simpa only[aQ hc]using h
theorem bB{c:Prop}[Decidable c]{f g:Nat->Option α}{Q:α->Prop}(h1:c->Tm f Q)(h2:¬c->Tm g Q):Tm (λN=>if c then f N else g N) Q:=by
 by_cases hc:c
 . exact cR hc (h1 hc)
 . exact cE hc (h2 hc)
theorem Tm.succ{f:Nat->Option α}{Q:α->Prop}(h:Tm (λN=>f (N+1)) Q):Tm f Q:=by
 obtain⟨a,N0,hQ,h⟩:=h;refine⟨a,N0+1,hQ,λN hN=>?_⟩;have h1:f (N-1+1)=some a:=h (N-1) (by omega);rwa[show N-1+1=N by omega]at h1
theorem Tm.get{f:Nat->Option α}{Q:α->Prop}(h:Tm f Q):∃N a,f N=some a/\Q a:=by
 obtain⟨a,N0,hQ,h⟩:=h;exact⟨N0,a,h N0 (bQ _),hQ⟩
def Turn(I:σ->Prop)(μ:σ->Nat)(Q:ρ->Prop)(m:Nat):aH σ ρ->Prop
 |.next s=>I s/\μ s<m
 |.done r=>Q r
theorem Tm.loop{body:Nat->σ->Option (aH σ ρ)}(I:σ->Prop)(μ:σ->Nat){Q:ρ->Prop}{s0:σ}(h0:I s0)(h:∀s,I s->Tm (λN=>body N s) (Turn I μ Q (μ s))):
 Tm (λN=>bO (body N) N s0) Q:=by
 have key:∀(m:Nat) (s:σ),μ s<=m->I s->∃a K,Q a/\∀N n,K<=N->K<=n->bO (body N) n s=some a:=by
  intro m
  induction m with
  |zero=>
   intro s hm hI;obtain⟨t,N0,hT,hN⟩:=h s hI;cases t with
   |next s'=>exact bX hT.2 (by omega)
   |done r=>exact⟨r,N0+1,hT,λN n h1 h2=>by obtain⟨n,rfl⟩:∃k,n=k+1:=⟨n-1,by omega⟩;exact yn (hN N (by omega))⟩
  |succ m ih=>
   intro s hm hI;obtain⟨t,N0,hT,hN⟩:=h s hI;cases t with
   |next s'=>
    obtain⟨a,K,hQ,hK⟩:=ih s' (by have:=hT.2;omega) hT.1;exact⟨a,max N0 K+1,hQ,λN n h1 h2=>by obtain⟨n,rfl⟩:∃k,n=k+1:=⟨n-1,by omega⟩;rw[Jm (hN N (by omega))];exact hK N n (by omega) (by omega)⟩
   |done r=>exact⟨r,N0+1,hT,λN n h1 h2=>by obtain⟨n,rfl⟩:∃k,n=k+1:=⟨n-1,by omega⟩;exact yn (hN N (by omega))⟩
 obtain⟨a,K,hQ,hK⟩:=key (μ s0) s0 (bQ _) h0;exact⟨a,K,hQ,λN hN=>hK N N hN hN⟩
end
theorem k9{α:Type}{xs:List α}{n:Nat}{x:α}(h:xs[n]?=some x):idx xs (n:Int)=some x:=by
 unfold idx;rw[aQ (by omega)];simpa using h
theorem dt{α:Type}{xs:List α}{n:Nat}(h:n<xs.length):idx xs (n:Int)=some xs[n]:=k9 (cy h)
theorem ik{α:Type}{xs:List α}{i:Int}{n:Nat}(e:i=(n:Int))(h:n<xs.length):idx xs i=some xs[n]:=by subst e;exact dt h
theorem eH{α:Type}{xs:List α}{i:Int}{n:Nat}{y:α}(e:i=(n:Int))(h:n<xs.length):dw xs i y=some (xs.set n y):=by
 subst e;unfold dw;rw[aQ (by omega)];simp
theorem rQ{α:Type}{xs:List α}{i j:Int}{m n:Nat}(e:i=(m:Int))(e':j=(n:Int))(h:m<=n)(h':n<=xs.length):cut xs i j=some ((xs.take n).drop m):=by
 subst e;subst e';unfold cut;rw[aQ (by omega)];simp
theorem eb{α:Type}{b:Nat}{xs ys:List α}(h:(xs.length+ys.length)*b<=140737488355328)(hb:0<b):cY b xs ys=some (xs++ys):=by
 unfold cY;have:xs.length+ys.length<=(xs.length+ys.length)*b:=Nat.le_mul_of_pos_right _ hb;rw[bA ⟨h,by omega⟩]
theorem iu{α:Type}{b:Nat}{z:α}{i:Int}{n:Nat}(e:i=(n:Int))(h:b*n<=281474976710656)(hb:0<b):fZ b z i=some (List.replicate n z):=by
 subst e;unfold fZ;have:n<=b*n:=Nat.le_mul_of_pos_left _ hb;rw[aQ (by simp;omega)];simp
theorem yk{p:Prop}[Decidable p](h:p):mu p=some ():=by unfold mu;rw[bA h]
def val(B:Int):List Int->Int
 |[]=>0
 |x::xs=>x+B*val B xs
def bJ(B:Int)(l:List Int):Prop:=∀x∈l,0<=x/\x<B
def gC(l:List Int):Prop:=l.getLast?≠some 0
structure Dg (B:Int)(l:List Int)(v:Int):Prop where
 bT:bJ B l
 fP:gC l
 val:val B l=v
section
variable {B:Int}
theorem bJ.nil:bJ B []:=λ_ h=>by cases h
theorem bJ.cons{x:Int}{l:List Int}(hx:0<=x/\x<B)(h:bJ B l):bJ B (x::l):=λy hy=>by
 rcases eJ.1 hy with rfl|hy
 . exact hx
 . exact h y hy
theorem bJ.append{l m:List Int}(h:bJ B l)(h':bJ B m):bJ B (l++m):=λy hy=>by
 rcases gH.1 hy with hy|hy
 . exact h y hy
 . exact h' y hy
theorem bJ.tail{x:Int}{l:List Int}(h:bJ B (x::l)):bJ B l:=λy hy=>h y (cP _ hy)
theorem bJ.head{x:Int}{l:List Int}(h:bJ B (x::l)):0<=x/\x<B:=h x cU
theorem bJ.take{l:List Int}(h:bJ B l)(n:Nat):bJ B (l.take n):=λy hy=>h y (uS hy)
theorem bJ.drop{l:List Int}(h:bJ B l)(n:Nat):bJ B (l.drop n):=λy hy=>h y (II hy)
theorem bJ.get{l:List Int}(h:bJ B l){n:Nat}(hn:n<l.length):0<=l[n]/\l[n]<B:=h _ (dC hn)
theorem bJ.getD{l:List Int}(hB:0<B)(h:bJ B l)(n:Nat):0<=l.getD n 0/\l.getD n 0<B:=by
 rw[cL];rcases cG n l.length with hn|hn
 . rw[cy hn];exact h.get hn
 . rw[gm hn];exact⟨by simp,by simpa using hB⟩
theorem bJ.set{l:List Int}(h:bJ B l){n:Nat}{y:Int}(hy:0<=y/\y<B):bJ B (l.set n y):=λz hz=>by
 rcases qP hz with hz|rfl
 . exact h z hz
 . exact hy
theorem bJ.dG(hB:0<B){n:Nat}:bJ B (List.replicate n 0):=λz hz=>by
 rw[(Ak.1 hz).2];exact⟨kG _,hB⟩
theorem tk{x:Int}{l:List Int}:val B (x::l)=x+B*val B l:=rfl
theorem qu:∀{l m:List Int},val B (l++m)=val B l+B^l.length*val B m
 |[],m=>by simp[val]
 |x::l,m=>by
  simp only[DP,val,qu (l:=l),cN,fR];grind
theorem Bt{n:Nat}:val B (List.replicate n 0)=0:=by
 induction n with
 |zero=>rfl
 |succ n ih=>simp[Ah,val,ih]
theorem ir(hB:0<=B):∀{l:List Int},bJ B l->0<=val B l
 |[],_=>kG _
 |x::l,h=>by
  have h1:=ir hB h.tail;have h2:=h.head;have h3:=fb hB h1;simp only[val];omega
theorem iV(hB:0<B):∀{l:List Int},bJ B l->val B l<B^l.length
 |[],_=>by simp[val]
 |x::l,h=>by
  have h1:=iV hB h.tail;have h2:=h.head;have h3:B*(val B l+1)<=B*B^l.length:=gU (by omega) (by omega);simp only[val,cN,fR];rw[fU (B^l.length)];rw[pM]at h3;omega
theorem gi{l:List Int}{n:Nat}:val B (l.take (n+1))=val B (l.take n)+B^n*l.getD n 0:=by
 rw[cL];rcases cG n l.length with hn|hn
 . rw[pN hn,qu,cy hn,fm,kX (by omega)];simp[val]
 . rw[gm hn,fx (by omega),fx (by omega)];simp
theorem pY{l:List Int}(n:Nat)(h:n<=l.length):val B l=val B (l.take n)+B^n*val B (l.drop n):=by
 have:=qu (B:=B) (l:=l.take n) (m:=l.drop n);rw[oC,fm,kX h]at this;exact this
theorem vE{l:List Int}{n:Nat}{y:Int}(h:n<l.length):val B (l.set n y)=val B l+B^n*(y-l[n]):=by
 induction l generalizing n with
 |nil=>cases h
 |cons x l ih=>
  cases n with
  |zero=>simp[val];grind
  |succ n=>
   have:=ih (n:=n) (by simpa using h);simp only[List.set_cons_succ,val,this,List.getElem_cons_succ,fR];grind
theorem lP(hB:0<B)(n:Nat):0<B^n:=lK hB
theorem Fb{x:Int}{l:List Int}(h:gC (x::l)):gC l:=by
 intro h';apply h;cases l with
 |nil=>cases h'
 |cons y l=>rw[XR];exact h'
theorem Bq(hB:0<B):∀{l:List Int},bJ B l->gC l->l≠[]->B^(l.length-1)<=val B l
 |[],_,_,h=>bX rfl h
 |[x],h,hn,_=>by
  have h1:=h.head;have h2:x≠0:=λe=>hn (by simp[e]);simp[val];omega
 |x::y::l,h,hn,_=>by
  have h1:=Bq hB h.tail (Fb hn) (by simp);have h2:=h.head;have h3:B*B^l.length<=B*val B (y::l):=gU (by simpa using h1) (by omega);simp only[cN,PJ]at*;rw[fR,fU,tk (x:=x)];omega
theorem xD(hB:0<B){l:List Int}(h:bJ B l)(hn:gC l)(hl:l≠[]):0<val B l:=by
 have:=Bq hB h hn hl;have:=lP hB (l.length-1);omega
theorem JA:gC []:=by simp[gC]
theorem lq(hB:1<=B){m n:Nat}(h:m<=n):B^m<=B^n:=by
 obtain⟨k,rfl⟩:=PK h;rw[kH];have h1:=lP (B:=B) (by omega) m;have h2:=lP (B:=B) (by omega) k;have:=gU (show 1<=B^k by omega) (show 0<=B^m by omega);omega
theorem Hl(hB:1<B){l:List Int}(h:bJ B l)(hn:gC l){k:Nat}(hv:val B l<B^k):l.length<=k:=by
 rcases cG k l.length with hk|hk
 . have h1:=Bq (by omega) h hn (by intro e;rw[e]at hk;simp at hk);have h2:=lq (B:=B) (by omega) (show k<=l.length-1 by omega);omega
 . exact hk
theorem Kb(hB:1<B):∀{a b:List Int},bJ B a->bJ B b->gC a->gC b->val B a=val B b->a=b
 |[],[],_,_,_,_,_=>rfl
 |[],y::b,_,h,_,hn,e=>by have:=xD (by omega) h hn (by simp);simp only[val]at*;omega
 |x::a,[],h,_,hn,_,e=>by have:=xD (by omega) h hn (by simp);simp only[val]at*;omega
 |x::a,y::b,h,h',hn,hn',e=>by
  simp only[val]at e;have h1:=h.head;have h2:=h'.head;have hxy:x=y:=by
   have e1:(x+B*val B a)%B=x:=by rw[IJ];exact DY h1.1 h1.2
   have e2:(y+B*val B b)%B=y:=by rw[IJ];exact DY h2.1 h2.2
   rw[<-e1,<-e2,e]
  subst hxy;have hv:val B a=val B b:=PL (a:=B) (by omega) (by omega);rw[Kb hB h.tail h'.tail (Fb hn) (Fb hn') hv]
theorem Dg.uniq(hB:1<B){a b:List Int}{v:Int}(h:Dg B a v)(h':Dg B b v):a=b:=Kb hB h.bT h'.bT h.fP h'.fP (h.val.trans h'.val.symm)
theorem Dg.nil:Dg B [] 0:=⟨.nil,JA,rfl⟩
theorem Dg.zero(hB:0<B){l:List Int}{v:Int}(h:Dg B l v):l=[]↔v=0:=by
 constructor
 . intro e;rw[<-h.val,e];rfl
 . intro e;cases l with
   |nil=>rfl
   |cons x l=>have:=xD hB h.bT h.fP (by simp);have:=h.val;omega
theorem Dg.xI(hB:0<=B){l:List Int}{v:Int}(h:Dg B l v):0<=v:=h.val▸ir hB h.bT
theorem y7{l:List Int}{n:Nat}(hn:n<=l.length)(h:∀k,(hk:k<l.length)->n<=k->l[k]=0):val B (l.take n)=val B l:=by
 rw[pY n hn];have:l.drop n=List.replicate (l.length-n) 0:=by
  apply oD (by simp);intro i h1 h2;simp only[IK,List.getElem_replicate];exact h _ _ (by omega)
 rw[this,Bt];simp
theorem Hu{l:List Int}{n:Nat}(hn:n<=l.length)(hl:bJ B l)(h:∀k,(hk:k<l.length)->n<=k->l[k]=0)(h0:n=0\/∃hk:n-1<l.length,l[n-1]≠0):Dg B (l.take n) (val B l):=by
 refine⟨hl.take n,?_,y7 hn h⟩;rcases h0 with rfl|⟨hk,h0⟩
 . simp[gC]
 . intro e;rw[IL,fm,kX hn]at e;rcases ij n with hz|hz
   . subst hz;simp at e
   . rw[List.getElem?_take_of_lt (by omega),cy hk]at e;exact h0 (jd e)
end
def bZ(a b:Int):Int:=if a<b then-1 else if b<a then 1 else 0
theorem Cd{B:Int}(hB:1<B){a b:List Int}(ha:bJ B a)(hb:bJ B b)(hl:a.length=b.length){n:Nat}(hn:n<a.length)(hd:a.drop (n+1)=b.drop (n+1))(hx:a[n]<b[n]'(by omega)):val B a<val B b:=by
 rw[pY (l:=a) (n+1) (by omega),pY (l:=b) (n+1) (by omega),hd,gi,gi];have h1:=iV (by omega) (ha.take n);have h2:=ir (B:=B) (by omega) (hb.take n);rw[fm,kX (by omega)]at h1;rw[cL,cL,cy hn,cy (by omega)];simp only[DJ];have h3:=gU (show a[n]+1<=b[n]'(by omega) by omega) (show 0<=B^n from eK (lP (by omega) n));rw[pM]at h3;omega
theorem nU{B:Int}(hB:1<B){a b:List Int}(ha:bJ B a)(hb:bJ B b)(hn:gC b)(hl:a.length<b.length):val B a<val B b:=by
 have h1:=iV (by omega) ha;have h2:=Bq (by omega) hb hn (by intro e;rw[e]at hl;simp at hl);have h3:=lq (B:=B) (by omega) (show a.length<=b.length-1 by omega);omega
theorem Tm.rK{σ ρ G:Type}{body:Nat->σ->Option (aH σ ρ)}(I:G->σ->Prop)(μ:G->Nat){Q:ρ->Prop}{s0:σ}(g0:G)(h0:I g0 s0)
 (h:∀g s,I g s->Tm (λN=>body N s) (λt=>match t with|.next s'=>∃g',I g' s'/\μ g'<μ g|.done r=>Q r)):
 Tm (λN=>bO (body N) N s0) Q:=by
 have key:∀(m:Nat) (g:G) (s:σ),μ g<=m->I g s->∃a K,Q a/\∀N n,K<=N->K<=n->bO (body N) n s=some a:=by
  intro m
  induction m with
  |zero=>
   intro g s hm hI;obtain⟨t,N0,hT,hN⟩:=h g s hI;cases t with
   |next s'=>obtain⟨g',_,h2⟩:=hT;exact bX h2 (by omega)
   |done r=>exact⟨r,N0+1,hT,λN n h1 h2=>by obtain⟨n,rfl⟩:∃k,n=k+1:=⟨n-1,by omega⟩;exact yn (hN N (by omega))⟩
  |succ m ih=>
   intro g s hm hI;obtain⟨t,N0,hT,hN⟩:=h g s hI;cases t with
   |next s'=>
    obtain⟨g',h1,h2⟩:=hT;obtain⟨a,K,hQ,hK⟩:=ih g' s' (by omega) h1;exact⟨a,max N0 K+1,hQ,λN n h1 h2=>by obtain⟨n,rfl⟩:∃k,n=k+1:=⟨n-1,by omega⟩;rw[Jm (hN N (by omega))];exact hK N n (by omega) (by omega)⟩
   |done r=>exact⟨r,N0+1,hT,λN n h1 h2=>by obtain⟨n,rfl⟩:∃k,n=k+1:=⟨n-1,by omega⟩;exact yn (hN N (by omega))⟩
 obtain⟨a,K,hQ,hK⟩:=key (μ g0) g0 s0 (bQ _) h0;exact⟨a,K,hQ,λN hN=>hK N N hN hN⟩
theorem eE{σ ρ:Type}{body:Nat->σ->Option (aH σ ρ)}{Q:ρ->Prop}{s0:σ}(n:Nat)(J:Nat->σ->Prop)(h0:J 0 s0)
 (h:∀k,k<=n->∀s,J k s->Tm (λN=>body N s) (λt=>match t with|.next s'=>k<n/\J (k+1) s'|.done r=>Q r)):
 Tm (λN=>bO (body N) N s0) Q:=by
 refine Tm.rK (λk s=>k<=n/\J k s) (λk=>n-k) 0 ⟨fI _,h0⟩ λk s hs=>(h k hs.1 s hs.2).mono λt ht=>?_;cases t with
 |next s'=>exact⟨k+1,⟨ht.1,ht.2⟩,by have:=ht.1;omega⟩
 |done r=>exact ht
theorem aI{α:Type}{a:α}{Q:α->Prop}(h:Q a):Tm (λ_=>Option.some a) Q:=aZ h
theorem aU{α β:Type}{f:Nat->Option α}{g:Nat->α->Option β}{a:α}{R:β->Prop}(h:Tm f (·=a))(k:Tm (λN=>g N a) R):Tm (λN=>(f N).bind (g N)) R:=
 h.bind λb hb=>by subst hb;exact k
theorem dV{k:Nat}(h:k+1<=9223372036854775807):iw ((k:Int)+1)=((k+1:Nat):Int):=by rw[bU]<;>omega
theorem Tm.allL{α:Type}{b:Nat->Int->Option (aH Int (Sum Unit Bool))}(xs:List α)(g:α->Bool)(hn:xs.length<=9223372036854775807)
 (h:∀k (hk:k<xs.length),Tm (λN=>b N (k:Int)) (·=if g xs[k]then aH.next (iw ((k:Int)+1))else aH.done (Sum.inr false)))
 (hd:Tm (λN=>b N (xs.length:Int)) (·=aH.done (Sum.inl ()))):
 Tm (λN=>bO (b N) N 0) (·=if xs.all g then Sum.inl ()else Sum.inr false):=by
 refine eE xs.length (λk s=>s=(k:Int)/\xs.all g=(xs.drop k).all g) ⟨rfl,by simp⟩ ?_;rintro k hk i ⟨rfl,ho⟩;rcases cG k xs.length with hlt|hge
 . rw[gn hlt,DZ]at ho;refine(h k hlt).mono λt ht=>?_;subst ht;cases hg:g xs[k]with
   |true=>rw[hg]at ho;exact⟨hlt,dV (by omega),by simpa using ho⟩
   |false=>rw[hg]at ho;show _=_;rw[ho];simp
 . have:k=xs.length:=by omega
   subst this;refine hd.mono λt ht=>?_;subst ht;show _=_;rw[ho];simp
theorem Tm.Ps{α ρ:Type}{b:Nat->Int->Option (aH Int (Sum Unit ρ))}(xs:List α)(g:α->Bool)(v:Nat->ρ)(hn:xs.length<=9223372036854775807)
 (h:∀k (hk:k<xs.length),Tm (λN=>b N (k:Int)) (·=if g xs[k]then aH.done (Sum.inr (v k))else aH.next (iw ((k:Int)+1))))
 (hd:Tm (λN=>b N (xs.length:Int)) (·=aH.done (Sum.inl ()))):
 Tm (λN=>bO (b N) N 0) (λo=>(xs.any g=false/\o=Sum.inl ())\/(∃k,∃hk:k<xs.length,g xs[k]=true/\(∀j (hj:j<k),g (xs[j]'(by omega))=false)/\o=Sum.inr (v k))):=by
 refine eE xs.length (λk s=>s=(k:Int)/\∀j (hj:j<k) (hl:j<xs.length),g xs[j]=false) ⟨rfl,λj hj=>by omega⟩ ?_;rintro k hk i ⟨rfl,ho⟩;rcases cG k xs.length with hlt|hge
 . refine(h k hlt).mono λt ht=>?_;subst ht;cases hg:g xs[k]with
   |true=>exact .inr ⟨k,hlt,hg,λj hj=>ho j hj (by omega),rfl⟩
   |false=>
    refine⟨hlt,dV (by omega),λj hj hl=>?_⟩;by_cases e:j=k
    . subst e;exact hg
    . exact ho j (by omega) hl
 . have:k=xs.length:=by omega
   subst this;refine hd.mono λt ht=>?_;subst ht;refine .inl ⟨?_,rfl⟩;rw[IM];intro x hx;obtain⟨j,hj,rfl⟩:=lL hx;rw[ho j hj hj];simp
open Go Go.RowKit
section
variable {P:Program} {ty:TypeId} {ρ:Operand->Value} {w w0:World} {R:Value->World->Prop} {X:List (Option Nat)} {O:List (Option Nat)} {C:List dE} {α:Type} {r:cx α} {H:Hp}
theorem aF.nilCheck{x:Operand}{b:Addr}(hx:ρ x=.pointer (some b))(h:R (.pointer (some b)) w):aF P (.nilCheck x) ty ρ w R:=by
 simp only[aF,dI,execOp,hx];simp[upon];exact h
end
open Go Go.RowKit
section
variable {P:Program} {l:List Oper} {n:Nat} {K:Env->World->Prop} {e:Env} {w:World}
structure InvP (l:List Oper)(n:Nat)(Q done rest:List Nat)(listed:Array Bool)(a:Act)(E:Env)(ltr:List Nat):Prop where
 size:listed.size=l.length
 tmps:a.tmps.size=n
 defs:a.defers=[]
 parts:Q=done++rest
 isdone:∀q∈done,fq listed q
 open':∀q∈rest,¬fq listed q
 cl:∀j oj,l[j]?=some oj->fq listed j->∀d∈fG oj,fq listed d
 late:∀i,i<l.length->i∉Q->¬fq listed i->i∈ltr
 sub:∀i∈ltr,i∉Q
 env:∀x,(∀i,i<l.length->i∉Q->¬fq listed i->mR l i≠some x)->dh a x=E x
end
open Go Go.RowKit
section
variable {P:Program} {s:Nat} {S:Nat->Prop} {X O O' O'' OR:List (Option Nat)} {C C' C'' CR:List dE} {w w' w0:World} {α:Type} {r:cx α} {H:Hp}
theorem RlL.fin{l:List Oper}{K:Env->World->Prop}{lt:List Nat}{e:Env}(h:K e w):RlL P l K lt [] e w:=h
end
open Go Go.RowKit
def gh{K V:Type}[DecidableEq K]:List (K×V)->K->V->V×Bool
 |[],_,z=>(z,false)
 |p::m,k,z=>if p.1=k then(p.2,true)else gh m k z
def lE{K V:Type}[DecidableEq K]:List (K×V)->K->V->List (K×V)
 |[],k,v=>[(k,v)]
 |p::m,k,v=>if p.1=k then(k,v)::m else p::lE m k v
def pZ{K V:Type}[DecidableEq K](x:K):List (K×V)->Nat->Option (Nat×V)
 |[],_=>none
 |p::m,i=>if p.1=x then some (i,p.2)else pZ x m (i+1)
theorem H7{K V:Type}[DecidableEq K](x:K):∀(m:List (K×V)) (i:Nat),(pZ x m i=none/\(∀z,gh m x z=(z,false))/\∀v,lE m x v=m++[(x,v)])\/
 ∃j y,pZ x m i=some (i+j,y)/\m[j]?=some (x,y)/\(∀z,gh m x z=(y,true))/\∀v,lE m x v=m.set j (x,v)
 |[],i=>.inl ⟨rfl,λ_=>rfl,λ_=>rfl⟩
 |(a,b)::m,i=>by
  by_cases h:a=x
  . subst h;exact .inr ⟨0,b,by simp[pZ],rfl,λ_=>by simp[gh],λ_=>by simp[lE]⟩
  . rcases H7 x m (i+1)with⟨h1,h2,h3⟩|⟨j,y,h1,h2,h3,h4⟩
    . exact .inl ⟨by simp[pZ,h,h1],λz=>by simp[gh,h,h2],λv=>by simp[lE,h,h3]⟩
    . refine .inr ⟨j+1,y,?_,by simpa using h2,λz=>by simp[gh,h,h3],λv=>by simp[lE,h,h4]⟩;simp only[pZ,h,if_false,h1];rw[show i+1+j=i+(j+1) by omega]
structure ml (P:Program)(kt:TypeId){K:Type}[DecidableEq K](kf:K->Value):Prop where
 check:∀(w:World) (em:Bool) (x:K),(Instr.checkKey em 10000 kt (kf x)).run P w=.ok () w
 find:∀(w:World) (x:K) {V:Type} (vf:V->Value) (m:List (K×V)) (es:List MapEntry),es.map (λe=>(e.key,e.val))=m.map (λp=>(kf p.1,vf p.2))->
  (Instr.findKey kt (kf x) es).run P w=.ok ((pZ x m 0).map λp=>(p.1,vf p.2)) w
 stays:∀(w:World) (x:K),(Instr.keyThatStays (kf x) (kf x)).run P w=.ok (kf x) w
theorem NJ(x y:List UInt8):(s8 x==s8 y)=decide (x=y):=by
 have h0:(s8 x==s8 y)=(x.toArray==y.toArray):=rfl;rw[h0];by_cases h:x=y
 . subst h;simp
 . simp[h]
section
variable {P:Program} {kt:TypeId} {w:World}
theorem Jb{K V:Type}[DecidableEq K]{kf:K->Value}{d:TypeDesc}(hs:∀x y,Instr.sameNow d (kf x) (kf y)=some (decide (y=x)))(x:K)(vf:V->Value):∀(m:List (K×V)) (es:List MapEntry) (i:Nat),
 es.map (λe=>(e.key,e.val))=m.map (λp=>(kf p.1,vf p.2))->Instr.findNow d (kf x) es i=some ((pZ x m i).map λp=>(p.1,vf p.2))
 |[],[],i,_=>rfl
 |[],_::_,_,h=>by cases h
 |_::_,[],_,h=>by cases h
 |p::m,e::es,i,h=>by
  simp only[kZ,PM,oE]at h;obtain⟨⟨h1,h2⟩,h3⟩:=h;simp only[Instr.findNow,h1,hs,pZ];by_cases hp:p.1=x
  . simp[hp,h2]
  . simp only[hp,decide_false,if_false];exact Jb hs x vf m es (i+1) h3
theorem ml.now{K:Type}[DecidableEq K]{kf:K->Value}{d:TypeDesc}(hd:P.underlying kt=some d)(hs:∀x y,Instr.sameNow d (kf x) (kf y)=some (decide (y=x)))
 (hc:∀(w:World) (em:Bool) (x:K),(Instr.checkKey em 10000 kt (kf x)).run P w=.ok () w)(hb:∀x,Instr.sameBits 10000 (kf x) (kf x)=true):ml P kt kf:=
 ⟨hc,λw x V vf m es h=>by
  simp[Instr.findKey,run_underlying hd,Jb hs x vf m es 0 h],λw x=>by simp[Instr.keyThatStays,hb x]⟩
theorem ml.str(hd:P.underlying kt=some .string):ml P kt (λx:List UInt8=>Value.string (s8 x)):=
  ml.now hd (λx y=>by
      simp only[Instr.sameNow,uT];rw[NJ];by_cases h:y=x
      . subst h;simp
      . have:¬x=y:=λe=>h e.symm;simp[h,this])
    (λw em x=>by rw[show(10000:Nat)=9999+1 from rfl];unfold Instr.checkKey;simp[run_underlying hd])
    (λx=>by rw[show(10000:Nat)=9999+1 from rfl];simp[Instr.sameBits,NJ])
end
def lF{K V:Type}(kf:K->Value)(vf:V->Value)(m:List (K×V)):dE:=.map (m.map λp=>(kf p.1,vf p.2))
section
variable {P:Program} {ty:TypeId} {ρ:Operand->Value} {w w0:World} {R:Value->World->Prop} {X:List (Option Nat)} {O:List (Option Nat)} {C:List dE} {K V:Type} [DecidableEq K] {kf:K->Value} {vf:V->Value} {t kt et:TypeId} {b:Nat} {m:List (K×V)}
theorem Gx(hc:dR w (some b) (lF kf vf m)):∃(ents:Array MapEntry) (clock:Nat),w.heap[b]?=some (.map ents clock)/\ents.toList.map (λx=>(x.key,x.val))=m.map (λp=>(kf p.1,vf p.2))/\(∀x∈ents.toList,x.born<clock)/\(ents.toList.map (·.born)).Nodup:=hc
theorem aF.makeMap(hL:Loc X [] w0 w O C)(h:∀b w',Loc X [] w0 w' (some b::O) (lF kf vf ([]:List (K×V))::C)->Step O (some b::O) w w'->R (.map (some b)) w'):aF P (.makeMap t none) ty ρ w R:=by
 have ha:=hL.alloc (o:=.map #[] 0) (c:=lF kf vf ([]:List (K×V))) ⟨#[],0,by show(w.heap.push _)[w.heap.size]?=_;simp,rfl,λx hx=>(by simp at hx),by simp⟩;have hr:(Instr.makeMap t none).run P w=.ok (.map (some w.heap.size)) (w.alloc (.map #[] 0)):=rfl;simp only[aF,dI,execOp];simp[hr,upon];exact h _ _ ha.1 ha.2
theorem QC(hk:ml P kt kf)(hu:P.underlying t=some (.map kt et)){sz by':Nat}{z:V}(ti:TI P et sz by' (vf z))(hc:dR w (some b) (lF kf vf m))(x:K)(ok:Bool):
 (Instr.lookup t (.map (some b)) (kf x) ok).run P w=.ok (if ok then .tuple #[vf (gh m x z).1,.bool (gh m x z).2]else vf (gh m x z).1) w:=by
 obtain⟨ents,clock,h1,h2,h3,h4⟩:=Gx hc;obtain⟨inf,hi,_,_,hz⟩:=ti;have hf:=hk.find w x vf m ents.toList h2;rcases H7 x m 0 with⟨g1,g2,_⟩|⟨j,y,g1,_,g3,_⟩
 . rw[g1]at hf;simp[Instr.lookup,run_underlying hu,MapKept.run_getObj_map h1,hk.check,hf,g2,zeroValue,typeInfo,hi,hz,Result.andThen]
 . rw[g1]at hf;simp[Instr.lookup,run_underlying hu,MapKept.run_getObj_map h1,hk.check,hf,g3,Result.andThen]
theorem aF.look{a c:Operand}{x:K}{sz by':Nat}{z:V}(hk:ml P kt kf)(hu:P.underlying t=some (.map kt et))(ti:TI P et sz by' (vf z))(ha:ρ a=.map (some b))(hc:dR w (some b) (lF kf vf m))(hx:ρ c=kf x)
 (h:R (.tuple #[vf (gh m x z).1,.bool (gh m x z).2]) w):aF P (.lookup t a c true) ty ρ w R:=by
 have hr:=QC hk hu ti hc x true;simp only[aF,dI,execOp,ha,hx];simp[hr,upon];exact h
theorem UM(hk:ml P kt kf)(hu:P.underlying t=some (.map kt et))(hL:Loc X [] w0 w O C)(i:Nat)(hO:O[i]?=some (some b))(hC:C[i]?=some (lF kf vf m))(x:K)(y:V):
    ∃w',(Instr.mapUpdate t (.map (some b)) (kf x) (vf y)).run P w=.ok () w'/\Loc X [] w0 w' O (C.set i (lF kf vf (lE m x y)))/\Step O O w w':=by
  obtain⟨ents,clock,h1,h2,h3,h4⟩:=Gx (hL.at i hO hC);have hf:=hk.find w x vf m ents.toList h2;have hlt:=ld h1;have lay:∀(ents':Array MapEntry) (clock':Nat),ents'.toList.map (λx=>(x.key,x.val))=(lE m x y).map (λp=>(kf p.1,vf p.2))->(∀x∈ents'.toList,x.born<clock')->(ents'.toList.map (·.born)).Nodup->
      Loc X [] w0 {w with heap:=w.heap.setIfInBounds b (.map ents' clock')} O (C.set i (lF kf vf (lE m x y)))/\Step O O w {w with heap:=w.heap.setIfInBounds b (.map ents' clock')}:=by
    intro ents' clock' g1 g2 g3;refine hL.put i hO ⟨ents',clock',by simp[hlt],g1,g2,g3⟩ (λk hk=>?_) (by simp) rfl rfl rfl;simp[Array.getElem?_setIfInBounds,Ne.symm hk]
  rcases H7 x m 0 with⟨g1,_,g2⟩|⟨j,v,g1,g2,_,g3⟩
  . rw[g1]at hf;refine⟨_,by simp[Instr.mapUpdate,run_underlying hu,MapKept.run_getObj_map h1,hk.check,hf,MapKept.run_setObj_map _ h1,Result.andThen];rfl,lay _ _ ?_ ?_ ?_⟩
    . rw[g2 y];simp[h2]
    . intro e he;simp only[Array.toList_push,gH,df]at he;rcases he with he|rfl
      . exact Nat.lt_succ_of_lt (h3 e he)
      . exact xp _
    . simp only[Array.toList_push,iC,kZ,List.map_nil];refine List.nodup_append.2 ⟨h4,by simp,?_⟩;intro a ha b' hb e;obtain⟨q,hq,rfl⟩:=eh.1 ha;simp only[df]at hb;have:=h3 q hq;omega
  . rw[g1,ff]at hf;have hlen:ents.toList.length=m.length:=by have:=dd List.length h2;simpa using this
    have hjm:j<m.length:=(eN.1 g2).1;have hje:j<ents.toList.length:=by omega
    have hkv:((ents.toList[j]).key,(ents.toList[j]).val)=(kf x,vf v):=by
      have:=dd (·[j]?) h2;simp only[iA,cy hje,g2,pL,uT]at this;exact this
    have hj:ents[j]?=some ents.toList[j]:=by rw[<-Array.getElem?_toList];exact cy hje
    have hkey:(ents.toList[j]).key=kf x:=dd Prod.fst hkv;have hml:(ents.modify j (λe'=>{e' with key:=kf x,val:=vf y})).toList=ents.toList.set j {ents.toList[j]with key:=kf x,val:=vf y}:=by rw[Array.toList_modify,ChangeMaps.modify_eq_set _ _ _ _ (cy hje)]
    have hrun:(Instr.mapUpdate t (.map (some b)) (kf x) (vf y)).run P w=.ok () {w with heap:=w.heap.setIfInBounds b (.map (ents.modify j (λe'=>{e' with key:=kf x,val:=vf y})) clock)}:=by
      have hst:(Instr.keyThatStays ((Option.map (·.key) ents[j]?).getD (kf x)) (kf x)).run P w=.ok (kf x) w:=by
        rw[hj];simp only[pL,DJ,hkey];exact hk.stays w x
      simp[Instr.mapUpdate,run_underlying hu,MapKept.run_getObj_map h1,hk.check,hf,hst,MapKept.run_setObj_map _ h1,Result.andThen]
    refine⟨_,hrun,lay _ _ ?_ ?_ ?_⟩
    . rw[hml,g3 y,D0,D0,h2]
    . intro e he;rw[hml]at he;rcases qP he with he|rfl
      . exact h3 e he
      . exact h3 (ents.toList[j]) (dC hje)
    . rw[hml,D0];have:(ents.toList.map (·.born)).set j (ents.toList[j]).born=ents.toList.map (·.born):=by
        apply sJ;intro q;rw[uR];split
        . rename_i hq;subst hq;simp only[cS,hje,if_true,iA,cy hje,pL]
        . rfl
      show((ents.toList.map (·.born)).set j (ents.toList[j]).born).Nodup;rw[this];exact h4
theorem aF.UF{a c d:Operand}{x:K}{y:V}(hk:ml P kt kf)(hu:P.underlying t=some (.map kt et))(ha:ρ a=.map (some b))(hx:ρ c=kf x)(hy:ρ d=vf y)(hL:Loc X [] w0 w O C)(i:Nat)(hO:O[i]?=some (some b))(hC:C[i]?=some (lF kf vf m))
 (h:∀w',Loc X [] w0 w' O (C.set i (lF kf vf (lE m x y)))->Step O O w w'->R undef w'):aF P (.mapUpdate t a c d) ty ρ w R:=by
 obtain⟨w',h1,h2,h3⟩:=UM hk hu hL i hO hC x y;simp only[aF,dI,execOp,ha,hx,hy];simp[h1,upon];exact h w' h2 h3
theorem aF.Rq{x:Operand}(hu:P.underlying t=some (.map kt et))(ha:ρ x=.map (some b))(hc:dR w (some b) (lF kf vf m))(h:R (.int .i64 (m.length:Int)) w):
 aF P (.call {callee:=.builtin .len,args:=#[x],argTypes:=#[t]}) ty ρ w R:=by
 obtain⟨ents,clock,h1,h2,h3,h4⟩:=Gx hc;have hlen:ents.size=m.length:=by have:=dd List.length h2;simpa using this
 have hr:(Builtin.len_ #[t] ty #[.map (some b)]).run P w=.ok (.int .i64 (m.length:Int)) w:=by
  simp[Builtin.len_,run_underlying hu,MapKept.run_getObj_map h1,goInt,hlen]
 simp only[aF,dI,execOp,resolve,invoke,builtin];simp[ha,hr,upon];exact h
end
open Go Go.RowKit
section
variable {P:Program} {X O:List (Option Nat)} {C:List dE} {w w0:World} {ρ:Operand->Value} {ty:TypeId} {R:Value->World->Prop} {H:Hp}
theorem aF.WU{t el:TypeId}{n szt byt:Nat}{zt:Value}{zc:List Value}{parts:List (Nat×Operand)}{sz by':Nat}{z:Value}{vs:List Value}{css:List (List Value)}(hu:P.underlying t=some (.array n el))(tt:TI P t szt byt zt)(hz:zt.cells=zc.toArray)(ti:TI P el sz by' z)
 (hzl:zc.length=vs.length*sz)(hp:(parts.map λp=>(p.1,ρ p.2))=mT 0 vs)(hc:sX sz vs css)(h:R (.agg css.flatten.toArray) w):aF P (.build t parts.toArray) ty ρ w R:=by
 obtain⟨i,hi,_,_,hzz⟩:=tt;obtain⟨j,hj,hs,_,_⟩:=ti;subst hs;have hf:=F6 (sz:=j.size) vs css 0 [] zc (by simp) hzl hc;rw[jC,jC]at hf;have hlist:((parts.toArray.map λ(x:Nat×Operand)=>(x.1,ρ x.2))).toList=mT 0 vs:=by simpa using hp
 have hr:(Instr.build t ((parts.toArray.map λ(x:Nat×Operand)=>(x.1,ρ x.2)))).run P w=.ok (.agg css.flatten.toArray) w:=by
  simp only[Instr.build,Sem.run_bind,zeroValue,typeInfo,run_program,Result.andThen_ok,hi,Sem.run_pure,hzz,run_underlying hu,sizeOf,hj,hz,hlist,hf]
 simp only[aF,dI,execOp];simp only[Sem.run_bind,hr,Result.andThen_ok,Sem.run_pure,upon];exact h
end
open Go Go.RowKit
structure Xte (X:List (Option Nat))(w w':World):Prop where
 os:w'.os=w.os
 tape:w'.tape=w.tape
 output:w'.output=w.output
 size:w.heap.size<=w'.heap.size
 keep:∀k,k<w.heap.size->some k∉X->w'.heap[k]?=w.heap[k]?
section
variable {X O O' Oq:List (Option Nat)} {C:List dE} {w w' w0 w9:World} {is:List Nat}
theorem Xte.ext(h:Xte [] w w'):Ext w w':=⟨h.os,h.tape,h.output,h.size,λk hk=>h.keep k hk (by simp)⟩
end
open Go Go.RowKit
noncomputable def H0:Hp:=λ_=>none
def DS{β:Type}(r:cx β)(v:Value)(ob:Option Nat)(c:dE)(ys:List β):Prop:= ∃cap cs sp,v=fJ ob 0 ys.length cap/\c=.cells ([]++(cs++sp))/\(cs++sp).length=cap*r.sz/\cz r H0 cs ys
def oW(H:Hp):Option Nat->dE->Prop
 |some b,.cells cs=>At H b 0 cs
 |none,.cells cs=>cs=[]
 |_,_=>True
structure BN (α:Type)where
 r:cx α
 nf:Nat
 R:List Value->List (Option Nat)->List dE->α->Prop
 len:∀(vs:List Value) (bs:List (Option Nat)) (c:List dE) (x:α),R vs bs c x->vs.length=r.sz/\bs.length=nf/\c.length=nf
 toR:∀(vs:List Value) (bs:List (Option Nat)) (c:List dE) (x:α) (H:Hp),R vs bs c x->(∀(f:Nat) (b:Option Nat) (k:dE),bs[f]?=some b->c[f]?=some k->oW H b k)->r.R H vs x
section
variable {α:Type} {D:BN α}
def DEls(D:BN α):List Value->List (Option Nat)->List dE->List α->Prop
 |cs,FB,FC,[]=>cs=[]/\FB=[]/\FC=[]
 |cs,FB,FC,x::xs=>∃vs cs' bs FB' c FC',cs=vs++cs'/\FB=bs++FB'/\FC=c++FC'/\D.R vs bs c x/\DEls D cs' FB' FC' xs
end
open Go Go.RowKit
section
variable {P:Program} {ty:TypeId} {ρ:Operand->Value} {w:World} {R:Value->World->Prop}
theorem aF.Xz{t el:TypeId}{n szt byt:Nat}{zt:Value}{zc:List Value}{sz by':Nat}{z:Value}(hu:P.underlying t=some (.array n el))(tt:TI P t szt byt zt)(hz:zt.cells=zc.toArray)(ti:TI P el sz by' z)
 (h:R (.agg zc.toArray) w):aF P (.build t #[]) ty ρ w R:=by
 obtain⟨i,hi,_,_,hzz⟩:=tt;obtain⟨j,hj,hs,_,_⟩:=ti;have hr:(Instr.build t #[]).run P w=.ok (.agg zc.toArray) w:=by
  simp[Instr.build,Sem.run_bind,zeroValue,typeInfo,run_program,Result.andThen_ok,hi,Sem.run_pure,hzz,run_underlying hu,sizeOf,hj,hz,Instr.fill]
 simp only[aF,dI,execOp];simp[hr,upon];exact h
end
def nJ{α:Type}(xs:List α)(l h:Int)(z:α):List α:=xs.take l.toNat++(List.replicate (h-l).toNat z++xs.drop h.toNat)
theorem Hh{α:Type}{xs:List α}{l h:Nat}{z:α}(h1:l<=h)(h2:h<=xs.length):(nJ xs (l:Int) (h:Int) z).length=xs.length:=by
 simp[nJ];omega
end Go.X
namespace Go.Q
open Go Go.RowKit Go.X
class fy where
 l:List Nat
 p:Nat->Obj->Prop
def xG[fy](H:Bool->Hp):Prop:=∀g∈fy.l,∃o,H true g=some o/\fy.p g o
variable [fy]
structure Pd where
 p:(Bool->Hp)->Value->Prop
 mono:∀(H H':Bool->Hp) (v:Value),(∀κ,Le (H κ) (H' κ))->p H v->p H' v
 one:∀(H:Bool->Hp) (v:Value),p H v->X.one v=true
inductive Lf:Type 1 where
 |v (x:Value)
 |ro {α:Type} (r:cx α) (κ:Bool) (xs:List α)
 |cp {α:Type} (r:cx α) (κ:Bool) (xs:List α)
 |own (i:Nat)
 |ptr (i off:Nat)
 |mp (i:Nat)
 |pd (q:Pd)
 |sg (i sz:Nat) (lo hi:Int)
 |ap {α:Type} (i:Nat) (r:cx α) (κ:Bool) (xs:List α)
inductive Ob:Type 1 where
 |row {α:Type} (r:cx α) (κ:Bool) (xs:List α)
 |box (l:List Lf)
 |map {K V:Type} (dk:DecidableEq K) (kf:K->Value) (vf:V->Value) (m:List (K×V))
 |deep {α:Type} (j:Nat) (D:BN α) (xs:List α) (hs:List (Nat×Nat×Nat×Nat))
 |hd {α:Type} (h i i':Nat) (r:cx α) (κ:Bool) (xs:List α)
 |aN {α:Type} (r:cx α) (κ:Bool) (xs:List α)
inductive S1:Type 1 where
 |lf (l:Lf)
 |agg (l:List Lf)
inductive Sv:Type 1 where
 |s (x:S1)
 |fX (l:List S1)
 |pr (κ:Bool) (cells:List Lf) (off:Nat)
 |pw {α:Type} (i:Nat) (r:cx α) (xs:List α) (x:α) (ix:Int) (off:Nat)
 |fc (f:FuncId) (ps:List Nat)
 |pa {α:Type} (i:Nat) (r:cx α) (κ:Bool) (xs:List α) (x:α) (ix:Int) (off:Nat)
structure Nu where
 f:Nat->Option (Option Nat×Nat×Nat)
 tl:Nat->List (Option Nat)
 tc:Nat->List dE
instance:CoeFun Nu λ_=>Nat->Option (Option Nat×Nat×Nat):=⟨Nu.f⟩
def uD:Nu:=⟨λ_=>none,λ_=>[],λ_=>[]⟩
def Ob.tid:Ob->Option Nat
 |.deep t _ _ _=>some t
 |_=>none
def fu(ν ν':Nu):Prop:=∀(i:Nat) x,ν i=some x->ν' i=some x
def aW{α:Type 1}:List (Nat×Option α)->Nat->Option α
 |[],_=>none
 |(d,s)::r,t=>bif Nat.beq t d then s else aW r t
def bS{α:Type 1}:List (Nat×Option α)->(Nat->Option α)->Nat->Option α
 |[],f,t=>f t
 |(d,s)::r,f,t=>bif Nat.beq t d then s else bS r f t
theorem re{α:Type 1}:∀(l r:List (Nat×Option α)) (t:Nat),aW (l++r) t=bS l (aW r) t
 |[],_,_=>rfl
 |(d,s)::l,r,t=>by show(bif _ then _ else aW (l++r) t)=(bif _ then _ else bS l (aW r) t);rw[re l r t]
theorem kJ{α:Type 1}:∀{l:List (Nat×Option α)} {f:Nat->Option α} {t:Nat},cI t (l.map (·.1))=false->bS l f t=f t
 |[],_,_,_=>rfl
 |(d,s)::l,f,t,h=>by
  simp only[kZ,cI,IE]at h;show(bif Nat.beq t d then s else bS l f t)=f t;have:Nat.beq t d=false:=by
   cases hb:Nat.beq t d with
   |false=>rfl
   |true=>have:=ee hb;subst this;rw[sK]at h;cases h.1
  rw[this];exact kJ h.2
theorem rM{α:Type 1}:∀{l:List (Nat×Option α)} {f g:Nat->Option α} {t:Nat},cI t (l.map (·.1))=true->bS l f t=bS l g t
 |[],_,_,_,h=>by cases h
 |(d,s)::l,f,g,t,h=>by
  show(bif Nat.beq t d then s else bS l f t)=(bif Nat.beq t d then s else bS l g t);cases hb:Nat.beq t d with
  |true=>rfl
  |false=>
   simp only[kZ,cI,xo]at h;rcases h with h|h
   . have:=ee h;subst this;rw[sK]at hb;cases hb
   . exact rM h
theorem kd{α:Type 1}{x:α}:∀{l:List (Nat×Option α)} {f:Nat->Option α} {t:Nat},bS l f t=some x->(t,some x)∈l\/(f t=some x/\cI t (l.map (·.1))=false)
 |[],_,_,h=>.inr ⟨h,rfl⟩
 |(d,s)::l,f,t,h0=>by
  have h:(bif Nat.beq t d then s else bS l f t)=some x:=h0;clear h0;cases hb:Nat.beq t d with
  |true=>rw[hb]at h;simp only[cond_true]at h;have:=ee hb;subst this;subst h;exact .inl cU
  |false=>
   rw[hb]at h;simp only[cond_false]at h;rcases kd (l:=l) h with h|⟨h1,h2⟩
   . exact .inl (cP _ h)
   . refine .inr ⟨h1,?_⟩;simp only[kZ,cI,h2,Bool.or_false];exact hb
structure SS:Type 1 where
 nx:Nat
 bL:List (Nat×Option Ob)
 cv:List (Nat×Option Sv)
abbrev OF:=Nat->Option Ob
abbrev SF:=Nat->Option Sv
section
variable (ν:Nu) (H:Bool->Hp)
def Lf.R:Lf->Value->Prop
 |.v x,a=>a=x/\one x=true
 |.ro r κ xs,a=>Rs r (H κ) a xs
 |.cp r κ xs,a=>Rs r (H κ) a xs/\xP a
 |.own i,a=>∃b c n,ν i=some (b,c,n)/\a=fJ b 0 n c
 |.ptr i off,a=>∃b c,ν i=some (some b,c)/\a=.pointer (some ⟨b,off,none⟩)
 |.mp i,a=>∃b c,ν i=some (some b,c)/\a=.map (some b)
 |.pd q,a=>q.p H a
 |.sg i sz lo hi,a=>∃b c m k q,ν i=some (some b,c)/\lo=((m:Nat):Int)/\hi=((k:Nat):Int)/\m<=k/\a=.slice (some ⟨b,m*sz,none⟩) (k-m) q
 |.ap i r κ xs,a=>∃b c n,ν i=some (b,c,n)/\((n=xs.length/\(b=none->xs=[])/\a=fJ b 0 n c)\/(n=xs.length+1/\Rs r (H κ) a xs/\xP a))
def dz:List Lf->List Value->Prop
 |[],vs=>vs=[]
 |l::ls,vs=>∃a az,vs=a::az/\l.R ν H a/\dz ls az
def S1.R:S1->Value->Prop
 |.lf l,a=>l.R ν H a
 |.agg l,a=>∃vs,a=.agg vs.toArray/\dz ν H l vs
def eD:List S1->List Value->Prop
 |[],vs=>vs=[]
 |l::ls,vs=>∃a az,vs=a::az/\l.R ν H a/\eD ls az
def yT:List Nat->List Value->Prop
 |[],vs=>vs=[]
 |p::r,vs=>∃b c vs',vs=.pointer (some ⟨b,0,none⟩)::vs'/\ν p=some (some b,c)/\yT r vs'
def Sv.R:Sv->Value->Prop
 |.s x,a=>x.R ν H a
 |.fX l,a=>∃vs,a=.tuple vs.toArray/\eD ν H l vs
 |.pr κ cells off,a=>∃b o vs,a=.pointer (some ⟨b,o+off,none⟩)/\At (H κ) b o vs/\dz ν H cells vs
 |.pw i r xs x ix off,a=>∃b c n,ν i=some (some b,c)/\ix=((n:Nat):Int)/\xs[n]?=some x/\a=.pointer (some ⟨b,n*r.sz+off,none⟩)
 |.fc f ps,a=>∃vs,a=.func (.func f) #[] (List.toArray vs)/\yT ν ps vs
 |.pa i r κ xs x ix off,a=>∃b c n m,ν i=some (b,c,n)/\ix=((m:Nat):Int)/\xs[m]?=some x/\((n=xs.length/\∃b',b=some b'/\a=.pointer (some ⟨b',m*r.sz+off,none⟩))\/(n=xs.length+1/\∃b' o vs,a=.pointer (some ⟨b',o+off,none⟩)/\At (H κ) b' o vs/\r.R (H κ) vs x))
def Ob.R(c n:Nat):Ob->dE->Prop
 |.row r κ xs,k=>n=xs.length/\(r.sz==0)=false/\∃cs sp,k=.cells ([]++(cs++sp))/\cz r (H κ) cs xs/\(cs++sp).length=c*r.sz
 |.box l,k=>∃vs,k=.cells vs/\dz ν H l vs
 |.map _ kf vf m,k=>k=lF kf vf m
 |.hd h i i' r κ xs,k=>∃b0 c0,ν i=some (b0,c0,xs.length)/\(r.sz==0)=false/\((ν h=some (b0,c0,xs.length)/\∃cs sp,k=.cells ([]++(cs++sp))/\cz r (H κ) cs xs/\(cs++sp).length=c0*r.sz)\/((∃c',ν h=some (none,c'))/\∃n',ν i'=some (b0,c0,n')))
 |.deep j0 D xs hs,k=>n=xs.length/\(D.r.sz==0)=false/\∃t c' n' cs sp FB FC,ν j0=some (some t,c',n')/\k=.cells ([]++(cs++sp))/\(cs++sp).length=c*D.r.sz/\DEls D cs FB FC xs/\(ν.tl t).length=FB.length/\(ν.tc t).length=FC.length/\ (∀j,cI j (hs.map (·.1))=false->(ν.tl t)[j]?=FB[j]?/\(ν.tc t)[j]?=FC[j]?)/\ ∀h∈hs,(ν.tl t)[h.1]?=some none/\(ν.tc t)[h.1]?=some (.cells [])/\∃b c n,ν h.2.2.2=some (b,c,n)/\FB[h.1]?=some b/\cs[h.2.1*D.r.sz+h.2.2.1]?=some (fJ b 0 n c)
 |.aN r κ xs,k=>(r.sz==0)=false/\((n=xs.length/\∃cs sp,k=.cells ([]++(cs++sp))/\cz r (H κ) cs xs/\(cs++sp).length=c*r.sz)\/(n=xs.length+1/\k=.cells []))
def ObsR:List (Nat×Ob)->List dE->Prop
 |[],C=>C=[]
 |x::r,C=>∃b c n k C',C=k::C'/\ν x.1=some (b,c,n)/\x.2.R ν H c n k/\ObsR r C'
def dO(sF:SF)(e:Env):Prop:=∀t sv,sF t=some sv->sv.R ν H (e t)
def svR:Option Sv->Value->Prop
 |none,_=>True
 |some s,v=>s.R ν H v
end
def dP(ν:Nu)(i:Nat):Option Nat:=match ν i with
 |some (b,_)=>b
 |none=>none
theorem eV{ν:Nu}{i:Nat}{b:Option Nat}{c:Nat×Nat}(h:ν i=some (b,c)):dP ν i=b:=by unfold dP;rw[h]
def Os(ν:Nu)(l:List (Nat×Ob)):List (Option Nat):=l.map λx=>dP ν x.1
def iL(ν:Nu)(i:Nat)(ob:Ob):Option Nat:=match ob.tid with
 |some _=>dP ν i
 |none=>none
theorem vX{ν:Nu}{i:Nat}{ob:Ob}(h:ob.tid=none):iL ν i ob=none:=by unfold iL;rw[h]
def gA(ν:Nu)(i:Nat)(ob:Ob)(b:Nat):Prop:=dP ν i=some b\/∃t,iL ν i ob=some t/\some b∈ν.tl t
def Ow(ν:Nu)(oF:OF)(b:Nat):Prop:=∃i ob,oF i=some ob/\gA ν i ob b
def Ob.tok(ν:Nu)(w:World)(i:Nat)(ob:Ob):Prop:=∀t,iL ν i ob=some t->iv w (ν.tl t) (ν.tc t)/\jM (ν.tl t)
def l6:Option Obj->Option Obj
 |some (.cells a b c)=>some (.cells a b c)
 |_=>none
theorem nR{x:Option Obj}{o:Obj}(h:l6 x=some o):x=some o:=by
 cases x with
 |none=>cases h
 |some y=>cases y<;>first|exact h|cases h
theorem vT{w:World}{b:Nat}{cs:List Value}{q:Obj}(h:dR w (some b) (.cells cs))(hq:w.heap[b]?=some q):l6 (w.heap[b]?)=some q:=by
 obtain⟨t,lo,hi,h1,_⟩:=h;rw[h1]at hq⊢;exact hq
open Classical in
noncomputable def HF(X:Nat->Prop)(w0:World)(H0:Bool->Hp)(ν:Nu)(oF:OF)(w:World)(κ:Bool):Hp:=λb=>if b<w0.heap.size/\¬X b then H0 κ b else if Ow ν oF b then none else l6 (w.heap[b]?)
structure de (X:Nat->Prop)(w0:World)(H0:Bool->Hp)(ν:Nu)(oF:OF)(w:World):Prop where
 os:w.os=w0.os
 tape:w.tape=w0.tape
 output:w.output=w0.output
 size:w0.heap.size<=w.heap.size
 keep:∀k,k<w0.heap.size->¬X k->w.heap[k]?=w0.heap[k]?
 h0:Le (H0 true) (H0 false)
 oy:∀b o,H0 false b=some o->b<w0.heap.size/\w0.heap[b]?=some o/\¬X b
 qG:xG H0
 dD:∀i ob,oF i=some ob->∃b c n k,ν i=some (b,c,n)/\dR w b k/\ob.R ν (HF X w0 H0 ν oF w) c n k
 fresh:∀i ob b,oF i=some ob->gA ν i ob b->X b\/w0.heap.size<=b
 iq:∀i j oi oj b,oF i=some oi->oF j=some oj->gA ν i oi b->gA ν j oj b->i=j
 parts:∀i ob,oF i=some ob->ob.tok ν w i/\(∀b t,dP ν i=some b->iL ν i ob=some t->some b∉ν.tl t)/\∀j,ob.tid=some j->j=i
section
variable {ν ν':Nu} {H H':Bool->Hp}
theorem Lf.R.mono(hν:fu ν ν')(hH:∀κ,Le (H κ) (H' κ)):∀{l:Lf} {a:Value},l.R ν H a->l.R ν' H' a
 |.v _,_,h=>h
 |.ro r κ xs,_,h=>Rs.mono h (hH κ)
 |.cp r κ xs,_,h=>⟨Rs.mono h.1 (hH κ),h.2⟩
 |.own _,_,⟨b,c,n,h1,h2⟩=>⟨b,c,n,hν _ _ h1,h2⟩
 |.ptr _ _,_,⟨b,c,h1,h2⟩=>⟨b,c,hν _ _ h1,h2⟩
 |.mp _,_,⟨b,c,h1,h2⟩=>⟨b,c,hν _ _ h1,h2⟩
 |.pd q,_,h=>q.mono _ _ _ hH h
 |.sg ..,_,⟨b,c,m,k,q,h1,h2⟩=>⟨b,c,m,k,q,hν _ _ h1,h2⟩
 |.ap i r κ xs,_,⟨b,c,n,h1,h2⟩=>⟨b,c,n,hν _ _ h1,h2.imp id λh=>⟨h.1,Rs.mono h.2.1 (hH _),h.2.2⟩⟩
theorem dz.mono(hν:fu ν ν')(hH:∀κ,Le (H κ) (H' κ)):∀{l:List Lf} {a:List Value},dz ν H l a->dz ν' H' l a
 |[],_,h=>h
 |_::_,_,⟨a,az,h1,h2,h3⟩=>⟨a,az,h1,h2.mono hν hH,dz.mono hν hH h3⟩
theorem S1.R.mono(hν:fu ν ν')(hH:∀κ,Le (H κ) (H' κ)):∀{l:S1} {a:Value},l.R ν H a->l.R ν' H' a
 |.lf _,_,h=>Lf.R.mono hν hH h
 |.agg _,_,⟨vs,h1,h2⟩=>⟨vs,h1,h2.mono hν hH⟩
theorem eD.mono(hν:fu ν ν')(hH:∀κ,Le (H κ) (H' κ)):∀{l:List S1} {a:List Value},eD ν H l a->eD ν' H' l a
 |[],_,h=>h
 |_::_,_,⟨a,az,h1,h2,h3⟩=>⟨a,az,h1,h2.mono hν hH,eD.mono hν hH h3⟩
theorem yT.mono(hν:fu ν ν'):∀{l:List Nat} {a:List Value},yT ν l a->yT ν' l a
 |[],_,h=>h
 |_::_,_,⟨b,c,vs,h1,h2,h3⟩=>⟨b,c,vs,h1,hν _ _ h2,h3.mono hν⟩
theorem Sv.R.mono(hν:fu ν ν')(hH:∀κ,Le (H κ) (H' κ)):∀{l:Sv} {a:Value},l.R ν H a->l.R ν' H' a
 |.s _,_,h=>S1.R.mono hν hH h
 |.fX _,_,⟨vs,h1,h2⟩=>⟨vs,h1,h2.mono hν hH⟩
 |.pr κ _ _,_,⟨b,o,vs,h1,h2,h3⟩=>⟨b,o,vs,h1,h2.mono (hH κ),h3.mono hν hH⟩
 |.pw ..,_,⟨b,c,n,h1,h2⟩=>⟨b,c,n,hν _ _ h1,h2⟩
 |.fc ..,_,⟨vs,h1,h2⟩=>⟨vs,h1,h2.mono hν⟩
 |.pa i r κ xs x ix off,_,⟨b,c,n,m,h1,h2,h3,h4⟩=>⟨b,c,n,m,hν _ _ h1,h2,h3,h4.imp id λ⟨e,b',o,vs,g1,g2,g3⟩=>⟨e,b',o,vs,g1,g2.mono (hH _),r.mono _ _ _ _ (hH _) g3⟩⟩
theorem Ob.R.mono(hν:fu ν ν')(hH:∀κ,Le (H κ) (H' κ)){c n:Nat}:∀{l:Ob} {k:dE} (ht:∀j b c n,l.tid=some j->ν j=some (some b,c,n)->ν'.tl b=ν.tl b/\ν'.tc b=ν.tc b),l.R ν H c n k->l.R ν' H' c n k
 |.row r κ xs,_,_,⟨h1,h0,cs,sp,h2,h3,h4⟩=>⟨h1,h0,cs,sp,h2,h3.mono (hH κ),h4⟩
 |.box _,_,_,⟨vs,h1,h2⟩=>⟨vs,h1,h2.mono hν hH⟩
 |.map ..,_,_,h=>h
 |.hd ..,_,_,⟨b0,c0,h1,h2,h3⟩=>by
  refine⟨b0,c0,hν _ _ h1,h2,?_⟩;rcases h3 with⟨g1,cs,sp,g2,g3,g4⟩|⟨⟨c',g1⟩,n',g2⟩
  . exact .inl ⟨hν _ _ g1,cs,sp,g2,g3.mono (hH _),g4⟩
  . exact .inr ⟨⟨c',hν _ _ g1⟩,n',hν _ _ g2⟩
 |.deep t D xs hs,_,ht,h=>by
  obtain⟨h1,h2,t,c',n',cs,sp,FB,FC,h0,h3,h4,h5,h6,h7,h8,h9⟩:=h;obtain⟨e1,e2⟩:=ht _ _ _ _ rfl h0;refine⟨h1,h2,t,c',n',cs,sp,FB,FC,hν _ _ h0,h3,h4,h5,by rw[e1];exact h6,by rw[e2];exact h7,λj hj=>by rw[e1,e2];exact h8 j hj,λh hh=>?_⟩;obtain⟨g1,g2,b,c,n,g3,g4,g5⟩:=h9 h hh;exact⟨by rw[e1];exact g1,by rw[e2];exact g2,b,c,n,hν _ _ g3,g4,g5⟩
 |.aN r κ xs,_,_,⟨h0,h⟩=>⟨h0,h.imp (λ⟨e,cs,sp,g1,g2,g3⟩=>⟨e,cs,sp,g1,g2.mono (hH _),g3⟩) id⟩
theorem dO.mono(hν:fu ν ν')(hH:∀κ,Le (H κ) (H' κ)){l:SF}{e:Env}(h:dO ν H l e):dO ν' H' l e:=λt sv ht=>(h t sv ht).mono hν hH
theorem Lf.R.one:∀{l:Lf} {a:Value},l.R ν H a->X.one a=true
 |.v _,_,⟨h1,h2⟩=>h1▸h2
 |.ro _ _ _,_,h=>Rs.one h
 |.cp _ _ _,_,h=>Rs.one h.1
 |.own _,_,⟨b,c,n,_,h⟩=>by rw[h];exact KP _ _ _ _
 |.ptr _ _,_,⟨b,c,_,h⟩=>by rw[h];rfl
 |.mp _,_,⟨b,c,_,h⟩=>by rw[h];rfl
 |.pd q,_,h=>q.one _ _ h
 |.sg ..,_,⟨b,c,m,k,q,_,_,_,_,h⟩=>by rw[h];rfl
 |.ap ..,_,⟨b,c,n,_,h⟩=>by
  rcases h with⟨_,_,h⟩|⟨_,h,_⟩
  . rw[h];exact KP _ _ _ _
  . exact Rs.one h
theorem dz.fK:∀{l:List Lf} {a:List Value},dz ν H l a->X.fK a=true
 |[],_,h=>by rw[show _=[] from h];rfl
 |_::_,_,⟨a,az,h1,h2,h3⟩=>by rw[h1];exact eI h2.one h3.fK
theorem dz.length:∀{l:List Lf} {a:List Value},dz ν H l a->a.length=l.length
 |[],_,h=>by rw[show _=[] from h];rfl
 |_::_,_,⟨a,az,h1,h2,h3⟩=>by rw[h1,cN,cN,h3.length]
theorem dz.get:∀{l:List Lf} {a:List Value} {i:Nat} {x:Lf},dz ν H l a->l[i]?=some x->∃y,a[i]?=some y/\x.R ν H y
 |[],_,i,x,_,hx=>by simp at hx
 |_::_,_,0,x,⟨a,az,h1,h2,h3⟩,hx=>by simp at hx;subst hx;exact⟨a,by rw[h1];rfl,h2⟩
 |_::_,_,i+1,x,⟨a,az,h1,h2,h3⟩,hx=>by
  obtain⟨y,g1,g2⟩:=h3.get (i:=i) (by simpa using hx);exact⟨y,by rw[h1];simpa using g1,g2⟩
theorem dz.drop:∀{l:List Lf} {a:List Value} (n:Nat),dz ν H l a->dz ν H (l.drop n) (a.drop n)
 |[],_,n,h=>by rw[show _=[] from h];simp;rfl
 |_::_,_,0,h=>h
 |_::_,_,n+1,⟨a,az,h1,h2,h3⟩=>by rw[h1];exact h3.drop n
theorem dz.take:∀{l:List Lf} {a:List Value} (n:Nat),dz ν H l a->dz ν H (l.take n) (a.take n)
 |[],_,n,h=>by rw[show _=[] from h];simp;rfl
 |_::_,_,0,h=>rfl
 |_::_,_,n+1,⟨a,az,h1,h2,h3⟩=>by rw[h1];exact⟨a,az.take n,rfl,h2,h3.take n⟩
theorem dz.set:∀{l:List Lf} {a:List Value} {i:Nat} {x:Lf} {y:Value},dz ν H l a->x.R ν H y->dz ν H (l.set i x) (a.set i y)
 |[],_,i,x,y,h,_=>by rw[show _=[] from h];rfl
 |_::_,_,0,x,y,⟨a,az,h1,h2,h3⟩,hy=>by rw[h1];exact⟨y,az,rfl,hy,h3⟩
 |_::_,_,i+1,x,y,⟨a,az,h1,h2,h3⟩,hy=>by rw[h1];exact⟨a,az.set i y,rfl,h2,h3.set hy⟩
theorem dz.append:∀{l l':List Lf} {a a':List Value},dz ν H l a->dz ν H l' a'->dz ν H (l++l') (a++a')
 |[],_,_,_,h,h'=>by rw[show _=[] from h];exact h'
 |_::_,_,_,_,⟨a,az,h1,h2,h3⟩,h'=>by rw[h1];exact⟨a,az++_,rfl,h2,h3.append h'⟩
def wI(l:List Lf)(o:Nat):List Lf->List Lf
 |[]=>l
 |u::r=>wI (l.set o u) (o+1) r
theorem dz.put:∀{us:List Lf} {l:List Lf} {a bs:List Value} {o:Nat},dz ν H l a->dz ν H us bs->dz ν H (wI l o us) (putAt a o bs)
 |[],_,_,_,_,h,h'=>by rw[show _=[] from h'];exact h
 |u::us,l,a,_,o,h,⟨b,bs,h1,h2,h3⟩=>by rw[h1];show dz ν H (wI (l.set o u) (o+1) us) (putAt (a.set o b) (o+1) bs);exact dz.put (h.set h2) h3
theorem eD.get:∀{l:List S1} {a:List Value} {i:Nat} {x:S1},eD ν H l a->l[i]?=some x->∃y,a[i]?=some y/\x.R ν H y
 |[],_,i,x,_,hx=>by simp at hx
 |_::_,_,0,x,⟨a,az,h1,h2,h3⟩,hx=>by simp at hx;subst hx;exact⟨a,by rw[h1];rfl,h2⟩
 |_::_,_,i+1,x,⟨a,az,h1,h2,h3⟩,hx=>by
  obtain⟨y,g1,g2⟩:=h3.get (i:=i) (by simpa using hx);exact⟨y,by rw[h1];simpa using g1,g2⟩
theorem eD.length:∀{l:List S1} {a:List Value},eD ν H l a->a.length=l.length
 |[],_,h=>by rw[show _=[] from h];rfl
 |_::_,_,⟨a,az,h1,h2,h3⟩=>by rw[h1,cN,cN,h3.length]
def yz(f:SF)(d:Nat)(s:Option Sv):SF:=λt=>bif Nat.beq t d then s else f t
theorem dO.set{f:SF}{e:Env}{d:Nat}{s:Option Sv}{v:Value}(h:dO ν H f e)(hv:svR ν H s v):dO ν H (yz f d s) (cX e d v):=by
 intro t sv ht;unfold yz at ht;unfold cX;cases hb:Nat.beq t d with
 |true=>rw[hb]at ht;simp only[cond_true]at ht⊢;subst ht;exact hv
 |false=>rw[hb]at ht;simp only[cond_false]at ht⊢;exact h t sv ht
def H3(f:SF):Option Nat->Option Sv->SF
 |some d,s=>yz f d s
 |none,_=>f
theorem dO.nr{f:SF}{e:Env}{d:Option Nat}{s:Option Sv}{v:Value}(h:dO ν H f e)(hv:svR ν H s v):dO ν H (H3 f d s) (ku e d v):=by
 cases d with
 |none=>exact h
 |some d=>exact h.set hv
end
theorem fu.refl(ν:Nu):fu ν ν:=λ_ _ h=>h
section
variable {X:Nat->Prop} {w0 w w':World} {H0:Bool->Hp} {ν ν':Nu} {oF oF':OF}
theorem mq{b:Nat}{κ:Bool}{o:Obj}(h:X b\/w0.heap.size<=b)(hn:¬Ow ν oF b)(hb:l6 (w.heap[b]?)=some o):HF X w0 H0 ν oF w κ b=some o:=by
  unfold HF; rw [aQ (by rintro ⟨h1, h2⟩; rcases h with h | h; · exact h2 h
                        . omega),aQ hn];exact hb
theorem pf{b:Nat}{κ:Bool}(h:b<w0.heap.size)(hx:¬X b):HF X w0 H0 ν oF w κ b=H0 κ b:=by
 unfold HF;rw[bA ⟨h,hx⟩]
theorem tM{b:Nat}{κ:Bool}{o:Obj}(h:HF X w0 H0 ν oF w κ b=some o):(b<w0.heap.size/\¬X b/\H0 κ b=some o)\/((X b\/w0.heap.size<=b)/\¬Ow ν oF b/\l6 (w.heap[b]?)=some o):=by
 unfold HF at h;split at h
 . rename_i hc;exact .inl ⟨hc.1,hc.2,h⟩
 . rename_i hc;split at h
   . cases h
   . refine .inr ⟨?_,by assumption,h⟩;rcases cG b w0.heap.size with h1|h1
     . exact .inl (je λh2=>hc ⟨h1,h2⟩)
     . exact .inr h1
theorem de.tf(hS:de X w0 H0 ν oF w):Le (HF X w0 H0 ν oF w true) (HF X w0 H0 ν oF w false):=λb o h=>by
 rcases tM h with⟨h1,h1',h2⟩|⟨h1,h2,h3⟩
 . rw[pf h1 h1'];exact hS.h0 b o h2
 . exact mq h1 h2 h3
theorem de.tab(hS:de X w0 H0 ν oF w):xG (HF X w0 H0 ν oF w):=λg hg=>by
 obtain⟨o,h1,h2⟩:=hS.qG g hg;obtain⟨g1,_,g3⟩:=hS.oy g o (hS.h0 g o h1);exact⟨o,by rw[pf g1 g3];exact h1,h2⟩
theorem de.lef(hS:de X w0 H0 ν oF w)(κ:Bool):Le (HF X w0 H0 ν oF w κ) (HF X w0 H0 ν oF w false):=by
 cases κ with
 |true=>exact hS.tf
 |false=>exact Le.refl _
theorem de.rd(hS:de X w0 H0 ν oF w){κ:Bool}{b:Nat}{o:Obj}(h:HF X w0 H0 ν oF w κ b=some o):w.heap[b]?=some o/\¬Ow ν oF b:=by
 rcases tM (hS.lef κ b o h)with⟨h1,_,h2⟩|⟨h1,h2,h3⟩
 . obtain⟨g1,g2,g3⟩:=hS.oy b o h2;refine⟨(hS.keep b g1 g3).trans g2,?_⟩;rintro⟨i,ob,q1,q2⟩;rcases hS.fresh i ob b q1 q2 with q3|q3
   . exact g3 q3
   . omega
 . exact⟨nR h3,h2⟩
theorem de.view(hS:de X w0 H0 ν oF w)(κ:Bool):Le (HF X w0 H0 ν oF w κ) (view [] w):=λb o h=>wZ (hS.rd h).1 (by simp)
theorem K5{l:List (Nat×Ob)}{b:Option Nat}(h:b∈Os ν l):∃x∈l,dP ν x.1=b:=by
 obtain⟨x,h1,h2⟩:=eh.1 h;exact⟨x,h1,h2⟩
theorem Lw:∀{l:List (Nat×Ob)},jM (Os ν l)->(l.map (·.1)).Nodup->∀x∈l,∀y∈l,∀b,dP ν x.1=some b->dP ν y.1=some b->x.1=y.1
 |[],_,_,x,hx,_,_,_,_,_=>by cases hx
 |z::r,hd,hn,x,hx,y,hy,b,h1,h2=>by
  have hd':jM (dP ν z.1::Os ν r):=hd;have hn':=PN.1 (show(z.1::r.map (·.1)).Nodup from hn);have hr:jM (Os ν r):=by
   cases hb:dP ν z.1 with
   |none=>rw[hb]at hd';exact hd'
   |some c=>rw[hb]at hd';exact hd'.2
  rcases eJ.1 hx with e|e<;>rcases eJ.1 hy with e'|e'
  . subst e;subst e';rfl
  . subst e;rw[h1]at hd';exact bX (eh.2 ⟨y,e',h2⟩) hd'.1
  . subst e';rw[h2]at hd';exact bX (eh.2 ⟨x,e,h1⟩) hd'.1
  . exact Lw hr hn'.2 x e y e' b h1 h2
theorem rF{ob:Ob}{i b:Nat}(ht:ob.tid=none):gA ν i ob b↔dP ν i=some b:=by
 constructor
 . rintro(h|⟨t,h,_⟩)
   . exact h
   . rw[vX ht]at h;cases h
 . exact .inl
theorem Ew{w w':World}:∀{O:List (Option Nat)} {C:List dE},iv w O C->(∀b,some b∈O->w'.heap[b]?=w.heap[b]?)->iv w' O C
 |[],[],_,_=>trivial
 |o::O,c::C,h,hs=>by
  refine⟨?_,Ew h.2 λb hb=>hs b (cP _ hb)⟩;cases o with
  |none=>have h1:=h.1;cases c<;>exact h1
  |some b=>exact dR.same h.1 λk hk=>by cases hk;exact hs b cU
theorem Bg{w:World}:∀{O:List (Option Nat)} {C:List dE} {b:Nat},iv w O C->some b∈O->b<w.heap.size
 |o::O,c::C,b,h,hb=>by
  rcases eJ.1 hb with e|e
  . subst e;exact h.1.lt
  . exact Bg h.2 e
theorem de.ltO(hS:de X w0 H0 ν oF w){i:Nat}{ob:Ob}{b:Nat}(h1:oF i=some ob)(h2:gA ν i ob b):b<w.heap.size:=by
 rcases h2 with h2|⟨t,h2,h3⟩
 . obtain⟨b',c,n,k,q1,q2,_⟩:=hS.dD i ob h1;rw[eV q1]at h2;subst h2;exact q2.lt
 . exact Bg ((hS.parts i ob h1).1 t h2).1 h3
theorem Ue{i j t:Nat}{ob:Ob}(h:ob.tid=some j)(hb:dP ν i=some t):iL ν i ob=some t:=by unfold iL;rw[h];exact hb
theorem de.goT(hS:de X w0 H0 ν oF w){T:List Nat}{O O':List (Option Nat)}{C':List dE}{new:List (Nat×Ob)}(hO:∀b,some b∈O->∃i∈T,∃ob,oF i=some ob/\gA ν i ob b)
 (hL:Go.X.Loc O [] w w' O' C')(hν:fu ν ν')(hO':∀x∈new,∀b,gA ν' x.1 x.2 b->some b∈O')(hD:∀x∈new,∀y∈new,∀b,gA ν' x.1 x.2 b->gA ν' y.1 y.2 b->x.1=y.1)(hF:∀i ob,oF' i=some ob->(oF i=some ob/\i∉T)\/(i,ob)∈new)
 (hT:∀i ob t,oF i=some ob->i∉T->iL ν i ob=some t->ν'.tl t=ν.tl t/\ν'.tc t=ν.tc t)
 (hP:∀x∈new,x.2.tok ν' w' x.1/\(∀b t,dP ν' x.1=some b->iL ν' x.1 x.2=some t->some b∉ν'.tl t)/\∀j,x.2.tid=some j->j=x.1)
 (hR:(∀κ,Le (HF X w0 H0 ν oF w κ) (HF X w0 H0 ν' oF' w' κ))->∀x∈new,∃b c n k,ν' x.1=some (b,c,n)/\dR w' b k/\x.2.R ν' (HF X w0 H0 ν' oF' w') c n k):
 de X w0 H0 ν' oF' w'/\∀κ,Le (HF X w0 H0 ν oF w κ) (HF X w0 H0 ν' oF' w' κ):=by
 have keepO:∀k,k<w.heap.size->some k∉O->w'.heap[k]?=w.heap[k]?:=hL.keep;have fg:∀i ob,oF i=some ob->i∉T->∀b,gA ν i ob b->some b∉O:=by
  intro i ob h1 h2 b h3 h4;obtain⟨j,hj,oj,g1,g2⟩:=hO b h4;have:=hS.iq i j ob oj b h1 g1 h3 g2;subst this;exact h2 hj
 have blk':∀i ob,oF i=some ob->dP ν' i=dP ν i:=by
  intro i ob h1;obtain⟨b,c,n,k,g1,_⟩:=hS.dD i ob h1;rw[eV g1,eV (hν _ _ g1)]
 have tdn':∀i ob,oF i=some ob->iL ν' i ob=iL ν i ob:=by
  intro i ob h1;unfold iL;rw[blk' i ob h1]
 have owb':∀i ob b,oF i=some ob->i∉T->(gA ν' i ob b↔gA ν i ob b):=by
  intro i ob b h1 h2;unfold gA;rw[blk' i ob h1,tdn' i ob h1];constructor
  . rintro(h|⟨t,g1,g2⟩)
    . exact .inl h
    . exact .inr ⟨t,g1,by rw[<-(hT i ob t h1 h2 g1).1];exact g2⟩
  . rintro(h|⟨t,g1,g2⟩)
    . exact .inl h
    . exact .inr ⟨t,g1,by rw[(hT i ob t h1 h2 g1).1];exact g2⟩
 have newb:∀x∈new,∀b,gA ν' x.1 x.2 b->some b∈O\/w.heap.size<=b:=λx hx b hb=>hL.fresh b (hO' x hx b hb);have ow:∀b,Ow ν' oF' b->Ow ν oF b\/w.heap.size<=b:=by
  rintro b ⟨i,ob,h1,h2⟩;rcases hF i ob h1 with⟨g1,g2⟩|g
  . exact .inl ⟨i,ob,g1,(owb' i ob b g1 g2).1 h2⟩
  . rcases newb _ g b h2 with g3|g3
    . obtain⟨j,_,oj,q1,q2⟩:=hO b g3;exact .inl ⟨j,oj,q1,q2⟩
    . exact .inr g3
 have ltO:∀i ob b,oF i=some ob->gA ν i ob b->b<w.heap.size:=by
  rintro i ob b h1 (h2|⟨t,h2,h3⟩)
  . obtain⟨b',c,n,k,q1,q2,_⟩:=hS.dD i ob h1;rw[eV q1]at h2;subst h2;exact q2.lt
  . exact Bg ((hS.parts i ob h1).1 t h2).1 h3
 have le:∀κ,Le (HF X w0 H0 ν oF w κ) (HF X w0 H0 ν' oF' w' κ):=by
  intro κ b o h;rcases tM h with⟨h1,h1',h2⟩|⟨h1,h2,h3⟩
  . rw[pf h1 h1'];exact h2
  . have hlt:=ld (nR h3);refine mq h1 (λhw=>?_) ?_
    . rcases ow b hw with g|g
      . exact h2 g
      . omega
    . rw[keepO b hlt (λhb=>by obtain⟨j,_,oj,q1,q2⟩:=hO b hb;exact h2 ⟨j,oj,q1,q2⟩)];exact h3
 refine⟨?_,le⟩;have hobs:=hR le;refine⟨hL.os.trans hS.os,hL.tape.trans hS.tape,hL.output.trans hS.output,bV hS.size hL.size,λk hk hx=>?_,hS.h0,hS.oy,hS.qG,λi ob h=>?_,λi ob b h hb=>?_,λi j oi oj b hi hj hbi hbj=>?_,λi ob h=>?_⟩
 . rw[keepO k (DL hk hS.size) (λhb=>?_)]
   . exact hS.keep k hk hx
   . obtain⟨j,_,oj,q1,q2⟩:=hO k hb;rcases hS.fresh j oj k q1 q2 with g|g
     . exact hx g
     . omega
 . rcases hF i ob h with⟨g1,g2⟩|g
   . obtain⟨b,c,n,k,q1,q2,q3⟩:=hS.dD i ob g1;refine⟨b,c,n,k,hν _ _ q1,?_,q3.mono hν le λj b' c' n' hj hb=>?_⟩
     . cases b with
       |none=>cases k<;>exact q2
       |some b=>exact q2.same λk' hk'=>by cases hk';exact keepO b q2.lt (fg i ob g1 g2 b (.inl (eV q1)))
     . have e:=(hS.parts i ob g1).2.2 j hj;subst e;exact hT j ob b' g1 g2 (Ue hj (eV hb))
   . exact hobs _ g
 . rcases hF i ob h with⟨g1,g2⟩|g
   . exact hS.fresh i ob b g1 ((owb' i ob b g1 g2).1 hb)
   . rcases newb _ g b hb with g3|g3
     . obtain⟨j,_,oj,q1,q2⟩:=hO b g3;exact hS.fresh j oj b q1 q2
     . exact .inr (bV hS.size g3)
 . have mix:∀i j oi oj,oF i=some oi->i∉T->(j,oj)∈new->gA ν' i oi b->gA ν' j oj b->False:=by
    intro i j oi oj h1 h2 h3 h4 h5;have h4:=(owb' i oi b h1 h2).1 h4;rcases newb _ h3 b h5 with g|g
    . exact fg i oi h1 h2 b h4 g
    . have:=ltO i oi b h1 h4;omega
   rcases hF i oi hi with⟨g1,g2⟩|g<;>rcases hF j oj hj with⟨g1',g2'⟩|g'
   . exact hS.iq i j oi oj b g1 g1' ((owb' i oi b g1 g2).1 hbi) ((owb' j oj b g1' g2').1 hbj)
   . exact(mix i j oi oj g1 g2 g' hbi hbj).elim
   . exact(mix j i oj oi g1' g2' g hbj hbi).elim
   . exact hD _ g _ g' b hbi hbj
 . rcases hF i ob h with⟨g1,g2⟩|g
   . obtain⟨p1,p2,p3⟩:=hS.parts i ob g1;refine⟨λt ht=>?_,λb t hb ht=>?_,p3⟩
     . rw[tdn' i ob g1]at ht;obtain⟨e1,e2⟩:=hT i ob t g1 g2 ht;obtain⟨q1,q2⟩:=p1 t ht;rw[e1,e2];exact⟨Ew q1 λb hb=>keepO b (Bg q1 hb) (fg i ob g1 g2 b (.inr ⟨t,ht,hb⟩)),q2⟩
     . rw[tdn' i ob g1]at ht;rw[(hT i ob t g1 g2 ht).1];exact p2 b t (by rw[<-blk' i ob g1];exact hb) ht
   . exact hP _ g
theorem de.go(hS:de X w0 H0 ν oF w){T:List Nat}{O O':List (Option Nat)}{C':List dE}{new:List (Nat×Ob)}(hO:∀b,some b∈O->∃i∈T,∃ob,oF i=some ob/\dP ν i=some b)
 (hL:Go.X.Loc O [] w w' O' C')(hν:fu ν ν')(hO':Os ν' new=O')(hnd:(new.map (·.1)).Nodup)(hF:∀i ob,oF' i=some ob->(oF i=some ob/\i∉T)\/(i,ob)∈new)
 (hR:(∀κ,Le (HF X w0 H0 ν oF w κ) (HF X w0 H0 ν' oF' w' κ))->∀x∈new,∃b c n k,ν' x.1=some (b,c,n)/\dR w' b k/\x.2.R ν' (HF X w0 H0 ν' oF' w') c n k)(hN:∀x∈new,x.2.tid=none)(hT:ν'.tl=ν.tl/\ν'.tc=ν.tc):
 de X w0 H0 ν' oF' w'/\∀κ,Le (HF X w0 H0 ν oF w κ) (HF X w0 H0 ν' oF' w' κ):=
 hS.goT (T:=T) (new:=new) (λb hb=>by obtain⟨i,h1,ob,h2,h3⟩:=hO b hb;exact⟨i,h1,ob,h2,.inl h3⟩) hL hν
  (λx hx b hb=>by rw[<-hO'];exact eh.2 ⟨x,hx,(rF (hN x hx)).1 hb⟩)
  (λx hx y hy b hb hb'=>Lw (by rw[hO'];exact hL.iq) hnd x hx y hy b ((rF (hN x hx)).1 hb) ((rF (hN y hy)).1 hb'))
  hF (λ_ _ t _ _ _=>by rw[hT.1,hT.2];exact⟨rfl,rfl⟩) (λx hx=>And.intro (λt ht=>bX ht (by rw[vX (hN x hx)];simp)) (And.intro (λb t _ ht=>bX ht (by rw[vX (hN x hx)];simp)) (λj hj=>bX hj (by rw[hN x hx];simp)))) hR
theorem de.same(hS:de X w0 H0 ν oF w)(h1:w'.os=w.os)(h2:w'.tape=w.tape)(h3:w'.output=w.output)(h4:w'.heap=w.heap):de X w0 H0 ν oF w'/\HF X w0 H0 ν oF w'=HF X w0 H0 ν oF w:=by
 have e:HF X w0 H0 ν oF w'=HF X w0 H0 ν oF w:=by funext κ b;unfold HF;rw[h4]
 refine⟨⟨h1.trans hS.os,h2.trans hS.tape,h3.trans hS.output,by rw[h4];exact hS.size,λk hk hx=>by rw[h4];exact hS.keep k hk hx,hS.h0,hS.oy,hS.qG,λi ob h=>?_,hS.fresh,hS.iq,λi ob h=>⟨λt ht=>⟨Ew ((hS.parts i ob h).1 t ht).1 λb _=>by rw[h4],((hS.parts i ob h).1 t ht).2⟩,(hS.parts i ob h).2⟩⟩,e⟩;obtain⟨b,c,n,k,q1,q2,q3⟩:=hS.dD i ob h;exact⟨b,c,n,k,q1,q2.same λk _=>by rw[h4],by rw[e];exact q3⟩
end
open Go Go.RowKit Go.X
variable [fy]
structure dZ (P:Program)where
 t:TypeId
 d:TypeDesc
 sz:Nat
 qZ:Nat
 z:Value
 hd:P.underlying t=some d
 ti:TI P t sz qZ z
def cZ{P:Program}:List (dZ P)->Nat->Option (dZ P)
 |[],_=>none
 |x::r,t=>bif Nat.beq x.t t then some x else cZ r t
theorem BX{P:Program}:∀{l:List (dZ P)} {t:Nat} {x:dZ P},cZ l t=some x->x.t=t
 |[],_,_,h=>by cases h
 |y::r,t,x,h=>by
  unfold cZ at h;cases hb:Nat.beq y.t t with
  |true=>rw[hb]at h;simp only[cond_true]at h;cases h;exact ee hb
  |false=>rw[hb]at h;simp only[cond_false]at h;exact BX h
def cr(L:SS):Operand->Option Sv
 |.tmp t=>aW L.cv t
 |.const (.agg cs)=>match fK cs.toList with
  |true=>some (.s (.agg (cs.toList.map .v)))
  |false=>none
 |.const c=>match one c with
  |true=>some (.s (.lf (.v c)))
  |false=>none
 |.func f=>some (.s (.lf (.v (.func (.func f) #[] #[]))))
 |.global _=>none
theorem se{ν:Nu}{H:Bool->Hp}:∀{l:List Value},X.fK l=true->dz ν H (l.map .v) l
 |[],_=>rfl
 |a::l,h=>by
  simp only[X.fK,gz]at h;exact⟨a,l,rfl,⟨rfl,h.1⟩,se h.2⟩
theorem dH{ν:Nu}{H:Bool->Hp}{L:SS}{e:Env}(hs:dO ν H (aW L.cv) e){x:Operand}{sv:Sv}(h:cr L x=some sv):sv.R ν H (ev e x):=by
 cases x with
 |tmp t=>exact hs t sv h
 |const c=>
  cases c with
  |agg cs=>
   simp only[cr]at h;split at h
   . cases h;exact⟨cs.toList,by simp[ev],se (by assumption)⟩
   . cases h
  |_=>
   simp only[cr]at h;split at h
   . cases h;exact⟨rfl,by assumption⟩
   . cases h
 |global g=>cases h
 |func f=>cases h;exact⟨rfl,rfl⟩
def lv:Option Sv->Option Value
 |some (.s (.lf (.v x)))=>some x
 |_=>none
theorem fe{ν:Nu}{H:Bool->Hp}{L:SS}{e:Env}(hs:dO ν H (aW L.cv) e){x:Operand}{v:Value}(h:lv (cr L x)=some v):ev e x=v/\one v=true:=by
 unfold lv at h;split at h
 . rename_i y hy;cases h;exact dH hs hy
 . cases h
def eX(v:Value):Option Sv:=some (.s (.lf (.v v)))
def kb:IntKind->IntKind->Bool
 |.i8,.i8|.i16,.i16|.i32,.i32|.i64,.i64|.u8,.u8|.u16,.u16|.u32,.u32|.u64,.u64=>true
 |_,_=>false
theorem kb_ok{a b:IntKind}(h:kb a b=true):a=b:=by cases a<;>cases b<;>first|rfl|cases h
def bop{P:Program}(tb:List (dZ P))(t:TypeId)(op:BinOp):Value->Value->Option Value
 |.int k x,.int k' y=>match kb k k' with
  |false=>none
  |true=>match op with
   |.add=>some (.int k (k.wrap (x+y)))
   |.sub=>some (.int k (k.wrap (x-y)))
   |.mul=>some (.int k (k.wrap (x*y)))
   |.and=>some (.int k (rm k x y))
   |.or=>some (.int k (ko k x y))
   |.xor=>some (.int k (Bp k x y))
   |.andNot=>some (.int k (HG k x y))
   |.lss=>some (.bool (decide (x<y)))
   |.leq=>some (.bool (decide (x<=y)))
   |.gtr=>some (.bool (decide (x>y)))
   |.geq=>some (.bool (decide (x≥y)))
   |.eql=>some (.bool (decide (x=y)))
   |.neq=>some (.bool (decide (x≠y)))
   |_=>none
 |.bool x,.bool y=>match cZ tb t with
  |some T=>match T.d with
   |.bool=>match op with
    |.eql=>some (.bool (x==y))
    |.neq=>some (.bool (!(x==y)))
    |_=>none
   |_=>none
  |none=>none
 |.string ⟨⟨x⟩⟩,.string ⟨⟨y⟩⟩=>match op with
  |.eql=>some (.bool (decide (x=y)))
  |.neq=>some (.bool (decide (x≠y)))
  |_=>none
 |_,_=>none
section
variable {P:Program} {tb:List (dZ P)} {ty:TypeId} {ρ:Operand->Value} {w:World} {R:Value->World->Prop}
theorem Xi{t u:TypeId}{op:BinOp}{x y:Operand}{a b v:Value}(h:bop tb t op a b=some v)(hx:ρ x=a)(hy:ρ y=b)(hr:one v=true->R v w):aF P (.binOp op t x y u) ty ρ w R:=by
 unfold bop at h;split at h
 . split at h
   . cases h
   . rename_i k x' k' y' hk;obtain rfl:=kb_ok hk;split at h<;>first|cases h|skip
     . exact aF.add hx hy rfl (hr rfl)
     . exact aF.sub hx hy rfl (hr rfl)
     . exact aF.mul hx hy rfl (hr rfl)
     . exact aF.iand hx hy (hr rfl)
     . exact aF.ior hx hy (hr rfl)
     . exact aF.ixor hx hy (hr rfl)
     . exact aF.Qx hx hy (hr rfl)
     . exact aF.lss _ hx hy oG (hr rfl)
     . exact aF.leq _ hx hy oG (hr rfl)
     . exact aF.gtr _ hx hy oG (hr rfl)
     . exact aF.geq _ hx hy oG (hr rfl)
     . exact aF.eql _ hx hy oG (hr rfl)
     . exact aF.neq _ hx hy oG (hr rfl)
 . split at h
   . split at h
     . rename_i T hT _ hd;have h1:P.underlying t=some .bool:=by rw[<-BX hT,T.hd,hd]
       split at h<;>first|cases h|skip
       . exact aF.UG h1 hx hy (hr rfl)
       . exact aF.Uk h1 hx hy (hr rfl)
     . cases h
   . cases h
 . split at h<;>first|cases h|skip
   . exact aF.sEql hx hy (hr rfl)
   . exact aF.sNeq hx hy (hr rfl)
 . cases h
def uop(op:UnOp):Value->Option Value
 |.bool x=>match op with
  |.not=>some (.bool (!x))
  |_=>none
 |.int k x=>match op with
  |.neg=>some (.int k (k.wrap (0-x)))
  |.xor=>some (.int k (bnot k x))
  |_=>none
 |_=>none
theorem Wh{t:TypeId}{op:UnOp}{x:Operand}{a v:Value}(h:uop op a=some v)(hx:ρ x=a)(hr:one v=true->R v w):aF P (.unOp op t x) ty ρ w R:=by
 unfold uop at h;split at h
 . split at h
   . cases h;exact aF.not hx (hr rfl)
   . cases h
 . split at h
   . cases h;exact aF.neg hx rfl (hr rfl)
   . cases h;exact aF.inot hx (hr rfl)
   . cases h
 . cases h
end
def l9:S1->List Lf
 |.lf l=>[l]
 |.agg l=>l
theorem uo{ν:Nu}{H:Bool->Hp}:∀{s:S1} {v:Value},s.R ν H v->∃vs,v.cells=vs.toArray/\dz ν H (l9 s) vs
 |.lf l,v,h=>⟨[v],TU (Lf.R.one h),v,[],rfl,h,rfl⟩
 |.agg l,v,⟨vs,h1,h2⟩=>⟨vs,by rw[h1];rfl,h2⟩
def tC(g:Bool)(sz:Nat)(l:List Lf)(off:Nat):Option S1:=match g with
 |true=>match Nat.beq ((l.drop off).take sz).length sz with
  |true=>some (.agg ((l.drop off).take sz))
  |false=>none
 |false=>match l[off]?with
  |some x=>some (.lf x)
  |none=>none
structure Ef:Type 1 where
 n:Nat
 up:List (Nat×Option Ob)
 sl:List (Nat×Option Sv)
abbrev Ef.z:Ef:=⟨0,[],[]⟩
abbrev newB(L:SS)(l:List Lf):Ef×Option Sv:=(⟨1,[(L.nx,some (.box l))],[]⟩,some (.s (.lf (.ptr L.nx 0))))
def pls{P:Program}(tb:List (dZ P)):List Field->Option (List (Nat×Nat))
 |[]=>some []
 |f::r=>match cZ tb f.type with
  |some F=>match pls tb r with
   |some y=>some ((f.offset,F.sz)::y)
   |none=>none
  |none=>none
def CC(L:SS)(pl:List (Nat×Nat)):List (Nat×Operand)->List Lf->Option (List Lf)
 |[],l=>some l
 |(i,x)::r,l=>match cr L x with
  |some (.s s)=>match pl[i]?with
   |some (off,size)=>match Nat.beq (l9 s).length size&&Nat.ble (off+(l9 s).length) l.length with
    |true=>CC L pl r (wI l off (l9 s))
    |false=>none
   |none=>none
  |_=>none
def arC(L:SS)(sz:Nat):List (Nat×Operand)->Option (List Lf)
 |[]=>some []
 |(_,x)::r=>match cr L x with
  |some (.s s)=>match Nat.beq (l9 s).length sz with
   |true=>match arC L sz r with
    |some y=>some (l9 s++y)
    |none=>none
   |false=>none
  |_=>none
def CA:Nat->List (Nat×Operand)->Bool
 |_,[]=>true
 |i,(j,_)::r=>Nat.beq j i&&CA (i+1) r
def au{P:Program}(tb:List (dZ P))(L:SS):Op->Option (Ef×Option Sv)
 |.move x=>match cr L x with
  |some s=>some (Ef.z,some s)
  |none=>none
 |.assign x=>match cr L x with
  |some s=>some (Ef.z,some s)
  |none=>none
 |.pick c a b=>match lv (cr L c)with
  |some (.bool true)=>match cr L a with
   |some s=>some (Ef.z,some s)
   |none=>none
  |some (.bool false)=>match cr L b with
   |some s=>some (Ef.z,some s)
   |none=>none
  |_=>none
 |.binOp op t x y _=>match lv (cr L x)with
  |some a=>match lv (cr L y)with
   |some b=>match bop tb t op a b with
    |some v=>some (Ef.z,eX v)
    |none=>none
   |none=>none
  |none=>none
 |.unOp op _ x=>match lv (cr L x)with
  |some a=>match uop op a with
   |some v=>some (Ef.z,eX v)
   |none=>none
  |none=>none
 |.extract x i=>match cr L x with
  |some (.fX l)=>match l[i]?with
   |some s=>some (Ef.z,some (.s s))
   |none=>none
  |_=>none
 |.fieldAddr s x i=>match cZ tb s with
  |some T=>match T.d with
   |.struct fs=>match fs[i]?with
    |some f=>match cZ tb f.type with
     |some F=>match Nat.beq F.sz 0 with
      |true=>none
      |false=>match cr L x with
       |some (.s (.lf (.ptr j off)))=>some (Ef.z,some (.s (.lf (.ptr j (off+f.offset)))))
       |some (.pr κ c off)=>some (Ef.z,some (.pr κ c (off+f.offset)))
       |some (.pw j r xs a ix off)=>some (Ef.z,some (.pw j r xs a ix (off+f.offset)))
       |some (.pa j r κ xs a ix off)=>some (Ef.z,some (.pa j r κ xs a ix (off+f.offset)))
       |_=>none
     |none=>none
    |none=>none
   |_=>none
  |none=>none
 |.indexAddr t x y=>match cZ tb t with
  |some T=>match T.d with
   |.array n el=>match cZ tb el with
    |some E=>match lv (cr L y)with
     |some (.int _ (.ofNat i))=>match Nat.blt i n with
      |true=>match cr L x with
       |some (.s (.lf (.ptr j off)))=>some (Ef.z,some (.s (.lf (.ptr j (off+i*E.sz)))))
       |some (.pr κ c off)=>some (Ef.z,some (.pr κ c (off+i*E.sz)))
       |some (.pw j r xs a ix off)=>some (Ef.z,some (.pw j r xs a ix (off+i*E.sz)))
       |_=>none
      |false=>none
     |_=>none
    |none=>none
   |_=>none
  |none=>none
 |.build t parts=>match cZ tb t with
  |some T=>match T.d with
   |.struct fs=>match pls tb fs.toList with
    |some pl=>match fK T.z.cells.toList with
     |true=>match CC L pl parts.toList (T.z.cells.toList.map .v)with
      |some l=>some (Ef.z,some (.s (.agg l)))
      |none=>none
     |false=>none
    |none=>none
   |.array n el=>match cZ tb el with
    |some E=>match Nat.beq T.z.cells.size (n*E.sz)with
     |true=>match parts.toList with
      |[]=>match fK T.z.cells.toList with
       |true=>some (Ef.z,some (.s (.agg (T.z.cells.toList.map .v))))
       |false=>none
      |p::ps=>match CA 0 (p::ps)&&Nat.beq (ps.length+1) n with
       |true=>match arC L E.sz (p::ps)with
        |some l=>some (Ef.z,some (.s (.agg l)))
        |none=>none
       |false=>none
     |false=>none
    |none=>none
   |_=>none
  |none=>none
 |.nilCheck x=>match cr L x with
  |some (.s (.lf (.ptr j off)))=>some (Ef.z,some (.s (.lf (.ptr j off))))
  |some (.pr κ c off)=>some (Ef.z,some (.pr κ c off))
  |_=>none
 |.field t x i=>match cZ tb t with
  |some T=>match T.d with
   |.struct fs=>match fs[i]?with
    |some f=>match cZ tb f.type with
     |some F=>match cr L x with
      |some (.s (.agg l))=>match tC (js F.d) F.sz l f.offset with
       |some s=>some (Ef.z,some (.s s))
       |none=>none
      |_=>none
     |none=>none
    |none=>none
   |_=>none
  |none=>none
 |.load t x=>match cZ tb t with
  |some T=>match cr L x with
   |some (.s (.lf (.ptr j off)))=>match aW L.bL j with
    |some (.box l)=>match tC (js T.d) T.sz l off with
     |some s=>some (Ef.z,some (.s s))
     |none=>none
    |_=>none
   |some (.pr κ c off)=>match tC (js T.d) T.sz c off with
    |some s=>some (Ef.z,some (.s s))
    |none=>none
   |_=>none
  |none=>none
 |.store t x y=>match cZ tb t with
  |some T=>match cr L x with
   |some (.s (.lf (.ptr j off)))=>match cr L y with
    |some (.s s)=>match aW L.bL j with
     |some (.box l)=>match Nat.beq (l9 s).length T.sz&&Nat.ble (off+(l9 s).length) l.length with
      |true=>some (⟨0,[(j,some (.box (wI l off (l9 s))))],[]⟩,none)
      |false=>none
     |_=>none
    |_=>none
   |_=>none
  |none=>none
 |.alloc t=>match cZ tb t with
  |some T=>match fK T.z.cells.toList with
   |true=>some (newB L (T.z.cells.toList.map .v))
   |false=>none
  |none=>none
 |.box _ x=>match cr L x with
  |some (.s s)=>some (newB L (l9 s))
  |_=>none
 |.convert s t x=>match cZ tb s with
  |some S=>match cZ tb t with
   |some T=>match T.d with
    |.int k'=>match lv (cr L x)with
     |some (.int _ z)=>some (Ef.z,eX (.int k' (k'.wrap z)))
     |_=>none
    |_=>none
   |none=>none
  |none=>none
 |.call c=>match c.callee with
  |.builtin .len=>match c.args.toList with
   |[x]=>match c.argTypes.toList with
    |[t]=>match cZ tb t with
     |some T=>match T.d with
      |.slice _=>match cr L x with
       |some (.s (.lf (.ro _ _ xs)))=>some (Ef.z,eX (.int .i64 (xs.length:Int)))
       |some (.s (.lf (.ap _ _ _ xs)))=>some (Ef.z,eX (.int .i64 (xs.length:Int)))
       |some (.s (.lf (.cp _ _ xs)))=>some (Ef.z,eX (.int .i64 (xs.length:Int)))
       |some (.s (.lf (.own i)))=>match aW L.bL i with
        |some (.row _ _ xs)=>some (Ef.z,eX (.int .i64 (xs.length:Int)))
        |_=>none
       |some (.s (.lf (.v (.slice none 0 0))))=>some (Ef.z,eX (.int .i64 0))
       |some (.s (.lf (.sg _ _ lo hi)))=>some (Ef.z,eX (.int .i64 (hi-lo)))
       |_=>none
      |.string=>match lv (cr L x)with
       |some (.string ⟨⟨l⟩⟩)=>some (Ef.z,eX (.int .i64 (l.length:Int)))
       |_=>none
      |.map _ _=>match cr L x with
       |some (.s (.lf (.mp i)))=>match aW L.bL i with
        |some (.map _ _ _ m)=>some (Ef.z,eX (.int .i64 (m.length:Int)))
        |_=>none
       |_=>none
      |_=>none
     |none=>none
    |_=>none
   |_=>none
  |.builtin .min=>match c.args.toList with
   |[x,y]=>match lv (cr L x)with
    |some (.int k a)=>match lv (cr L y)with
     |some (.int _ b)=>some (Ef.z,eX (.int k (zX a b)))
     |_=>none
    |_=>none
   |_=>none
  |.builtin .max=>match c.args.toList with
   |[x,y]=>match lv (cr L x)with
    |some (.int k a)=>match lv (cr L y)with
     |some (.int _ b)=>some (Ef.z,eX (.int k (imax a b)))
     |_=>none
    |_=>none
   |_=>none
  |_=>none
 |_=>none
open Go Go.RowKit Go.X
variable [fy]
def jr(a n:Nat)(ν ν':Nu):Prop:=∀k,(k<a\/a+n<=k)->ν' k=ν k
structure LT (P:Program)(L:SS)(op:Op)(ty:TypeId)(ef:Ef)(sv:Option Sv):Prop where
 ok:∀(X:Nat->Prop) (w0:World) (H0:Bool->Hp) (ν:Nu) (oF:OF) (e:Env) (w:World),(∀i ob,aW L.bL i=some ob->oF i=some ob)->(∀k,L.nx<=k->k<L.nx+ef.n->ν k=none)->de X w0 H0 ν oF w->dO ν (HF X w0 H0 ν oF w) (aW L.cv) e->
  aF P op ty (ev e) w λv w'=>∃ν',jr L.nx ef.n ν ν'/\de X w0 H0 ν' (bS ef.up oF) w'/\(∀κ,Le (HF X w0 H0 ν oF w κ) (HF X w0 H0 ν' (bS ef.up oF) w' κ))/\dO ν' (HF X w0 H0 ν' (bS ef.up oF) w') (aW ef.sl) e/\svR ν' (HF X w0 H0 ν' (bS ef.up oF) w') sv v
def jE(ν:Nu)(i:Nat)(x:Option Nat×Nat×Nat):Nu:=⟨λk=>bif Nat.beq k i then some x else ν k,ν.tl,ν.tc⟩
theorem ng{ν:Nu}{i:Nat}{x:Option Nat×Nat×Nat}:jE ν i x i=some x:=by simp[jE]
theorem Dp{ν:Nu}{i k:Nat}{x:Option Nat×Nat×Nat}(h:k≠i):jE ν i x k=ν k:=by
 show(bif Nat.beq k i then some x else ν.f k)=ν.f k;have:Nat.beq k i=false:=by
  cases hb:Nat.beq k i with
  |false=>rfl
  |true=>exact bX (ee hb) h
 rw[this];rfl
theorem Ds{ν:Nu}{i:Nat}{x:Option Nat×Nat×Nat}(h:ν i=none):fu ν (jE ν i x):=λk y hk=>by
 have:k≠i:=by rintro rfl;rw[h]at hk;cases hk
 rw[Dp this];exact hk
theorem ri{ν:Nu}{i:Nat}{x:Option Nat×Nat×Nat}:jr i 1 ν (jE ν i x):=λk hk=>Dp (by omega)
theorem jr.refl{a n:Nat}{ν:Nu}:jr a n ν ν:=λ_ _=>rfl
theorem jr.le{a n:Nat}{ν ν':Nu}(h:jr a n ν ν')(hn:∀k,a<=k->k<a+n->ν k=none):fu ν ν':=λk x hk=>by
 rcases cG k a with h1|h1
 . rw[h k (.inl h1)];exact hk
 . rcases cG k (a+n)with h2|h2
   . rw[hn k h1 h2]at hk;cases hk
   . rw[h k (.inr h2)];exact hk
section
variable {X:Nat->Prop} {w0 w w':World} {H0:Bool->Hp} {ν:Nu} {oF:OF} {b b':Option Nat} {c n c' n' j nx:Nat} {k k':dE} {ob ob0:Ob}
theorem jT(h:dR w b k):Go.X.Loc [b] [] w w [b] [k]:=Loc.begin ⟨h,trivial⟩ (by cases b with|none=>exact trivial|some b=>exact⟨by simp,trivial⟩)
theorem oY:Go.X.Loc [] [] w w [] []:=Loc.Wf w
theorem de.new(hS:de X w0 H0 ν oF w)(htid:ob.tid=none)(hn:ν nx=none)(hL:Go.X.Loc [] [] w w' [b] [k])(hR:∀H',(∀κ,Le (HF X w0 H0 ν oF w κ) (H' κ))->ob.R (jE ν nx (b,c,n)) H' c n k):
 de X w0 H0 (jE ν nx (b,c,n)) (bS [(nx,some ob)] oF) w'/\∀κ,Le (HF X w0 H0 ν oF w κ) (HF X w0 H0 (jE ν nx (b,c,n)) (bS [(nx,some ob)] oF) w' κ):=
 hS.go (T:=[]) (O:=[]) (new:=[(nx,ob)]) (λb hb=>by cases hb) hL (Ds hn) (by show[dP _ nx]=[b];rw[eV ng]) (by simp)
  (λi o h=>by
   rcases kd h with h|⟨h,_⟩
   . simp only[df,oE,uT]at h;obtain⟨rfl,rfl⟩:=h;exact .inr (by simp)
   . exact .inl ⟨h,by simp⟩)
  (λhle x hx=>by simp only[df]at hx;subst hx;exact⟨b,c,n,k,ng,hL.own.1,hR _ hle⟩) (λx hx=>by simp only[df]at hx;subst hx;exact htid) ⟨rfl,rfl⟩
theorem de.mod(hS:de X w0 H0 ν oF w)(htid:ob.tid=none)(ho:oF j=some ob0)(hj:ν j=some (b,c,n))(hL:Go.X.Loc [b] [] w w' [b] [k])(hR:∀H',(∀κ,Le (HF X w0 H0 ν oF w κ) (H' κ))->ob.R ν H' c n k):
 de X w0 H0 ν (bS [(j,some ob)] oF) w'/\∀κ,Le (HF X w0 H0 ν oF w κ) (HF X w0 H0 ν (bS [(j,some ob)] oF) w' κ):=
 hS.go (T:=[j]) (O:=[b]) (new:=[(j,ob)]) (λb' hb=>by simp only[df]at hb;exact⟨j,by simp,ob0,ho,by rw[eV hj,hb]⟩) hL (fu.refl ν) (by show[dP ν j]=[b];rw[eV hj]) (by simp)
  (λi o h=>by
   rcases kd h with h|⟨h,h2⟩
   . simp only[df,oE,uT]at h;obtain⟨rfl,rfl⟩:=h;exact .inr (by simp)
   . refine .inl ⟨h,λhm=>?_⟩;simp only[df]at hm;subst hm;simp[cI]at h2)
  (λhle x hx=>by simp only[df]at hx;subst hx;exact⟨b,c,n,k,hj,hL.own.1,hR _ hle⟩) (λx hx=>by simp only[df]at hx;subst hx;exact htid) ⟨rfl,rfl⟩
theorem de.dG(hS:de X w0 H0 ν oF w)(htid:ob.tid=none)(ho:oF j=some ob0)(hj:ν j=some (b,c,n))(hn:ν nx=none)(hL:Go.X.Loc [b] [] w w' [b'] [k'])(hR:∀H',(∀κ,Le (HF X w0 H0 ν oF w κ) (H' κ))->ob.R (jE ν nx (b',c',n')) H' c' n' k'):
 de X w0 H0 (jE ν nx (b',c',n')) (bS [(nx,some ob),(j,none)] oF) w'/\∀κ,Le (HF X w0 H0 ν oF w κ) (HF X w0 H0 (jE ν nx (b',c',n')) (bS [(nx,some ob),(j,none)] oF) w' κ):=
 hS.go (T:=[j]) (O:=[b]) (new:=[(nx,ob)]) (λb' hb=>by simp only[df]at hb;exact⟨j,by simp,ob0,ho,by rw[eV hj,hb]⟩) hL (Ds hn) (by show[dP _ nx]=[b'];rw[eV ng]) (by simp)
  (λi o h=>by
   rcases kd h with h|⟨h,h2⟩
   . simp only[eJ,oE,uT,PO,or_false,reduceCtorEq,and_false]at h;obtain⟨rfl,rfl⟩:=h;exact .inr (by simp)
   . refine .inl ⟨h,λhm=>?_⟩;simp only[df]at hm;subst hm;simp[cI]at h2)
  (λhle x hx=>by simp only[df]at hx;subst hx;exact⟨b',c',n',k',ng,hL.own.1,hR _ hle⟩) (λx hx=>by simp only[df]at hx;subst hx;exact htid) ⟨rfl,rfl⟩
end
section
variable {P:Program} {L:SS} {op:Op} {ty:TypeId}
theorem n9{ν:Nu}{H:Bool->Hp}{e:Env}:dO ν H (aW []) e:=λt sv h=>by cases h
theorem LT.look{sv:Sv}(h:∀(ν:Nu) (H:Bool->Hp) (e:Env) (w:World),(∀κ,Le (H κ) (view [] w))->Le (H true) (H false)->(∀i ob,aW L.bL i=some ob->∃b c n k,ν i=some (b,c,n)/\dR w b k/\ob.R ν H c n k)->dO ν H (aW L.cv) e->aF P op ty (ev e) w λv w'=>w'=w/\sv.R ν H v):LT P L op ty .z (some sv):=
 ⟨λX w0 H0 ν oF e w ho _ hS hs=>(h ν _ e w hS.view hS.tf (λi ob hi=>hS.dD i ob (ho i ob hi)) hs).mono (by rintro v w' ⟨rfl,hv⟩;exact⟨ν,jr.refl,hS,λ_=>Le.refl _,n9,hv⟩)⟩
theorem LT.nw{sv:Sv}{ob:Ob}(h:∀(ν:Nu) (H:Bool->Hp) (e:Env) (w:World),(∀κ,Le (H κ) (view [] w))->Le (H true) (H false)->(∀i ob,aW L.bL i=some ob->∃b c n k,ν i=some (b,c,n)/\dR w b k/\ob.R ν H c n k)->dO ν H (aW L.cv) e->
 aF P op ty (ev e) w λv w'=>∃b c n k,Go.X.Loc [] [] w w' [b] [k]/\(∀ν' H',fu ν ν'->(∀κ,Le (H κ) (H' κ))->ob.R ν' H' c n k)/\∀ν' H',fu ν ν'->(∀κ,Le (H κ) (H' κ))->ν' L.nx=some (b,c,n)->sv.R ν' H' v)(htid:ob.tid=none:=by rfl):LT P L op ty ⟨1,[(L.nx,some ob)],[]⟩ (some sv):=
 ⟨λX w0 H0 ν oF e w ho hn hS hs=>(h ν _ e w hS.view hS.tf (λi ob hi=>hS.dD i ob (ho i ob hi)) hs).mono (by
  rintro v w' ⟨b,c,n,k,h1,h2,h3⟩;have hx:=hn L.nx (bQ _) (by show L.nx<L.nx+1;omega);have hle:=Ds (x:=(b,c,n)) hx;obtain⟨g1,g2⟩:=hS.new (ob:=ob) htid hx h1 (λH' hH=>h2 _ H' hle hH);exact⟨_,ri,g1,g2,n9,h3 _ _ hle g2 ng⟩)⟩
theorem LT.md{j:Nat}{ob0 ob:Ob}(ho:aW L.bL j=some ob0)(h:∀(ν:Nu) (H:Bool->Hp) (e:Env) (w:World) (b:Option Nat) (c n:Nat) (k0:dE),(∀κ,Le (H κ) (view [] w))->Le (H true) (H false)->(∀i ob,aW L.bL i=some ob->∃b c n k,ν i=some (b,c,n)/\dR w b k/\ob.R ν H c n k)->dO ν H (aW L.cv) e->ν j=some (b,c,n)->dR w b k0->ob0.R ν H c n k0->
 aF P op ty (ev e) w λv w'=>∃k,Go.X.Loc [b] [] w w' [b] [k]/\∀H',(∀κ,Le (H κ) (H' κ))->ob.R ν H' c n k)(htid:ob.tid=none:=by rfl):LT P L op ty ⟨0,[(j,some ob)],[]⟩ none:=
 ⟨λX w0 H0 ν oF e w hO hn hS hs=>by
  obtain⟨b,c,n,k0,q1,q2,q3⟩:=hS.dD j ob0 (hO j ob0 ho);refine(h ν _ e w b c n k0 hS.view hS.tf (λi ob hi=>hS.dD i ob (hO i ob hi)) hs q1 q2 q3).mono ?_;rintro v w' ⟨k,h1,h2⟩;obtain⟨g1,g2⟩:=hS.mod (ob:=ob) htid (hO j ob0 ho) q1 h1 (λH' hH=>h2 H' hH);exact⟨ν,jr.refl,g1,g2,n9,trivial⟩⟩
theorem LT.rp{sv:Sv}{j:Nat}{ob0 ob:Ob}(ho:aW L.bL j=some ob0)(h:∀(ν:Nu) (H:Bool->Hp) (e:Env) (w:World) (b:Option Nat) (c n:Nat) (k0:dE),(∀κ,Le (H κ) (view [] w))->Le (H true) (H false)->(∀i ob,aW L.bL i=some ob->∃b c n k,ν i=some (b,c,n)/\dR w b k/\ob.R ν H c n k)->dO ν H (aW L.cv) e->ν j=some (b,c,n)->dR w b k0->ob0.R ν H c n k0->
 aF P op ty (ev e) w λv w'=>∃b' c' n' k',Go.X.Loc [b] [] w w' [b'] [k']/\(∀ν' H',fu ν ν'->(∀κ,Le (H κ) (H' κ))->ob.R ν' H' c' n' k')/\∀ν' H',fu ν ν'->(∀κ,Le (H κ) (H' κ))->ν' L.nx=some (b',c',n')->sv.R ν' H' v)(htid:ob.tid=none:=by rfl):LT P L op ty ⟨1,[(L.nx,some ob),(j,none)],[]⟩ (some sv):=
 ⟨λX w0 H0 ν oF e w hO hn hS hs=>by
  obtain⟨b,c,n,k0,q1,q2,q3⟩:=hS.dD j ob0 (hO j ob0 ho);refine(h ν _ e w b c n k0 hS.view hS.tf (λi ob hi=>hS.dD i ob (hO i ob hi)) hs q1 q2 q3).mono ?_;rintro v w' ⟨b',c',n',k',h1,h2,h3⟩;have hx:=hn L.nx (bQ _) (by show L.nx<L.nx+1;omega);have hle:=Ds (x:=(b',c',n')) hx;obtain⟨g1,g2⟩:=hS.dG (ob:=ob) htid (hO j ob0 ho) q1 hx h1 (λH' hH=>h2 _ H' hle hH);exact⟨_,ri,g1,g2,n9,h3 _ _ hle g2 ng⟩⟩
end
end Go.Q

/- Plain theorems and definitions of this seat, several texts in one. -/
import Derived.StillTail
import Derived.Below
import Derived.WalkKit
import Derived.Laws.AppendOwn
import Derived.Laws.MakeOwn
import Derived.Laws.BytesArg
import Derived.Laws.IdiomStrings
import Derived.Laws.Tables
import Derived.Carry
import Derived.ChangeSame
import Derived.ChangeSlices
import Derived.OpenShut
import Derived.ProofKit
import Derived.Deep.DeepHandedRow
import Derived.Lib.LaidTab
import Derived.Lib.LaidU8
import Derived.Laws.StructEq
import Derived.Laws.BytesString
import Derived.Maps.Keyed
import Derived.ChangeKeysEq
namespace Go
abbrev ME:=@Array.getD_eq_getD_getElem?
abbrev UU:=@Array.getElem?_append_left
abbrev UX:=@Array.getElem?_append_right
abbrev F6:=@Array.getElem?_eq_getElem
abbrev BZ:=@Array.getElem?_eq_none
abbrev MF:=@Array.getElem?_modify
abbrev GJ:=@Array.size_replicate
abbrev tj:=@Array.toArray_toList
abbrev fI:=@Bool.and_eq_true
abbrev Nl:=@Bool.eq_iff_iff
abbrev ml:=@Bool.false_eq_true
abbrev Gn:=@Bool.not_eq_true'
abbrev Gf:=@Bool.or_eq_false_iff
abbrev vP:=@Bool.or_eq_true
abbrev jL:=@Classical.byContradiction
abbrev yA:=@Classical.choose_spec
abbrev tu:=@Classical.not_not
abbrev nq:=@Iff.rfl
abbrev Gj:=@Int.add_mul_emod_self_left
abbrev yG:=@Int.dvd_zero
abbrev Gx:=@Int.ediv_emod_unique
abbrev M6:=@Int.ediv_eq_zero_of_lt
abbrev Gt:=@Int.ediv_lt_of_lt_mul
abbrev Nd:=@Int.ediv_mul_cancel
abbrev yD:=@Int.ediv_nonneg
abbrev jO:=@Int.emod_add_mul_ediv
abbrev Cc:=@Int.emod_eq_of_lt
abbrev lP:=@Int.emod_lt_of_pos
abbrev lO:=@Int.emod_nonneg
abbrev qX:=@Int.eq_ofNat_of_zero_le
abbrev MQ:=@Int.eq_of_mul_eq_mul_left
abbrev jx:=@Int.fdiv_eq_ediv_of_nonneg
abbrev M8:=@Int.fdiv_zero
abbrev GA:=@Int.fmod_eq_emod_of_nonneg
abbrev ed:=@Int.le_of_lt
abbrev Ck:=@Int.le_of_mul_le_mul_left
abbrev nk:=@Int.le_refl
abbrev vW:=@Int.le_total
abbrev Gw:=@Int.lt_of_mul_lt_mul_left
abbrev M7:=@Int.lt_of_mul_lt_mul_right
abbrev qW:=@Int.lt_or_le
abbrev tw:=@Int.lt_or_lt_of_ne
abbrev tv:=@Int.lt_trichotomy
abbrev Nk:=@Int.max_eq_right
abbrev pP:=@Int.mul_add
abbrev Gv:=@Int.mul_assoc
abbrev fm:=@Int.mul_comm
abbrev Gz:=@Int.mul_fdiv_add_fmod
abbrev nr:=@Int.mul_le_mul
abbrev fZ:=@Int.mul_le_mul_of_nonneg_left
abbrev fp:=@Int.mul_le_mul_of_nonneg_right
abbrev M5:=@Int.mul_lt_mul_of_pos_right
abbrev ns:=@Int.mul_neg
abbrev eI:=@Int.mul_nonneg
abbrev yE:=@Int.mul_one
abbrev Ch:=@Int.mul_zero
abbrev vS:=@Int.natAbs_mul
abbrev Nc:=@Int.natAbs_natCast
abbrev Co:=@Int.natAbs_neg
abbrev Ge:=@Int.natCast_mul
abbrev Gu:=@Int.natCast_pow
abbrev Gy:=@Int.neg_fdiv_neg
abbrev lM:=@Int.neg_mul
abbrev Nf:=@Int.ofNat_dvd
abbrev MV:=@Int.ofNat_inj
abbrev jM:=@Int.pow_add
abbrev kv:=@Int.pow_pos
abbrev fl:=@Int.pow_succ
abbrev Gp:=@Int.sub_eq_add_neg
abbrev GH:=@Int.sub_zero
abbrev U1:=@Int.tdiv_eq_ediv_of_nonneg
abbrev MZ:=@Int.tmod_eq_emod_of_nonneg
abbrev mn:=@Int.toNat_natCast
abbrev Cg:=@Int.zero_add
abbrev yF:=@Int.zero_fdiv
abbrev GC:=@Int.zero_le_ofNat
abbrev U3:=@List.Nodup.length_le_of_subset
abbrev Ng:=@List.Pairwise.imp_of_mem
abbrev Cd:=@List.all_cons
abbrev tg:=@List.all_eq_true
abbrev MR:=@List.any_eq_false
abbrev je:=@List.append_assoc
abbrev F8:=@List.append_eq_nil_iff
abbrev lK:=@List.append_nil
abbrev vU:=@List.cons.inj
abbrev MS:=@List.cons.injEq
abbrev B4:=@List.cons_append
abbrev B8:=@List.drop_append_of_le_length
abbrev qT:=@List.drop_drop
abbrev fD:=@List.drop_eq_getElem_cons
abbrev Cf:=@List.drop_eq_nil_of_le
abbrev MW:=@List.drop_left
abbrev B6:=@List.drop_left'
abbrev Ci:=@List.drop_length
abbrev yw:=@List.drop_of_length_le
abbrev lL:=@List.drop_zero
abbrev B3:=@List.eq_nil_of_length_eq_zero
abbrev U2:=@List.exists_mem_of_ne_nil
abbrev pR:=@List.ext_getElem
abbrev pL:=@List.ext_getElem?
abbrev Cm:=@List.filter_append
abbrev yI:=@List.filter_cons_of_neg
abbrev Nj:=@List.filter_cons_of_pos
abbrev tx:=@List.flatMap_cons
abbrev MK:=@List.flatten_cons
abbrev M2:=@List.foldl_append
abbrev M4:=@List.foldl_nil
abbrev cA:=@List.getD_eq_getElem?_getD
abbrev jZ:=@List.getElem?_append_left
abbrev ou:=@List.getElem?_append_right
abbrev te:=@List.getElem?_drop
abbrev bV:=@List.getElem?_eq_getElem
abbrev fQ:=@List.getElem?_eq_none
abbrev dS:=@List.getElem?_eq_some_iff
abbrev gR:=@List.getElem?_map
abbrev Gd:=@List.getElem?_range
abbrev qS:=@List.getElem?_set
abbrev vO:=@List.getElem?_set_ne
abbrev yv:=@List.getElem?_set_self
abbrev vM:=@List.getElem?_take
abbrev vL:=@List.getElem?_toArray
abbrev M1:=@List.getElem_append_left
abbrev Gk:=@List.getElem_drop
abbrev ky:=@List.getElem_map
abbrev cX:=@List.getElem_mem
abbrev Cb:=@List.getElem_ofFn
abbrev nm:=@List.getElem_of_mem
abbrev Gq:=@List.getElem_set_ne
abbrev UZ:=@List.getLast?_cons_cons
abbrev Gl:=@List.getLast?_eq_getElem?
abbrev dd:=@List.length_append
abbrev cv:=@List.length_cons
abbrev vQ:=@List.length_drop
abbrev mo:=@List.length_eq_zero_iff
abbrev tp:=@List.length_filter_le
abbrev cD:=@List.length_map
abbrev dM:=@List.length_nil
abbrev qV:=@List.length_pos_iff
abbrev kQ:=@List.length_replicate
abbrev vT:=@List.length_reverse
abbrev iS:=@List.length_set
abbrev ku:=@List.length_singleton
abbrev eQ:=@List.length_take
abbrev MH:=@List.mapM_cons
abbrev MI:=@List.mapM_toArray
abbrev jg:=@List.map_append
abbrev Cj:=@List.map_congr_left
abbrev jN:=@List.map_cons
abbrev Ni:=@List.map_drop
abbrev mq:=@List.map_map
abbrev Ce:=@List.map_set
abbrev fR:=@List.mem_append
abbrev Ca:=@List.mem_append_left
abbrev vR:=@List.mem_append_right
abbrev eb:=@List.mem_cons
abbrev cJ:=@List.mem_cons_of_mem
abbrev cO:=@List.mem_cons_self
abbrev Ga:=@List.mem_filter
abbrev vX:=@List.mem_flatMap
abbrev Gh:=@List.mem_iff_getElem
abbrev dz:=@List.mem_map
abbrev ni:=@List.mem_of_getElem?
abbrev Gi:=@List.mem_of_mem_drop
abbrev MG:=@List.mem_of_mem_eraseIdx
abbrev tk:=@List.mem_of_mem_take
abbrev pM:=@List.mem_or_eq_of_mem_set
abbrev th:=@List.mem_range
abbrev yB:=@List.mem_replicate
abbrev Na:=@List.mem_reverse
abbrev cP:=@List.mem_singleton
abbrev GI:=@List.ne_nil_of_mem
abbrev jf:=@List.nil_append
abbrev MT:=@List.nodup_cons
abbrev MU:=@List.not_mem_nil
abbrev yH:=@List.pairwise_cons
abbrev Nh:=@List.pairwise_iff_getElem
abbrev GG:=@List.pairwise_map
abbrev yy:=@List.replicate_succ
abbrev Nb:=@List.reverse_append
abbrev UY:=@List.set_eq_take_append_cons_drop
abbrev MX:=@List.singleton_append
abbrev nj:=@List.take_append_drop
abbrev jh:=@List.take_append_getElem
abbrev qU:=@List.take_append_of_le_length
abbrev Gb:=@List.take_left'
abbrev tq:=@List.take_length
abbrev eU:=@List.take_of_length_le
abbrev yC:=@List.take_set_of_le
abbrev pQ:=@List.take_succ_eq_append_getElem
abbrev ML:=@List.take_take
abbrev M3:=@List.take_zero
abbrev MM:=@List.zip_cons_cons
abbrev pK:=@Nat.add_assoc
abbrev gL:=@Nat.add_mul
abbrev MO:=@Nat.add_sub_cancel
abbrev pO:=@Nat.add_zero
abbrev qR:=@Nat.beq_refl
abbrev MN:=@Nat.ble_eq_true_of_le
abbrev dI:=@Nat.eq_of_beq_eq_true
abbrev GF:=@Nat.eq_one_of_dvd_one
abbrev gz:=@Nat.eq_zero_or_pos
abbrev MP:=@Nat.exists_eq_add_of_le
abbrev kx:=@Nat.le_of_ble_eq_true
abbrev B7:=@Nat.le_of_lt
abbrev F7:=@Nat.le_of_mul_le_mul_right
abbrev Nn:=@Nat.le_of_succ_le
abbrev bK:=@Nat.le_refl
abbrev bO:=@Nat.le_trans
abbrev B9:=@Nat.lt_of_le_of_lt
abbrev B2:=@Nat.lt_of_lt_of_le
abbrev cw:=@Nat.lt_or_ge
abbrev MJ:=@Nat.lt_succ_self
abbrev M9:=@Nat.lt_trichotomy
abbrev j1:=@Nat.min_eq_left
abbrev yz:=@Nat.mod_eq_of_lt
abbrev iu:=@Nat.mul_le_mul
abbrev pN:=@Nat.mul_le_mul_right
abbrev MY:=@Nat.not_lt_zero
abbrev yx:=@Nat.one_mul
abbrev vN:=@Nat.sub_self
abbrev Gc:=@Nat.succ_mul
abbrev U0:=@Nat.testBit_one_eq_true_iff_self_eq_zero
abbrev Gm:=@Nat.testBit_or
abbrev eK:=@Nat.zero_add
abbrev fE:=@Nat.zero_le
abbrev B5:=@Nat.zero_mul
abbrev Gg:=@Option.bind_eq_some_iff
abbrev F5:=@Option.bind_some
abbrev BY:=@Option.getD_some
abbrev F9:=@Option.map_none
abbrev ov:=@Option.map_some
abbrev iR:=@Option.some.inj
abbrev tm:=@Option.some.injEq
abbrev np:=@Prod.mk.injEq
end Go
set_option linter.unusedVariables false
set_option linter.unusedSimpArgs false
set_option linter.unusedSectionVars false
namespace Go.X
open Go Go.RowKit
abbrev Env:=Nat->Value
def cK(e:Env)(d:Nat)(v:Value):Env:=fun i=>bif Nat.beq i d then v else e i
def jJ(e:Env):Option Nat->Value->Env
 |some d,v=>cK e d v
 |none,_=>e
def ev(e:Env):Operand->Value
 |.tmp t=>e t
 |.const v=>v
 |.global g=>.pointer (some ⟨g,0,none⟩)
 |.func f=>.func (.func f) #[] #[]
def cN(a:Act):Env:=fun i=>a.tmps.getD i undef
def kJ(l:List Value):Env:=fun i=>l.getD i undef
theorem Nz(e:Env)(d:Nat)(v:Value):cK e d v d=v:=by simp[cK]
theorem TX(e:Env){d i:Nat}(v:Value)(h:i≠d):cK e d v i=e i:=by
 unfold cK;have:Nat.beq i d=false:=by
  cases hb:Nat.beq i d
  . rfl
  . exact absurd (dI hb) h
 rw[this];rfl
theorem sU(a:Act):ev (cN a)=a.eval:=by
 funext x;cases x<;>rfl
theorem uf(a:Act){n:Nat}(hn:a.tmps.size=n){d:Nat}(hd:d<n)(v:Value):cN (a.put (some d) v)=cK (cN a) d v:=by
 funext i;by_cases h:i=d
 . subst h;rw[Nz];simp[cN,Act.put,hn,hd]
 . rw[TX _ _ h];simp[cN,Act.put,Array.getElem?_setIfInBounds_ne (Ne.symm h)]
theorem vG(a:Act){n:Nat}(hn:a.tmps.size=n){d:Option Nat}(hd:∀k,d=some k->k<n)(v:Value):cN (a.put d v)=jJ (cN a) d v:=by
 cases d with
 |none=>rfl
 |some d=>exact uf a hn (hd d rfl) v
theorem oH(a:Act)(d:Option Nat)(v:Value):(a.put d v).tmps.size=a.tmps.size:=by
 cases d<;>simp[Act.put]
theorem qP(a:Act)(d:Option Nat)(v:Value):(a.put d v).defers=a.defers:=by
 cases d<;>simp[Act.put]
def cZ(op:Op)(ty:TypeId):Oper:={dst:=none,op:=op,type:=ty,pos:= "",after:=#[],guard:=none}
def upon(P:Program)(R:Value->World->Prop):Result Next->Prop
  |.ok (.value v) w'=>R v w'
  |.ok .skip w'=>R undef w'
  |.ok (.enter f args) w'=>Calls P f args w' fun
      |.returned v,w''=>R v w''
      |_,_=>False
  |.ok (.row row args) w'=>Rows P row args w' R
  |_=>False
def aF(P:Program)(op:Op)(ty:TypeId)(ρ:Operand->Value)(w:World)(R:Value->World->Prop):Prop:= upon P R ((execOp ρ (cZ op ty)).run P w)
theorem E1(ρ:Operand->Value)(o:Oper):execOp ρ o=execOp ρ (cZ o.op o.type):=by
 obtain⟨dst,op,type,pos,after,guard⟩:=o;rfl
theorem N8{P:Program}{R R':Value->World->Prop}(h:∀v w,R v w->R' v w){r:Result Next}(hr:upon P R r):upon P R' r:=by
 cases r with
 |ok n w'=>
  cases n<;>simp only[upon]at hr⊢<;>first|exact h _ _ hr|exact Calls.mono hr (fun e w'' he=>by cases e<;>first|exact h _ _ he|exact he)|exact Rows.mono hr (fun _ _ he=>h _ _ he)
 |halt x w'=>cases x<;>simp only[upon]at hr
theorem aF.mono{P:Program}{op:Op}{ty:TypeId}{ρ:Operand->Value}{w:World}{R R':Value->World->Prop}(h:aF P op ty ρ w R)(hr:∀v w,R v w->R' v w):aF P op ty ρ w R':=
 N8 hr h
theorem G6{P:Program}{o:Oper}{a:Act}{w:World}{K:Act->World->Prop}{Q:Exit->Act->World->Prop}{R:Value->World->Prop}
 (h:aF P o.op o.type (ev (cN a)) w R)(hk:∀v w',R v w'->K (a.put o.dst v) w'):o.wp P a w K Q:=by
 unfold Oper.wp;unfold aF at h;rw[E1,<-sU];generalize(execOp (ev (cN a)) (cZ o.op o.type)).run P w=r at*;cases r with
 |ok n w'=>
  cases n<;>simp only[upon,Oper.upon]at h⊢<;>
   first
    |exact hk _ _ h
    |exact Calls.mono h (fun e w'' he=>by cases e<;>first|exact hk _ _ he|exact he.elim)
    |exact Rows.mono h (fun _ _ he=>hk _ _ he)
    |exact h.elim
 |halt x w'=>cases x<;>simp only[upon]at h
inductive It where
 |code (c:Code)
 |dt (id:Nat)
 |scp
 |back (J:Env->World->Prop)
def Cwp(P:Program)(n:Nat)(c:Code)(Q:Exit->Env->World->Prop)(e:Env)(w:World):Prop:= ∀a:Act,a.tmps.size=n->a.defers=[]->cN a=e->c.wp P (fun x a' w'=>a'.tmps.size=n/\a'.defers=[]/\Q x (cN a') w') a w
def jt(P:Program)(n:Nat):List It->(Env->World->Prop)->Exit->Env->World->Prop
 |[],Q,x=>fun e w=>(match x with|.normal|.ret=>Q e w|_=>False)
 |.code c::k,Q,x=>(match x with|.normal=>Cwp P n c (jt P n k Q)|x=>jt P n k Q x)
 |.dt id::k,Q,x=>(match x with|.exit j=>(if j=id then jt P n k Q .normal else jt P n k Q (.exit j))|x=>jt P n k Q x)
 |.scp::k,Q,x=>jt P n k Q x
 |.back J::k,Q,x=>(match x with|.normal=>J|x=>jt P n k Q x)
def cx(P:Program)(n:Nat)(k:List It)(Q:Env->World->Prop)(e:Env)(w:World):Prop:=jt P n k Q .normal e w
section
variable {P:Program} {n:Nat} {k:List It} {Q:Env->World->Prop} {e:Env} {w:World}
theorem cx.skip(h:cx P n k Q e w):cx P n (.code .skip::k) Q e w:=
 fun _ h1 h2 h3=>wp_skip ⟨h1,h2,h3▸h⟩
theorem cx.label{l:Nat}(h:cx P n k Q e w):cx P n (.code (.label l)::k) Q e w:=
 fun _ h1 h2 h3=>wp_label ⟨h1,h2,h3▸h⟩
theorem cx.seq{a b:Code}(h:cx P n (.code a::.code b::k) Q e w):cx P n (.code (.seq a b)::k) Q e w:=by
 intro ac h1 h2 h3;refine wp_seq (wp_mono (h ac h1 h2 h3) ?_);rintro x a' w' ⟨g1,g2,g3⟩;cases x with
 |normal=>exact g3 a' g1 g2 rfl
 |_=>exact⟨g1,g2,g3⟩
theorem cx.block{id:Nat}{c:Code}(h:cx P n (.code c::.dt id::k) Q e w):cx P n (.code (.block id c)::k) Q e w:=by
 intro ac h1 h2 h3;refine wp_block (wp_mono (h ac h1 h2 h3) ?_);rintro x a' w' ⟨g1,g2,g3⟩;cases x with
 |exit j=>
  simp only[Exit.inBlock];simp only[jt]at g3;by_cases hj:j=id
  . rw[if_pos hj]at g3⊢;exact⟨g1,g2,g3⟩
  . rw[if_neg hj]at g3⊢;exact⟨g1,g2,g3⟩
 |_=>exact⟨g1,g2,g3⟩
def rQ(id:Nat):List It->Option (List It)
 |.dt j::k=>if id=j then some k else rQ id k
 |_::k=>rQ id k
 |[]=>none
theorem RL{id:Nat}:∀{k k':List It},rQ id k=some k'->∀{e w},cx P n k' Q e w->jt P n k Q (.exit id) e w:=by
 intro k
 induction k with
 |nil=>intro k' h;simp[rQ]at h
 |cons x k ih=>
  intro k' h e w hs;cases x with
  |dt j=>
   simp only[rQ]at h;simp only[jt];by_cases hj:id=j
   . rw[if_pos hj]at h⊢;cases h;exact hs
   . rw[if_neg hj]at h⊢;exact ih h hs
  |code c=>exact ih h hs
  |scp=>exact ih h hs
  |back J=>exact ih h hs
theorem cx.exit{id:Nat}{k':List It}(hx:rQ id k=some k')(h:cx P n k' Q e w):cx P n (.code (.exit id)::k) Q e w:=
 fun _ h1 h2 h3=>wp_exit ⟨h1,h2,by subst h3;exact RL hx h⟩
theorem UD:∀{k:List It} {e w},Q e w->jt P n k Q .ret e w:=by
 intro k
 induction k with
 |nil=>intro e w h;exact h
 |cons x k ih=>intro e w h;cases x<;>exact ih h
theorem cx.ret(h:Q e w):cx P n (.code .ret::k) Q e w:=
 fun _ h1 h2 h3=>wp_ret ⟨h1,h2,by subst h3;exact UD h⟩
theorem cx.cond{c:Operand}{x y:Code}(b:Bool)(hc:ev e c=.bool b)(ht:b=true->cx P n (.code x::k) Q e w)(hf:b=false->cx P n (.code y::k) Q e w):
 cx P n (.code (.cond c x y)::k) Q e w:=by
 intro a h1 h2 h3;refine wp_cond_split (t:=b) (by rw[<-sU,h3];exact hc) (fun h=>ht h a h1 h2 h3) (fun h=>hf h a h1 h2 h3)
theorem cx.Tl{c:Operand}{x y:Code}(p:Prop)[Decidable p](hc:ev e c=.bool (decide p))(ht:p->cx P n (.code x::k) Q e w)(hf:¬p->cx P n (.code y::k) Q e w):
 cx P n (.code (.cond c x y)::k) Q e w:=
 cx.cond _ hc (fun h=>ht (of_decide_eq_true h)) (fun h=>hf (of_decide_eq_false h))
theorem cx.QF{c:Operand}{x y:Code}{b:Bool}(hc:ev e c=.bool b)(hb:b=true)(ht:cx P n (.code x::k) Q e w):cx P n (.code (.cond c x y)::k) Q e w:=
 cx.cond _ hc (fun _=>ht) (fun h=>by rw[hb]at h;cases h)
theorem cx.Ij{c:Operand}{x y:Code}{b:Bool}(hc:ev e c=.bool b)(hb:b=false)(hf:cx P n (.code y::k) Q e w):cx P n (.code (.cond c x y)::k) Q e w:=
 cx.cond _ hc (fun h=>by rw[hb]at h;cases h) (fun _=>hf)
theorem Pc{Q':Env->World->Prop}(hq:∀e w,Q e w->Q' e w):∀{k:List It} {x:Exit} {e w},jt P n k Q x e w->jt P n k Q' x e w:=by
 intro k
 induction k with
 |nil=>intro x e w h;cases x<;>first|exact hq _ _ h|exact h
 |cons y k ih=>
  intro x e w h;cases y with
  |code c=>
   cases x with
   |normal=>exact fun a h1 h2 h3=>wp_mono (h a h1 h2 h3) fun x a' w' g=>⟨g.1,g.2.1,ih g.2.2⟩
   |_=>exact ih h
  |dt j=>
   cases x with
   |exit i=>
    simp only[jt]at h⊢;by_cases hj:i=j
    . rw[if_pos hj]at h⊢;exact ih h
    . rw[if_neg hj]at h⊢;exact ih h
   |_=>exact ih h
  |scp=>exact ih h
  |back J=>cases x<;>first|exact h|exact ih h
theorem cx.mono{Q':Env->World->Prop}(h:cx P n k Q e w)(hq:∀e w,Q e w->Q' e w):cx P n k Q' e w:=Pc hq h
def mg(l:List Oper)(j:Nat):Option Nat:=(l[j]?).bind (·.dst)
def gy(l:List Oper)(e:Env)(j:Nat)(b:Bool):Bool:= match mg l j with
 |some d=>(match e d with|.bool b'=>b'==b|_=>false)
 |none=>false
def iE(l:List Oper)(o:Oper)(e:Env):Bool:= match o.guard with
 |none=>true
 |some (j,b)=>gy l e j b
def lX(n:Nat):List Oper->Bool
 |[]=>true
 |o::r=>(match o.dst with|some d=>Nat.blt d n|none=>true)&&lX n r
def Rl(P:Program)(all:List Oper):List Oper->(Env->World->Prop)->Env->World->Prop
 |[],K=>K
 |o::r,K=>fun e w=>match iE all o e with
  |true=>aF P o.op o.type (ev e) w fun v w'=>Rl P all r K (jJ e o.dst v) w'
  |false=>Rl P all r K (jJ e o.dst undef) w
theorem Ez{l:List Oper}{a:Act}(hok:∀o,o∈l->∀d,o.dst=some d->d<a.tmps.size)(o:Oper):Region.wanted o (yielded l.toArray a.tmps)=iE l o (cN a):=by
 unfold Region.wanted iE;cases hg:o.guard with
 |none=>rfl
 |some p=>
  obtain⟨j,b⟩:=p;simp only[yielded,gy,mg,vL];cases hd:(l[j]?).bind (·.dst)with
  |none=>simp
  |some d=>
   have hlt:d<a.tmps.size:=by
    cases ho:l[j]?with
    |none=>rw[ho]at hd;cases hd
    |some oj=>rw[ho]at hd;exact hok oj (ni ho) d hd
   simp only[F5,cN,ME,F6 hlt,BY];generalize a.tmps[d]=v;cases v<;>simp
theorem zl{l:List Oper}(h:lX n l=true):∀o,o∈l->∀d,o.dst=some d->d<n:=by
 induction l with
 |nil=>intro o ho;cases ho
 |cons x r ih=>
  simp only[lX,fI]at h;intro o ho d hd;cases ho with
  |head=>have h1:=h.1;rw[hd]at h1;exact(by simpa using h1)
  |tail _ hm=>exact ih h.2 o hm d hd
theorem NX{all:List Oper}(hall:∀o,o∈all->∀d,o.dst=some d->d<n){K:Env->World->Prop}{Q':Exit->Act->World->Prop}
 (hK:∀a w,a.tmps.size=n->a.defers=[]->K (cN a) w->Q' .normal a w):
 ∀(l:List Oper),(∀o,o∈l->o∈all)->∀(a:Act) (w:World),a.tmps.size=n->a.defers=[]->Rl P all l K (cN a) w->wpList P all.toArray Q' l a w:=by
 intro l
 induction l with
 |nil=>intro _ a w h1 h2 h;exact hK a w h1 h2 h
 |cons o r ih=>
  intro hsub a w h1 h2 h;have hin:=hsub o cO;have hd:∀d,o.dst=some d->d<n:=hall o hin;have hall':∀o,o∈all->∀d,o.dst=some d->d<a.tmps.size:=by rw[h1];exact hall
  refine wpList_step fun K' hK'=>?_;rw[Ez hall' o];simp only[Rl]at h;cases hw:iE all o (cN a)with
  |true=>
   rw[hw]at h;rw[if_pos rfl];refine G6 h fun v w' hv=>hK' _ _ ?_;refine ih (fun o ho=>hsub o (cJ _ ho)) _ _ (by rw[oH];exact h1) (by rw[qP];exact h2) ?_;rw[vG a h1 hd];exact hv
  |false=>
   rw[hw]at h;rw[if_neg (by simp)];refine hK' _ _ ?_;refine ih (fun o ho=>hsub o (cJ _ ho)) _ _ (by rw[oH];exact h1) (by rw[qP];exact h2) ?_;rw[vG a h1 hd];exact h
theorem cx.region{id:Nat}{l:List Oper}(hok:lX n l=true)(h:Rl P l l (cx P n k Q) e w):cx P n (.code (.region id l.toArray false)::k) Q e w:=by
 intro a h1 h2 h3;subst h3;refine wp_region_lit (NX (zl hok) (K:=cx P n k Q) ?_ l (fun _ h=>h) a w h1 h2 h);exact fun a' w' g1 g2 g3=>⟨g1,g2,g3⟩
variable {all r:List Oper} {K:Env->World->Prop}
theorem Rl.nil(h:K e w):Rl P all [] K e w:=h
theorem Rl.op{d:Nat}{op:Op}{ty:TypeId}{pos:String}{after:Array Edge}(h:aF P op ty (ev e) w fun v w'=>Rl P all r K (cK e d v) w'):
 Rl P all ({dst:=some d,op:=op,type:=ty,pos:=pos,after:=after,guard:=none}::r) K e w:=h
end
theorem SM{P:Program}{f:FuncId}{fn:Func}{c:Code}{l:List Value}{w:World}{R:Ending->World->Prop}
 (hf:P.funcs[f]?=some fn)(hb:fn.body=some c)(hl:l.length<=fn.ntmps)
 (h:cx P fn.ntmps [.code c] (fun e w'=>∀tmps:Array Value,(∀i,tmps.getD i undef=e i)->∃v,(results fn tmps).run P w'=.ok v w'/\R (.returned v) w') (kJ l) w):
 Calls P f l.toArray w R:=by
 refine calls_of_wp hf hb ?_;refine wp_mono (h {tmps:=l.toArray++Array.replicate (fn.ntmps-l.toArray.size) undef,defers:=[]} ?_ rfl ?_) ?_
 . simp;omega
 . funext i;simp only[cN,kJ,ME,cA];by_cases hi:i<l.length
   . rw[UU (by simpa using hi)];simp
   . rw[UX (by simpa using hi),fQ (by omega)];by_cases hj:i-l.toArray.size<fn.ntmps-l.toArray.size
     . rw[F6 (by simpa using hj)];simp
     . rw[BZ (by simpa using hj)]
 . rintro x a w' ⟨h1,h2,h3⟩;cases x<;>first|exact h3.elim|skip
   all_goals
    obtain⟨v,hv,hR⟩:=h3 a.tmps (fun _=>rfl);exact⟨h2,v,hv,hR⟩
open Go Go.RowKit
abbrev Hp:=Nat->Option Obj
def Le(H H':Hp):Prop:=∀b o,H b=some o->H' b=some o
theorem Le.refl(H:Hp):Le H H:=fun _ _ h=>h
theorem Le.trans{H H' H'':Hp}(h:Le H H')(h':Le H' H''):Le H H'':=fun b o hb=>h' b o (h b o hb)
def view(A:List (Option Nat))(w:World):Hp:=fun b=>if some b∈A then none else w.heap[b]?
theorem zD{A:List (Option Nat)}{w:World}{b:Nat}{o:Obj}(h:view A w b=some o):w.heap[b]?=some o:=by
 unfold view at h;split at h
 . cases h
 . exact h
theorem uY{A:List (Option Nat)}{w:World}{b:Nat}{o:Obj}(h:w.heap[b]?=some o)(hn:some b∉A):view A w b=some o:=by
 unfold view;rw[if_neg hn];exact h
def kR(H:Hp)(b o:Nat):Option Value:= match H b with
 |some (.cells c _ _)=>c[o]?
 |_=>none
theorem yk{H H':Hp}(h:Le H H'){b o:Nat}{v:Value}(hc:kR H b o=some v):kR H' b o=some v:=by
 unfold kR at*;cases hb:H b with
 |none=>rw[hb]at hc;cases hc
 |some x=>rw[hb]at hc;rw[h b x hb];exact hc
theorem yr{A:List (Option Nat)}{w:World}{b o:Nat}{v:Value}(h:kR (view A w) b o=some v):w.cell? ⟨b,o,none⟩=some v:=by
 unfold kR at h;cases hb:view A w b with
 |none=>rw[hb]at h;cases h
 |some x=>
  rw[hb]at h;unfold World.cell?;rw[zD hb];cases x<;>first|exact h|cases h
def At(H:Hp)(b o:Nat)(vs:List Value):Prop:=∀i,i<vs.length->kR H b (o+i)=vs[i]?
theorem At.mono{H H':Hp}(h:Le H H'){b o:Nat}{vs:List Value}(ha:At H b o vs):At H' b o vs:=by
 intro i hi;have:=ha i hi;rw[bV hi]at this⊢;exact yk h this
theorem At.nil{H:Hp}{b o:Nat}:At H b o []:=fun i hi=>by simp at hi
theorem At.get{H:Hp}{b o:Nat}{vs:List Value}(ha:At H b o vs)(i:Nat){v:Value}(hv:vs[i]?=some v):kR H b (o+i)=some v:=by
 have hi:i<vs.length:=by
  rcases cw i vs.length with h|h
  . exact h
  . rw[fQ h]at hv;cases hv
 rw[ha i hi,hv]
theorem At.part{H:Hp}{b o:Nat}{vs us:List Value}(ha:At H b o vs)(k:Nat)(h:(vs.drop k).take us.length=us):At H b (o+k) us:=by
 intro i hi;have h1:us[i]?=vs[k+i]?:=by
  conv=>lhs;rw[<-h]
  rw[vM,if_pos hi,te]
 have h2:k+i<vs.length:=by
  rcases cw (k+i) vs.length with h3|h3
  . exact h3
  . rw[fQ h3,bV hi]at h1;cases h1
 rw[h1,<-ha (k+i) h2,pK]
theorem At.append{H:Hp}{b o:Nat}{vs us:List Value}(ha:At H b o vs)(hb:At H b (o+vs.length) us):At H b o (vs++us):=by
 intro i hi;by_cases h:i<vs.length
 . rw[jZ h];exact ha i h
 . rw[ou (by omega)];have:=hb (i-vs.length) (by simp at hi;omega);rw[<-this];congr 1;omega
def Sl{α:Type}(sz:Nat)(R:Hp->List Value->α->Prop)(H:Hp)(v:Value)(xs:List α):Prop:=((∃oa,v=.slice oa 0 0)/\xs=[])\/ ∃b o cap,v=.slice (some ⟨b,o,none⟩) xs.length cap/\xs.length<=cap/\∀i x,xs[i]?=some x->∃vs,vs.length=sz/\At H b (o+i*sz) vs/\R H vs x
theorem Sl.mono{α:Type}{sz:Nat}{R:Hp->List Value->α->Prop}(hR:∀H H' vs x,Le H H'->R H vs x->R H' vs x){H H':Hp}(h:Le H H'){v:Value}{xs:List α}(hs:Sl sz R H v xs):Sl sz R H' v xs:=by
 rcases hs with hs|⟨b,o,cap,hv,hc,hx⟩
 . exact .inl hs
 . refine .inr ⟨b,o,cap,hv,hc,fun i x hi=>?_⟩;obtain⟨vs,h1,h2,h3⟩:=hx i x hi;exact⟨vs,h1,h2.mono h,hR _ _ _ _ h h3⟩
def Ext(w w':World):Prop:=Below w.heap.size w w'
theorem Ext.refl(w:World):Ext w w:=Below.refl _ _
theorem Ext.drawn(w:World)(n:Nat):Ext w {w with drawn:=n}:=⟨rfl,rfl,rfl,bK _,fun _ _=>rfl⟩
inductive cW where
 |cells (cs:List Value)
 |map (es:List (Value×Value))
def dC(w:World):Option Nat->cW->Prop
 |none,.cells cs=>cs=[]
 |none,.map _=>False
 |some b,.cells cs=>∃t lo hi,w.heap[b]?=some (.cells cs.toArray t (lo,hi))/\lo<=hi/\∀i,i<cs.length->¬(lo<=i/\i<hi)
 |some b,.map es=>∃(ents:Array MapEntry) (clock:Nat),w.heap[b]?=some (.map ents clock)/\ents.toList.map (fun x=>(x.key,x.val))=es/\(∀x∈ents.toList,x.born<clock)/\(ents.toList.map (·.born)).Nodup
def gB(w:World):List (Option Nat)->List cW->Prop
 |[],[]=>True
 |b::O,c::C=>dC w b c/\gB w O C
 |_,_=>False
def Bok(B:List (Option Nat))(w:World):Prop:=∀b,some b∈B->b<w.heap.size
def iV:List (Option Nat)->Prop
 |[]=>True
 |none::O=>iV O
 |some b::O=>some b∉O/\iV O
structure Loc (X B:List (Option Nat))(w0 w:World)(O:List (Option Nat))(C:List cW):Prop where
 os:w.os=w0.os
 tape:w.tape=w0.tape
 output:w.output=w0.output
 size:w0.heap.size<=w.heap.size
 keep:∀k,k<w0.heap.size->some k∉X->w.heap[k]?=w0.heap[k]?
 own:gB w O C
 fresh:∀b,some b∈O->some b∈X\/w0.heap.size<=b
 gG:iV O
 apart:∀b,some b∈X->some b∉B
 tV:Bok B w0
theorem dC.lt{w:World}{b:Nat}{c:cW}(h:dC w (some b) c):b<w.heap.size:=by
 have:∃o,w.heap[b]?=some o:=by
  cases c with
  |cells cs=>obtain⟨t,lo,hi,h1,_⟩:=h;exact⟨_,h1⟩
  |map es=>obtain⟨en,cl,h1,_⟩:=h;exact⟨_,h1⟩
 obtain⟨o,ho⟩:=this;rcases cw b w.heap.size with h|h
 . exact h
 . rw[BZ h]at ho;cases ho
theorem dC.same{w w':World}{b:Option Nat}{c:cW}(h:dC w b c)(hs:∀k,b=some k->w'.heap[k]?=w.heap[k]?):dC w' b c:=by
 cases b with
 |none=>cases c<;>exact h
 |some b=>
  cases c with
  |cells cs=>obtain⟨t,lo,hi,h1,h2⟩:=h;exact⟨t,lo,hi,by rw[hs b rfl];exact h1,h2⟩
  |map es=>obtain⟨en,cl,h1,h2⟩:=h;exact⟨en,cl,by rw[hs b rfl];exact h1,h2⟩
theorem gB.same{w w':World}:∀{O:List (Option Nat)} {C:List cW},gB w O C->(∀k,some k∈O->w'.heap[k]?=w.heap[k]?)->gB w' O C
 |[],[],h,_=>h
 |b::O,c::C,h,hs=>⟨h.1.same fun k hk=>hs k (by rw[hk];exact cO),h.2.same fun k hk=>hs k (cJ _ hk)⟩
 |[],_::_,h,_=>h.elim
 |_::_,[],h,_=>h.elim
theorem gB.lt{w:World}:∀{O:List (Option Nat)} {C:List cW},gB w O C->∀k,some k∈O->k<w.heap.size
 |[],[],_,_,hk=>by cases hk
 |b::O,c::C,h,k,hk=>by
  cases hk with
  |head=>exact h.1.lt
  |tail _ hm=>exact h.2.lt k hm
 |[],_::_,h,_,_=>h.elim
 |_::_,[],h,_,_=>h.elim
theorem gB.at{w:World}:∀{O:List (Option Nat)} {C:List cW},gB w O C->∀(i:Nat) {b c},O[i]?=some b->C[i]?=some c->dC w b c
 |[],[],_,i,b,c,hb,_=>by simp at hb
 |b::O,c::C,h,0,b',c',hb,hc=>by
  simp at hb hc;subst hb;subst hc;exact h.1
 |b::O,c::C,h,i+1,b',c',hb,hc=>h.2.at i (by simpa using hb) (by simpa using hc)
 |[],_::_,h,_,_,_,_,_=>h.elim
 |_::_,[],h,_,_,_,_,_=>h.elim
section
variable {X B:List (Option Nat)} {w0 w w':World} {O O':List (Option Nat)} {C C':List cW}
theorem Loc.ext(hL:Loc X B w0 w O C)(h:Ext w w'):Loc X B w0 w' O C:=
 ⟨h.os.trans hL.os,h.tape.trans hL.tape,h.output.trans hL.output,bO hL.size h.size,
  fun k hk hx=>(h.block k (B2 hk hL.size)).trans (hL.keep k hk hx),
  hL.own.same fun k hk=>h.block k (hL.own.lt k hk),hL.fresh,hL.gG,hL.apart,hL.tV⟩
theorem Loc.at(hL:Loc X B w0 w O C)(i:Nat){b:Option Nat}{c:cW}(hb:O[i]?=some b)(hc:C[i]?=some c):dC w b c:=hL.own.at i hb hc
structure Step (O O':List (Option Nat))(w w':World):Prop where
 same:∀k,k<w.heap.size->some k∉O->w'.heap[k]?=w.heap[k]?
 grow:∀b,some b∈O'->some b∈O\/w.heap.size<=b
theorem Step.ext(h:Ext w w'):Step O O w w':=⟨fun k hk _=>h.block k hk,fun _ h=>.inl h⟩
theorem Step.refl:Step O O w w:=⟨fun _ _ _=>rfl,fun _ h=>.inl h⟩
theorem Loc.alloc(hL:Loc X B w0 w O C){o:Obj}{c:cW}(hc:dC (w.alloc o) (some w.heap.size) c):
 Loc X B w0 (w.alloc o) (some w.heap.size::O) (c::C)/\Step O (some w.heap.size::O) w (w.alloc o):=by
 have hsame:∀k,k<w.heap.size->(w.alloc o).heap[k]?=w.heap[k]?:=fun k hk=>Below.heap_alloc w o k hk;have hsz:w.heap.size<=(w.alloc o).heap.size:=by simp
 refine⟨⟨hL.os,hL.tape,hL.output,bO hL.size hsz,fun k hk hx=>(hsame k (B2 hk hL.size)).trans (hL.keep k hk hx),
  ⟨hc,hL.own.same fun k hk=>hsame k (hL.own.lt k hk)⟩,?_,⟨fun h=>?_,hL.gG⟩,hL.apart,hL.tV⟩,⟨fun k hk _=>hsame k hk,?_⟩⟩
 . intro b hb;cases hb with
   |head=>exact .inr hL.size
   |tail _ hm=>exact hL.fresh b hm
 . exact absurd (hL.own.lt _ h) (Nat.lt_irrefl _)
 . intro b hb;cases hb with
   |head=>exact .inr (bK _)
   |tail _ hm=>exact .inl hm
theorem gB.set{w w':World}:∀{O:List (Option Nat)} {C:List cW},gB w O C->iV O->∀(i:Nat) {b:Nat} {c':cW},O[i]?=some (some b)->dC w' (some b) c'->
 (∀k,k<w.heap.size->k≠b->w'.heap[k]?=w.heap[k]?)->gB w' O (C.set i c')
 |[],[],_,_,i,b,c',hb,_,_=>by simp at hb
 |x::O,c::C,h,hd,0,b,c',hb,hc,hs=>by
  simp at hb;subst hb;refine⟨hc,h.2.same fun k hk=>hs k (h.2.lt k hk) ?_⟩;rintro rfl;exact hd.1 hk
 |x::O,c::C,h,hd,i+1,b,c',hb,hc,hs=>by
  have hb':O[i]?=some (some b):=by simpa using hb
  have hd':iV O:=by cases x with|none=>exact hd|some y=>exact hd.2
  refine⟨h.1.same fun k hk=>hs k (by subst hk;exact h.1.lt) ?_,h.2.set hd' i hb' hc hs⟩;subst hk;rintro rfl;exact hd.1 (ni hb')
 |[],_::_,h,_,_,_,_,_,_,_=>h.elim
 |_::_,[],h,_,_,_,_,_,_,_=>h.elim
theorem Loc.put(hL:Loc X B w0 w O C)(i:Nat){b:Nat}{c':cW}(hb:O[i]?=some (some b))(hc:dC w' (some b) c')
 (hs:∀k,k≠b->w'.heap[k]?=w.heap[k]?)(hsz:w'.heap.size=w.heap.size)(h1:w'.os=w.os)(h2:w'.tape=w.tape)(h3:w'.output=w.output):
 Loc X B w0 w' O (C.set i c')/\Step O O w w':=by
 have hin:some b∈O:=ni hb;refine⟨⟨h1.trans hL.os,h2.trans hL.tape,h3.trans hL.output,by rw[hsz];exact hL.size,fun k hk hx=>?_,hL.own.set hL.gG i hb hc fun k _ hk=>hs k hk,hL.fresh,hL.gG,hL.apart,hL.tV⟩,⟨fun k hk hn=>hs k ?_,fun _ h=>.inl h⟩⟩
 . rw[hs k]
   . exact hL.keep k hk hx
   . rintro rfl;rcases hL.fresh _ hin with h|h
     . exact hx h
     . omega
 . rintro rfl;exact hn hin
theorem heap_setCell_same{w:World}{b o:Nat}{v:Value}{c:Array Value}{t:TypeId}{fz:Nat×Nat}(h:w.heap[b]?=some (.cells c t fz)):
 (w.setCell ⟨b,o,none⟩ v).heap[b]?=some (.cells (c.setIfInBounds o v) t fz):=by
 simp[World.setCell,MF,h]
theorem iV.sub{O:List (Option Nat)}:∀(i:Nat),iV O->iV (O.eraseIdx i):=by
 induction O with
 |nil=>intro i h;simpa using h
 |cons x O ih=>
  intro i h;cases i with
  |zero=>cases x with|none=>exact h|some y=>exact h.2
  |succ i=>
   simp only[List.eraseIdx_cons_succ];cases x with
   |none=>exact ih i h
   |some y=>exact⟨fun hm=>h.1 (MG hm),ih i h.2⟩
theorem gB.drop{w:World}:∀{O:List (Option Nat)} {C:List cW} (i:Nat),gB w O C->gB w (O.eraseIdx i) (C.eraseIdx i)
 |[],[],_,h=>h
 |_::_,_::_,0,h=>h.2
 |_::_,_::_,i+1,h=>⟨h.1,h.2.drop i⟩
 |[],_::_,_,h=>h.elim
 |_::_,[],_,h=>h.elim
theorem Loc.drop(hL:Loc X B w0 w O C)(i:Nat):Loc X B w0 w (O.eraseIdx i) (C.eraseIdx i)/\Step O (O.eraseIdx i) w w:=
 ⟨⟨hL.os,hL.tape,hL.output,hL.size,hL.keep,hL.own.drop i,fun b hb=>hL.fresh b (MG hb),hL.gG.sub i,hL.apart,hL.tV⟩,
  ⟨fun _ _ _=>rfl,fun _ hb=>.inl (MG hb)⟩⟩
end
def Ret(w:World)(Φ:Value->World->Prop)(e:Ending)(w':World):Prop:=∃v,e=.returned v/\Ext w w'/\Φ v w'
open Go Go.RowKit
theorem JH{z z':Int}(h:z=z')(h1:-9223372036854775808<=z')(h2:z'<=9223372036854775807):IntKind.i64.wrap z=z':=by
 subst h;simp[IntKind.wrap,IntKind.signed,IntKind.bits];split<;>omega
section
variable {P:Program} {ty:TypeId} {ρ:Operand->Value} {w:World} {R:Value->World->Prop}
theorem aF.move{x:Operand}{v:Value}(hx:ρ x=v)(h:R v w):aF P (.move x) ty ρ w R:=by subst hx;exact h
theorem aF.assign{x:Operand}{v:Value}(hx:ρ x=v)(h:R v w):aF P (.assign x) ty ρ w R:=by subst hx;exact h
theorem aF.pick{c a b:Operand}{t:Bool}{v:Value}(hc:ρ c=.bool t)(hv:(if t=true then ρ a else ρ b)=v)(h:R v w):aF P (.pick c a b) ty ρ w R:=by
 subst hv;cases t<;>simp[aF,cZ,execOp,hc,asBool,upon]at h⊢<;>exact h
theorem aF.Rx{c a b:Operand}{t:Bool}{v:Value}(hc:ρ c=.bool t)(ht:t=true)(hv:ρ a=v)(h:R v w):aF P (.pick c a b) ty ρ w R:=
 aF.pick hc (by rw[if_pos ht];exact hv) h
theorem aF.T5{c a b:Operand}{t:Bool}{v:Value}(hc:ρ c=.bool t)(ht:t=false)(hv:ρ b=v)(h:R v w):aF P (.pick c a b) ty ρ w R:=
 aF.pick hc (by rw[if_neg (by rw[ht];simp)];exact hv) h
theorem aF.jz{op:BinOp}{t u:TypeId}{a b:Operand}{k k':IntKind}{x y:Int}{v:Value}(hx:ρ a=.int k x)(hy:ρ b=.int k' y)(hr:(binOp op t (.int k x) (.int k' y)).run P w=.ok v w)(h:R v w):
 aF P (.binOp op t a b u) ty ρ w R:=by
 have hg:(eqGuard op t a b (.int k x) (.int k' y)).run P w=.ok () w:=by
  unfold eqGuard;cases op<;>simp
 simp only[aF,cZ,execOp,hx,hy];simp[hg,hr,upon];exact h
theorem aF.add{t u:TypeId}{a b:Operand}{k:IntKind}{x y z:Int}(hx:ρ a=.int k x)(hy:ρ b=.int k y)(hz:k.wrap (x+y)=z)(h:R (.int k z) w):aF P (.binOp .add t a b u) ty ρ w R:=
 aF.jz hx hy (by subst hz;simp[binOp,Op.intArith]) h
theorem aF.sub{t u:TypeId}{a b:Operand}{k:IntKind}{x y z:Int}(hx:ρ a=.int k x)(hy:ρ b=.int k y)(hz:k.wrap (x-y)=z)(h:R (.int k z) w):aF P (.binOp .sub t a b u) ty ρ w R:=
 aF.jz hx hy (by subst hz;simp[binOp,Op.intArith]) h
theorem aF.mul{t u:TypeId}{a b:Operand}{k:IntKind}{x y z:Int}(hx:ρ a=.int k x)(hy:ρ b=.int k y)(hz:k.wrap (x*y)=z)(h:R (.int k z) w):aF P (.binOp .mul t a b u) ty ρ w R:=
 aF.jz hx hy (by subst hz;simp[binOp,Op.intArith]) h
theorem aF.quoI{t u:TypeId}{a b:Operand}{k:IntKind}{x y z:Int}(hx:ρ a=.int k x)(hy:ρ b=.int k y)(h0:¬y=0)(hz:k.wrap (x.tdiv y)=z)(h:R (.int k z) w):aF P (.binOp .quo t a b u) ty ρ w R:=by
 refine aF.jz hx hy ?_ h;subst hz;simp only[binOp,Op.intDiv,h0,if_false,ne_eq,not_true_eq_false];rfl
theorem aF.remI{t u:TypeId}{a b:Operand}{k:IntKind}{x y:Int}(hx:ρ a=.int k x)(hy:ρ b=.int k y)(h0:¬y=0)(h:R (.int k (x.tmod y)) w):aF P (.binOp .rem t a b u) ty ρ w R:=by
 refine aF.jz hx hy ?_ h;simp only[binOp,Op.intDiv,h0,if_false,ne_eq,not_true_eq_false];rfl
theorem Be(n m:Nat):BitVec.ofInt n (m:Int)=BitVec.ofNat n m:=by
 apply BitVec.eq_of_toNat_eq;simp[BitVec.toNat_ofInt]
theorem KD{k:IntKind}{z x y:Nat}(hx:k.wrap (x:Int)=(x:Int))(hy:k.wrap (y:Int)=(y:Int))(hz:z<2^k.bits)(hs:k.signed=true->z<2^(k.bits-1)):k.wrap (z:Int)=(z:Int):=by
 cases k<;>simp[IntKind.wrap,IntKind.signed,IntKind.bits]at hz hs⊢<;>omega
theorem Ay{k:IntKind}{x:Nat}(hx:k.wrap (x:Int)=(x:Int)):x<2^k.bits/\(k.signed=true->x<2^(k.bits-1)):=by
 cases k<;>simp[IntKind.wrap,IntKind.signed,IntKind.bits]at hx⊢<;>omega
theorem zv{p q:Prop}[Decidable p][Decidable q](h:p↔q):(decide p)=(decide q):=by simp[h]
theorem aF.lss{t u:TypeId}{a b:Operand}{k:IntKind}{x y:Int}(p:Prop)[Decidable p](hx:ρ a=.int k x)(hy:ρ b=.int k y)(hp:x<y↔p)(h:R (.bool (decide p)) w):aF P (.binOp .lss t a b u) ty ρ w R:=
 aF.jz hx hy (by simp[binOp,Op.intCmp,hp]) h
theorem aF.leq{t u:TypeId}{a b:Operand}{k:IntKind}{x y:Int}(p:Prop)[Decidable p](hx:ρ a=.int k x)(hy:ρ b=.int k y)(hp:x<=y↔p)(h:R (.bool (decide p)) w):aF P (.binOp .leq t a b u) ty ρ w R:=
 aF.jz hx hy (by simp[binOp,Op.intCmp,hp]) h
theorem aF.gtr{t u:TypeId}{a b:Operand}{k:IntKind}{x y:Int}(p:Prop)[Decidable p](hx:ρ a=.int k x)(hy:ρ b=.int k y)(hp:x>y↔p)(h:R (.bool (decide p)) w):aF P (.binOp .gtr t a b u) ty ρ w R:=
 aF.jz hx hy (by have:decide (y<x)=decide p:=zv hp;simp[binOp,Op.intCmp,this]) h
theorem aF.geq{t u:TypeId}{a b:Operand}{k:IntKind}{x y:Int}(p:Prop)[Decidable p](hx:ρ a=.int k x)(hy:ρ b=.int k y)(hp:x≥y↔p)(h:R (.bool (decide p)) w):aF P (.binOp .geq t a b u) ty ρ w R:=
 aF.jz hx hy (by have:decide (y<=x)=decide p:=zv hp;simp[binOp,Op.intCmp,this]) h
theorem aF.eql{t u:TypeId}{a b:Operand}{k:IntKind}{x y:Int}(p:Prop)[Decidable p](hx:ρ a=.int k x)(hy:ρ b=.int k y)(hp:x=y↔p)(h:R (.bool (decide p)) w):aF P (.binOp .eql t a b u) ty ρ w R:=
  aF.jz hx hy (by have : (x == y) = decide p := by rw [<- zv hp]; rfl
                  simp[binOp,Op.intCmp,this]) h
theorem aF.neq{t u:TypeId}{a b:Operand}{k:IntKind}{x y:Int}(p:Prop)[Decidable p](hx:ρ a=.int k x)(hy:ρ b=.int k y)(hp:x≠y↔p)(h:R (.bool (decide p)) w):aF P (.binOp .neq t a b u) ty ρ w R:=
  aF.jz hx hy (by have : (x != y) = decide p := by rw [<- zv hp]; simp [bne, BEq.beq]
                  simp[binOp,Op.intCmp,this]) h
theorem run_equalIn_bool(d:Nat){t:TypeId}(ht:P.underlying t=some .bool)(x y:Bool):(Op.equalIn (d+1) t (.bool x) (.bool y)).run P w=.ok (x==y) w:=by
 simp[Op.equalIn,run_underlying ht]
theorem aF.PM{t u:TypeId}{a b:Operand}{x y:Bool}(ht:P.underlying t=some .bool)(hx:ρ a=.bool x)(hy:ρ b=.bool y)(h:R (.bool (x==y)) w):aF P (.binOp .eql t a b u) ty ρ w R:=by
 have hr:(Op.equal t (.bool x) (.bool y)).run P w=.ok (x==y) w:=run_equalIn_bool 9999 ht x y;simp only[aF,cZ,execOp,hx,hy];simp only[binOp,eqGuard];simp[hr,upon];exact h
theorem aF.Nw{t u:TypeId}{a b:Operand}{x y:Bool}(ht:P.underlying t=some .bool)(hx:ρ a=.bool x)(hy:ρ b=.bool y)(h:R (.bool (!(x==y))) w):aF P (.binOp .neq t a b u) ty ρ w R:=by
 have hr:(Op.equal t (.bool x) (.bool y)).run P w=.ok (x==y) w:=run_equalIn_bool 9999 ht x y;simp only[aF,cZ,execOp,hx,hy];simp only[binOp,eqGuard];simp[hr,upon];exact h
theorem aF.not{t:TypeId}{a:Operand}{x:Bool}(hx:ρ a=.bool x)(h:R (.bool (!x)) w):aF P (.unOp .not t a) ty ρ w R:=by
 simp[aF,cZ,execOp,hx,Op.unary,upon];exact h
theorem aF.neg{t:TypeId}{a:Operand}{k:IntKind}{x z:Int}(hx:ρ a=.int k x)(hz:k.wrap (0-x)=z)(h:R (.int k z) w):aF P (.unOp .neg t a) ty ρ w R:=by
 subst hz;simp[aF,cZ,execOp,hx,Op.unary,Op.intArith,upon]at h⊢;exact h
theorem aF.Qo{s t:TypeId}{a:Operand}{k k':IntKind}{x z:Int}{d:TypeDesc}(hs:P.underlying s=some d)(ht:P.underlying t=some (.int k'))(hx:ρ a=.int k x)(hz:k'.wrap x=z)(h:R (.int k' z) w):aF P (.convert s t a) ty ρ w R:=by
 subst hz;simp only[aF,cZ,execOp,hx];simp[convert,run_underlying hs,run_underlying ht,Conv.intToInt,upon];exact h
theorem aF.extract{a:Operand}{vs:List Value}{i:Nat}{v:Value}(ha:ρ a=.tuple vs.toArray)(hv:vs[i]?=some v)(h:R v w):aF P (.extract a i) ty ρ w R:=by
 simp[aF,cZ,execOp,ha,Instr.extract,hv,upon];exact h
end
open Go Go.RowKit
def TI(P:Program)(t:TypeId)(sz by':Nat)(z:Value):Prop:=∃i,P.info? t=some i/\i.size=sz/\i.bytes=by'/\i.zero=some z
theorem TI.mk{P:Program}{t:TypeId}{sz b:Nat}{z:Value}(h:(P.info? t).map (fun i=>(i.zero,i.size,i.bytes))=some (some z,sz,b)):TI P t sz b z:=by
 cases hi:P.info? t with
 |none=>rw[hi]at h;simp at h
 |some i=>rw[hi]at h;simp at h;exact⟨i,hi▸rfl,h.2.1,h.2.2,h.1⟩
def iG:TypeDesc->Bool
 |.struct _|.array _ _=>true
 |_=>false
def Enters(P:Program)(f:FuncId):Prop:=∃fn,P.funcs[f]?=some fn/\(fn.name== "runtime.NumGoroutine")=false/\fn.body.isNone=false
def one(v:Value):Bool:=v.oneCell'
def fb:List Value->Bool
 |[]=>true
 |v::r=>one v&&fb r
theorem Ds{l:List Value}(h:fb l=true):∀v∈l,v.oneCell'=true:=by
 induction l with
 |nil=>intro v hv;cases hv
 |cons x r ih=>
  simp only[fb,fI]at h;intro v hv;cases hv with
  |head=>exact h.1
  |tail _ hm=>exact ih h.2 v hm
theorem add_plain(b o n:Nat):(⟨b,o,none⟩:Addr).add n=⟨b,o+n,none⟩:=by
 unfold Addr.add;split
 . subst_vars;rfl
 . rfl
def putAt(cs:List Value)(o:Nat):List Value->List Value
 |[]=>cs
 |v::r=>putAt (cs.set o v) (o+1) r
theorem E2:∀(vs cs:List Value) (o:Nat),(putAt cs o vs).length=cs.length
 |[],_,_=>rfl
 |v::r,cs,o=>by simp[putAt,E2 r]
theorem Lo:∀(vs cs:List Value) (o i:Nat),o+vs.length<=cs.length->(putAt cs o vs)[i]?=if o<=i/\i<o+vs.length then vs[i-o]?else cs[i]?
 |[],cs,o,i,_=>by simp[putAt];intro h1 h2;omega
 |v::r,cs,o,i,h=>by
  simp only[putAt,cv]at h⊢;rw[Lo r _ _ _ (by simp;omega)];by_cases h1:i=o
  . subst h1;rw[if_neg (by omega),if_pos (by omega),vN,List.getElem?_cons_zero,yv (by omega)]
  . by_cases h2:o+1<=i/\i<o+1+r.length
    . rw[if_pos h2,if_pos (by omega),show i-o=(i-(o+1))+1 by omega,List.getElem?_cons_succ]
    . rw[if_neg h2,if_neg (by omega),vO (Ne.symm h1)]
theorem wG(vs cs:List Value)(o:Nat)(h:o+vs.length<=cs.length):putAt cs o vs=cs.take o++vs++cs.drop (o+vs.length):=by
 apply pL;intro i;rw[Lo _ _ _ _ h];by_cases h1:i<o
 . rw[if_neg (by omega),je,jZ (by simp;omega),vM,if_pos h1]
 . by_cases h2:i<o+vs.length
   . rw[if_pos (by omega),je,ou (by simp;omega),jZ (by simp;omega)];congr 1;simp;omega
   . rw[if_neg (by omega),ou (by simp;omega),te];congr 1;simp;omega
theorem DX(xs sp vs:List Value)(h:vs.length<=sp.length):putAt (xs++sp) xs.length vs=(xs++vs)++sp.drop vs.length:=by
 rw[wG _ _ _ (by simp;omega)];simp
section
variable {P:Program}
theorem T6{w:World}{b o:Nat}{cs:List Value}{t:TypeId}{lo hi:Nat}(v:Value)(hb:w.heap[b]?=some (.cells cs.toArray t (lo,hi)))(hf:∀i,i<cs.length->¬(lo<=i/\i<hi))(ho:o<cs.length)(h1:v.oneCell'=true)(m:Go.Mode):
 (store ⟨b,o,none⟩ v m).run P w=.ok () (w.setCell ⟨b,o,none⟩ v):=by
 have hc:w.cell? ⟨b,o,none⟩=some cs[o]:=by simp[World.cell?,hb,ho]
 have hz:w.frozen? ⟨b,o,none⟩=false:=by
  have:=hf o ho;simp[World.frozen?,hb];omega
 rw[run_store P w _ v m h1];simp[hc,hz]
theorem zO{b:Nat}{t:TypeId}{lo hi:Nat}:∀(vs:List Value) (i o:Nat) (cs:List Value) (w:World),w.heap[b]?=some (.cells cs.toArray t (lo,hi))->(∀i,i<cs.length->¬(lo<=i/\i<hi))->
 o+i+vs.length<=cs.length->(∀v∈vs,v.oneCell'=true)->
 ∃w',(storeCells ⟨b,o,none⟩ vs i).run P w=.ok () w'/\w'.heap[b]?=some (.cells (putAt cs (o+i) vs).toArray t (lo,hi))/\(∀k,k≠b->w'.heap[k]?=w.heap[k]?)/\
  w'.heap.size=w.heap.size/\w'.os=w.os/\w'.tape=w.tape/\w'.output=w.output
 |[],i,o,cs,w,hb,_,_,_=>⟨w,by simp[storeCells],hb,fun _ _=>rfl,rfl,rfl,rfl,rfl⟩
 |v::r,i,o,cs,w,hb,hf,hl,h1=>by
  have hst:=T6 (P:=P) (o:=o+i) v hb hf (by simp at hl;omega) (h1 v cO) .plain;have hb':(w.setCell ⟨b,o+i,none⟩ v).heap[b]?=some (.cells (cs.set (o+i) v).toArray t (lo,hi)):=by
   rw[heap_setCell_same hb];simp
  obtain⟨w',g1,g2,g3,g4,g5,g6,g7⟩:=zO r (i+1) o (cs.set (o+i) v) (w.setCell ⟨b,o+i,none⟩ v) hb' (fun j hj=>hf j (by simpa using hj)) (by simp at hl⊢;omega) (fun x hx=>h1 x (cJ _ hx));refine⟨w',?_,g2,fun k hk=>(g3 k hk).trans (Below.heap_setCell _ _ _ _ hk),by rw[g4];simp[World.setCell],g5,g6,g7⟩;simp only[storeCells,add_plain,Sem.run_bind,hst,Result.andThen_ok];exact g1
theorem AG{w:World}{t:TypeId}{d:TypeDesc}(hd:P.underlying t=some d):(isAgg t).run P w=.ok (iG d) w:=by
 unfold isAgg;simp[run_underlying hd];cases d<;>rfl
theorem Fm{w:World}{t:TypeId}{d:TypeDesc}{a:Addr}{v:Value}(hd:P.underlying t=some d)(hg:iG d=false)(hc:w.cell? a=some v):(loadVar t a).run P w=.ok v w:=by
 unfold loadVar;simp only[Sem.run_bind,AG hd,Result.andThen_ok,hg];simp[hc]
theorem Dm{w:World}{t:TypeId}{d:TypeDesc}{a:Addr}{vs:List Value}{sz by':Nat}{z:Value}(hd:P.underlying t=some d)(hg:iG d=true)(ti:TI P t sz by' z)(hl:vs.length=sz)
 (hc:∀j v,vs[j]?=some v->w.cell? (a.add j)=some v):(loadVar t a).run P w=.ok (.agg vs.toArray) w:=by
 obtain⟨i,hi,hs,_,_⟩:=ti;have:=run_loadCells_list (P:=P) w a vs hc;unfold loadVar;simp only[Sem.run_bind,AG hd,Result.andThen_ok,hg];simp[sizeOf,typeInfo,hi,hs,<-hl,this]
end
section
variable {P:Program} {ty:TypeId} {ρ:Operand->Value} {w:World} {R:Value->World->Prop} {X B:List (Option Nat)} {w0:World} {O:List (Option Nat)} {C:List cW}
theorem oe(w:World)(cs:Array Value)(t:TypeId):dC (w.alloc (.cells cs t)) (some w.heap.size) (.cells cs.toList):=by
 refine⟨t,0,0,?_,bK _,fun i _ h=>by omega⟩;show(w.heap.push _)[w.heap.size]?=_;simp
theorem aF.box{t:TypeId}{x:Operand}{v:Value}{cs:List Value}(hx:ρ x=v)(hv:v.cells=cs.toArray)(hL:Loc X B w0 w O C)
 (h:∀b w',Loc X B w0 w' (some b::O) (.cells cs::C)->Step O (some b::O) w w'->R (.pointer (some ⟨b,0,none⟩)) w'):aF P (.box t x) ty ρ w R:=by
 have ha:=hL.alloc (o:=.cells cs.toArray t) (c:=.cells cs) (by simpa using oe w cs.toArray t);simp only[aF,cZ,execOp,hx];simp[Instr.box,newVar,newRow,hv,upon];exact h _ _ ha.1 ha.2
theorem aF.alloc{t:TypeId}{sz by':Nat}{z:Value}{cs:List Value}(ti:TI P t sz by' z)(hv:z.cells=cs.toArray)(hL:Loc X B w0 w O C)
 (h:∀b w',Loc X B w0 w' (some b::O) (.cells cs::C)->Step O (some b::O) w w'->R (.pointer (some ⟨b,0,none⟩)) w'):aF P (.alloc t) ty ρ w R:=by
 obtain⟨i,hi,_,_,hz⟩:=ti;have ha:=hL.alloc (o:=.cells cs.toArray t) (c:=.cells cs) (by simpa using oe w cs.toArray t);simp only[aF,cZ,execOp];simp[Instr.alloc,zeroValue,typeInfo,hi,hz,newVar,newRow,hv,upon];exact h _ _ ha.1 ha.2
theorem sM{w:World}{b o:Nat}{cs:List Value}{v:Value}(h:dC w (some b) (.cells cs))(hv:cs[o]?=some v):w.cell? ⟨b,o,none⟩=some v:=by
 obtain⟨t,lo,hi,h1,_⟩:=h;simp[World.cell?,h1,hv]
theorem aF.wA{t:TypeId}{x:Operand}{d:TypeDesc}{A:List (Option Nat)}{b o:Nat}{v:Value}(hd:P.underlying t=some d)(hg:iG d=false)(hx:ρ x=.pointer (some ⟨b,o,none⟩))(hc:kR (view A w) b o=some v)(h:R v w):aF P (.load t x) ty ρ w R:=by
 have:=Fm (P:=P) hd hg (yr hc);simp only[aF,cZ,execOp,hx];simp[Instr.loadAt,Instr.sureAddr,this,upon];exact h
theorem aF.Jc{t:TypeId}{x:Operand}{d:TypeDesc}{A:List (Option Nat)}{b o:Nat}{vs:List Value}{sz by':Nat}{z:Value}(hd:P.underlying t=some d)(hg:iG d=true)(ti:TI P t sz by' z)(hx:ρ x=.pointer (some ⟨b,o,none⟩))(hl:vs.length=sz)(hc:At (view A w) b o vs)(h:R (.agg vs.toArray) w):aF P (.load t x) ty ρ w R:=by
 have hc':∀j v,vs[j]?=some v->w.cell? ((⟨b,o,none⟩:Addr).add j)=some v:=by
  intro j v hj;rw[add_plain];exact yr (hc.get j hj)
 have:=Dm (P:=P) hd hg ti hl hc';simp only[aF,cZ,execOp,hx];simp[Instr.loadAt,Instr.sureAddr,this,upon];exact h
theorem aF.store{t:TypeId}{x y:Operand}{b o:Nat}{cs vs:List Value}{v:Value}{sz by':Nat}{z:Value}(ti:TI P t sz by' z)(hx:ρ x=.pointer (some ⟨b,o,none⟩))(hy:ρ y=v)(hv:v.cells=vs.toArray)(hl:vs.length=sz)(h1:fb vs=true)
 (hL:Loc X B w0 w O C)(i:Nat)(hO:O[i]?=some (some b))(hC:C[i]?=some (.cells cs))(hin:o+vs.length<=cs.length)
 (h:∀w',Loc X B w0 w' O (C.set i (.cells (putAt cs o vs)))->Step O O w w'->R undef w'):aF P (.store t x y) ty ρ w R:=by
 obtain⟨inf,hi,hs,_,_⟩:=ti;obtain⟨tt,lo,hh,g1,g0,g2⟩:=hL.at i hO hC;obtain⟨w',r1,r2,r3,r4,r5,r6,r7⟩:=zO (P:=P) vs 0 o cs w g1 g2 (by simpa using hin) (Ds h1);have hp:=hL.put (w':=w') i hO (c':=.cells (putAt cs o vs)) ⟨tt,lo,hh,r2,g0,fun j hj=>g2 j (by simpa[E2]using hj)⟩ r3 r4 r5 r6 r7;have hr:(Instr.storeAt t (.pointer (some ⟨b,o,none⟩)) v).run P w=.ok () w':=by
  simp[Instr.storeAt,Instr.sureAddr,storeVar,hv,sizeOf,typeInfo,hi,hs,hl,r1]
 simp only[aF,cZ,execOp,hx,hy];simp[hr,upon];exact h w' hp.1 hp.2
theorem aF.fieldAddr{s:TypeId}{x:Operand}{fs:Array Field}{f:Field}{i b o q:Nat}{sz by':Nat}{z:Value}(hs:P.underlying s=some (.struct fs))(hf:fs[i]?=some f)(ti:TI P f.type sz by' z)(hsz:(sz==0)=false)
 (hx:ρ x=.pointer (some ⟨b,o,none⟩))(hq:o+f.offset=q)(h:R (.pointer (some ⟨b,q,none⟩)) w):aF P (.fieldAddr s x i) ty ρ w R:=by
 obtain⟨inf,hi,hz,_,_⟩:=ti;have hn:¬sz=0:=by simpa using hsz
 subst hq;simp only[aF,cZ,execOp,hx];simp[Instr.fieldAt,run_underlying hs,hf,Instr.sureAddr,fieldPlace,sizeOf,typeInfo,hi,hz,hn,upon,add_plain];exact h
theorem aF.indexAddr{t el:TypeId}{x y:Operand}{b o n cap i q:Nat}{k:IntKind}{sz by':Nat}{z:Value}(hu:P.underlying t=some (.slice el))(ti:TI P el sz by' z)(hx:ρ x=.slice (some ⟨b,o,none⟩) n cap)(hy:ρ y=.int k (i:Nat))(hlt:i<n)(hq:o+i*sz=q)
 (h:R (.pointer (some ⟨b,q,none⟩)) w):aF P (.indexAddr t x y) ty ρ w R:=by
 obtain⟨inf,hi,hz,_,_⟩:=ti;subst hq;have h2:(i:Int)<n:=by omega
 simp only[aF,cZ,execOp,hx,hy];simp[Instr.indexAt,run_underlying hu,asIntOf,h2,hlt,sizeOf,typeInfo,hi,hz,upon,add_plain];exact h
theorem aF.sq{x:Operand}{t el:TypeId}{a:Option Addr}{n cap:Nat}(hu:P.underlying t=some (.slice el))(hx:ρ x=.slice a n cap)(h:R (.int .i64 ((n:Nat):Int)) w):
 aF P (.call {callee:=.builtin .len,args:=#[x],argTypes:=#[t]}) ty ρ w R:=by
 simp only[aF,cZ,execOp,resolve,invoke,builtin];simp[hx,Builtin.len_,run_underlying hu,upon,goInt];exact h
theorem aF.Sa{α:Type}{sz:Nat}{Rr:Hp->List Value->α->Prop}{H:Hp}{xs:List α}{x:Operand}{t el:TypeId}{v:Value}(hu:P.underlying t=some (.slice el))(hx:ρ x=v)(hS:Sl sz Rr H v xs)(h:R (.int .i64 ((xs.length:Nat):Int)) w):
 aF P (.call {callee:=.builtin .len,args:=#[x],argTypes:=#[t]}) ty ρ w R:=by
 rcases hS with⟨h1,h2⟩|⟨b,o,cap,hv,_,_⟩
 . obtain⟨oa,h1⟩:=h1;exact aF.sq hu (hx.trans h1) (by rw[h2]at h;exact h)
 . exact aF.sq hu (hx.trans hv) h
theorem aF.Rw{x:Operand}{t:TypeId}{s:ByteArray}(hu:P.underlying t=some .string)(hx:ρ x=.string s)(h:R (.int .i64 ((s.size:Nat):Int)) w):
 aF P (.call {callee:=.builtin .len,args:=#[x],argTypes:=#[t]}) ty ρ w R:=by
 simp only[aF,cZ,execOp,resolve,invoke,builtin];simp[hx,Builtin.len_,run_underlying hu,upon,goInt];exact h
theorem F1{f:FuncId}(he:Enters P f)(args:Array Value):(callFunc f args).run P w=.ok (.enter f args) w:=by
 obtain⟨fn,h1,h2,h3⟩:=he;simp only[callFunc,Sem.run_bind,run_program,Result.andThen_ok,h1,h2,h3];simp
theorem aF.IZ{f:FuncId}{args:List Operand}{ats:Array TypeId}{l:List Value}{T:Ending->World->Prop}(he:Enters P f)(hf:ρ (.func f)=.func (.func f) #[] #[]) (ha:args.map ρ=l) (hc:Calls P f l.toArray w T) (h:∀e w',T e w'->∃v,e=.returned v/\R v w'):
 aF P (.call {callee:=.value (.func f),args:=args.toArray,argTypes:=ats}) ty ρ w R:=by
 have hr:=F1 (w:=w) he l.toArray;simp only[aF,cZ,execOp,resolve,hf];simp[Deferred.ofValue,invoke,ha,hr,upon];refine hc.mono ?_;intro e w' ht;obtain⟨v,rfl,hv⟩:=h e w' ht;exact hv
theorem aF.He{g:Operand}{f:FuncId}{fst cap:List Value}{args:List Operand}{ats:Array TypeId}{l:List Value}{T:Ending->World->Prop}(he:Enters P f)(hf:ρ g=.func (.func f) fst.toArray cap.toArray)(ha:fst++args.map ρ++cap=l)(hc:Calls P f l.toArray w T)(h:∀e w',T e w'->∃v,e=.returned v/\R v w'):
 aF P (.call {callee:=.value g,args:=args.toArray,argTypes:=ats}) ty ρ w R:=by
 have hr:=F1 (w:=w) he l.toArray;subst ha;simp only[aF,cZ,execOp,resolve,hf];simp[Deferred.ofValue,invoke,upon]at hr⊢;rw[hr];simp[upon];refine(by simpa using hc:Calls P f _ w T).mono ?_;intro e w' ht;obtain⟨v,rfl,hv⟩:=h e w' ht;exact hv
end
open Go Go.RowKit
def cr(i:Nat):List Nat->Bool
 |[]=>false
 |x::r=>Nat.beq i x||cr i r
def mix(ws:List Nat)(e' e:Env):Env:=fun i=>bif cr i ws then e' i else e i
section
variable {P:Program} {n:Nat} {k:List It} {Q:Env->World->Prop} {e:Env} {w:World}
theorem wp_loop_ghost{c:Code}{σ:Type}(I:σ->Act->World->Prop)(μ:σ->Nat){Q:Exit->Act->World->Prop}{s0:σ}{a:Act}{w:World}(h₀:I s0 a w)
 (round:∀s a w,I s a w->c.wp P (Exit.then (fun a' w'=>∃s',I s' a' w'/\μ s'<μ s) Q) a w):(Code.loop c).wp P Q a w:=by
 intro b k cs;have key:∀n s a w,μ s=n->I s a w->∃e a' w',Q e a' w'/\Arrives P (lone (b.at a (.code c::.inLoop c::k)) cs w) b k cs e a' w':=by
  intro n
  induction n using Nat.strongRecOn with
  |_ n ih=>
   intro s a w hn hI;obtain⟨e,a₁,w₁,hq,harr⟩:=round s a w hI b (.inLoop c::k) cs;cases e with
   |normal=>
    obtain⟨s',hI₁,hlt⟩:=hq;obtain⟨e₂,a₂,w₂,hq₂,harr₂⟩:=ih (μ s') (hn▸hlt) s' a₁ w₁ rfl hI₁;exact⟨e₂,a₂,w₂,hq₂,.of_steps (Steps.trans harr (.one step_inLoop)) harr₂⟩
   |exit id=>exact⟨_,a₁,w₁,hq,.pass (x:=.inLoop c) rfl (fun _ _=>.inl (by simp)) harr⟩
   |goto l=>exact⟨_,a₁,w₁,hq,.pass (x:=.inLoop c) rfl (fun _ _=>.inl (by simp)) harr⟩
   |ret=>exact⟨_,a₁,w₁,hq,.pass (x:=.inLoop c) rfl (fun _ _=>.inl (by simp)) harr⟩
   |panic ch=>exact⟨_,a₁,w₁,hq,.pass (x:=.inLoop c) rfl (fun _ _=>.inl (by simp)) harr⟩
   |outgrown=>exact⟨_,a₁,w₁,hq,.pass (x:=.inLoop c) rfl (fun _ _=>.inl (by simp)) harr⟩
 obtain⟨e,a',w',hq,harr⟩:=key _ s0 a w rfl h₀;exact⟨e,a',w',hq,.of_steps (.one step_loop) harr⟩
end
def js:List Value->Value
 |[v]=>v
 |vs=>.tuple vs.toArray
def rM(P:Program)(e:Env)(w:World):List ResultVar->List Value->Prop
 |[],[]=>True
 |.tmp t::r,v::vs=>e t=v/\rM P e w r vs
 |.cell a t::r,v::vs=>(∃p,e a=.pointer (some p)/\(loadVar t p).run P w=.ok v w)/\rM P e w r vs
 |_,_=>False
theorem Bg{P:Program}{e:Env}{w:World}{tmps:Array Value}(he:∀i,tmps.getD i undef=e i)(g:ResultVar->Sem Value)
 (g1:∀t,g (.tmp t)=pure (tmps.getD t undef))(g2:∀a t,g (.cell a t)=(do loadVar t (<-asAddr (tmps.getD a undef)))):∀{rl:List ResultVar} {vs:List Value},rM P e w rl vs->
 (rl.mapM g).run P w=.ok vs w
 |[],[],_=>by simp
 |.tmp t::r,v::vs,h=>by
  simp only[MH,Sem.run_bind,Sem.run_pure,Result.andThen_ok,Bg he g g1 g2 h.2,g1,he t,h.1]
 |.cell a t::r,v::vs,h=>by
  obtain⟨p,hp,hl⟩:=h.1;have:(asAddr (tmps.getD a undef)).run P w=.ok p w:=by rw[he a,hp];rfl
  simp only[MH,Sem.run_bind,g2,this,Result.andThen_ok,hl,Bg he g g1 g2 h.2,Sem.run_pure]
 |[],_::_,h=>h.elim
 |.tmp _::_,[],h=>h.elim
 |.cell _ _::_,[],h=>h.elim
theorem Li{P:Program}{f:FuncId}{fn:Func}{c:Code}{l:List Value}{rl:List ResultVar}{n:Nat}{w:World}{R:Ending->World->Prop}
 (hf:P.funcs[f]?=some fn)(hb:fn.body=some c)(hn:fn.ntmps=n)(hr:fn.results=rl.toArray)(hl:l.length<=n)
 (h:cx P n [.code c] (fun e w'=>∃vs,rM P e w' rl vs/\R (.returned (js vs)) w') (kJ l) w):
 Calls P f l.toArray w R:=by
 subst hn;refine SM hf hb hl (h.mono ?_);rintro e w' ⟨vs,h1,h2⟩ tmps he;refine⟨js vs,?_,h2⟩;unfold results;rw[hr];simp only[MI,Sem.run_bind,Sem.run_map];rw[Bg he _ (fun _=>rfl) (fun _ _=>rfl) h1];simp only[Result.andThen_ok];cases vs with
 |nil=>rfl
 |cons v vs=>cases vs<;>simp[js]
open Go Go.RowKit
theorem Sl.one{α:Type}{sz:Nat}{R:Hp->List Value->α->Prop}{H:Hp}{v:Value}{xs:List α}(h:Sl sz R H v xs):one v=true:=by
 rcases h with⟨⟨oa,h⟩,_⟩|⟨b,o,cap,hv,_⟩
 . rw[h];rfl
 . rw[hv];rfl
theorem kC:fb []=true:=rfl
theorem dG{v:Value}{r:List Value}(h:X.one v=true)(hr:fb r=true):fb (v::r)=true:=by simp[fb,h,hr]
def sv:Option Nat->Nat->Nat->Value
 |none,_,_=>.slice none 0 0
 |some b,n,cap=>.slice (some ⟨b,0,none⟩) n cap
section
variable {P:Program} {X B:List (Option Nat)} {w0 w w':World} {O:List (Option Nat)} {C:List cW}
theorem gB.swap{w w':World}:∀{O:List (Option Nat)} {C:List cW},gB w O C->∀(i:Nat) {b:Option Nat} {c':cW},i<O.length->dC w' b c'->(∀k,k<w.heap.size->w'.heap[k]?=w.heap[k]?)->gB w' (O.set i b) (C.set i c')
 |[],[],_,i,b,c',hi,_,_=>by simp at hi
 |x::O,c::C,h,0,b,c',_,hc,hs=>⟨hc,h.2.same fun k hk=>hs k (h.2.lt k hk)⟩
 |x::O,c::C,h,i+1,b,c',hi,hc,hs=>⟨h.1.same fun k hk=>hs k (by subst hk;exact h.1.lt),h.2.swap i (by simpa using hi) hc hs⟩
 |[],_::_,h,_,_,_,_,_,_=>h.elim
 |_::_,[],h,_,_,_,_,_,_=>h.elim
theorem iV.swap{O:List (Option Nat)}:∀(i:Nat) {b:Nat},iV O->some b∉O->iV (O.set i (some b)):=by
 induction O with
 |nil=>intro i b h _;simpa using h
 |cons x O ih=>
  intro i b h hn;have hn':some b∉O:=fun hm=>hn (cJ _ hm);have hd:iV O:=by cases x with|none=>exact h|some y=>exact h.2
  cases i with
  |zero=>exact⟨hn',hd⟩
  |succ i=>
   rw[List.set_cons_succ];cases x with
   |none=>exact ih i hd hn'
   |some y=>
    refine⟨fun hm=>?_,ih i hd hn'⟩;rcases pM hm with h1|h1
    . exact h.1 h1
    . cases h1;exact hn cO
theorem Loc.swap(hL:Loc X B w0 w O C)(i:Nat)(hi:i<O.length){b:Nat}{c':cW}(hE:Ext w w')(hb:w.heap.size<=b)(hc:dC w' (some b) c'):
 Loc X B w0 w' (O.set i (some b)) (C.set i c')/\Step O (O.set i (some b)) w w':=by
 have hL':=hL.ext hE;have hsame:∀k,k<w.heap.size->w'.heap[k]?=w.heap[k]?:=fun k hk=>hE.block k hk;have hnot:some b∉O:=fun h=>by have:=hL.own.lt b h;omega
 refine⟨⟨hL'.os,hL'.tape,hL'.output,hL'.size,hL'.keep,hL.own.swap i hi hc hsame,?_,hL.gG.swap i hnot,hL.apart,hL.tV⟩,⟨fun k hk _=>hsame k hk,?_⟩⟩
 . intro c hcm;rcases pM hcm with h1|h1
   . exact hL.fresh c h1
   . cases h1;exact .inr (bO hL.size hb)
 . intro c hcm;rcases pM hcm with h1|h1
   . exact .inl h1
   . cases h1;exact .inr hb
theorem Loc.O9(hL:Loc X B w0 w O C):Loc X B w0 w (none::O) (.cells []::C)/\Step O (none::O) w w:=by
 refine⟨⟨hL.os,hL.tape,hL.output,hL.size,hL.keep,⟨rfl,hL.own⟩,fun b hb=>?_,hL.gG,hL.apart,hL.tV⟩,⟨fun _ _ _=>rfl,fun b hb=>?_⟩⟩
 . rcases eb.1 hb with h|h
   . cases h
   . exact hL.fresh b h
 . rcases eb.1 hb with h|h
   . cases h
   . exact .inl h
end
section
variable {P:Program} {ty:TypeId} {ρ:Operand->Value} {w:World} {R:Value->World->Prop} {X B:List (Option Nat)} {w0:World} {O:List (Option Nat)} {C:List cW}
theorem aF.P0{t el:TypeId}{sz by':Nat}{z:Value}(hu:P.underlying t=some (.slice el))(ti:TI P el sz by' z)(hL:Loc X B w0 w O C)
 (h:∀b w',Loc X B w0 w' (some b::O) (.cells []::C)->Step O (some b::O) w w'->R (.slice (some ⟨b,0,none⟩) 0 0) w'):aF P (.buildSlice t 0 #[]) ty ρ w R:=by
 obtain⟨i,hi,hs,hby,hzz⟩:=ti;have hal:=hL.alloc (o:=.cells #[] el) (c:=.cells []) (oe w #[] el);simp only[aF,cZ,execOp];simp[Instr.buildSlice,run_underlying hu,sizeOf,typeInfo,hi,Instr.fill,newRow,upon,Array.range_zero'];exact h _ _ hal.1 hal.2
theorem aF.buildSlice{t el:TypeId}{n:Nat}{parts:List (Nat×Operand)}{sz by':Nat}{z:Value}{cs:List Value}(hu:P.underlying t=some (.slice el))(ti:TI P el sz by' z)(hn:n*sz<=16777216)
 (hf:Instr.fill (fun i=>some (i*sz,sz)) ((Array.range (n*sz)).map (z.cells[·%z.cells.size]!)) ((parts.map fun p=>(p.1,ρ p.2)))=some cs.toArray)(h0:0<n*sz)(hL:Loc X B w0 w O C)
 (h:∀b w',Loc X B w0 w' (some b::O) (.cells cs::C)->Step O (some b::O) w w'->R (.slice (some ⟨b,0,none⟩) n n) w'):aF P (.buildSlice t n parts.toArray) ty ρ w R:=by
 obtain⟨i,hi,hs,hby,hzz⟩:=ti;have hal:=hL.alloc (o:=.cells cs.toArray el) (c:=.cells cs) (by simpa using oe w cs.toArray el);have h1:¬(16777216<n*sz):=by omega
 have h2:¬(n*sz=0):=by omega
 have hr:(Instr.buildSlice t n ((parts.toArray.map fun(x:Nat×Operand)=>(x.1,ρ x.2)))).run P w=.ok (.slice (some ⟨w.heap.size,0,none⟩) n n) (w.alloc (.cells cs.toArray el)):=by
  have hf':Instr.fill (fun i=>some (i*sz,sz)) ((Array.range (n*sz)).map (z.cells[·%z.cells.size]!)) ((parts.toArray.map fun(x:Nat×Operand)=>(x.1,ρ x.2))).toList=some cs.toArray:=by
   simpa using hf
  simp only[Instr.buildSlice,Sem.run_bind,run_underlying hu,Result.andThen_ok,sizeOf,typeInfo,run_program,hi,Sem.run_pure,hs];simp only[gt_iff_lt,show(2:Nat)^24=16777216 from rfl,h1,if_false,h2,zeroValue,typeInfo,Sem.run_bind,run_program,Result.andThen_ok,hi,Sem.run_pure,hzz,hf',newRow,run_newObj];rfl
 simp only[aF,cZ,execOp];simp only[Sem.run_bind,hr,Result.andThen_ok,Sem.run_pure,upon];exact h _ _ hal.1 hal.2
end
open Go Go.RowKit
section
variable {P:Program} {ty:TypeId} {ρ:Operand->Value} {w:World} {R:Value->World->Prop} {X B:List (Option Nat)} {w0:World} {O:List (Option Nat)} {C:List cW}
def Src(w:World)(x:Value)(m sz:Nat)(news:List Value):Prop:= news.length=m*sz/\(((∃oa,x=.slice oa 0 0)/\m=0)\/∃b o cap,x=.slice (some ⟨b,o,none⟩) m cap/\∀j u,news[j]?=some u->w.cell? ⟨b,o+j,none⟩=some u)
theorem Sz{t el:TypeId}{inf:TypeInfo}{z:Value}{sz:Nat}(hu:P.underlying t=some (.slice el))(hi:P.info? el=some inf)(hs:inf.size=sz)(hz:inf.zero=some z)(hzc:z.cells.size=sz)
    {i:Nat}{ob:Option Nat}{n cap m:Nat}{xs sp news:List Value}{x:Value}(hL:Loc X B w0 w O C)(hO:O[i]?=some ob)(hC:C[i]?=some (.cells (xs++sp)))(hn:xs.length=n*sz)(hcap:(xs++sp).length=cap*sz)(hsz:0<sz)
    (hsrc:Src w x m sz news)(h1:fb news=true)(h63:n+m<=9223372036854775807)(hb:(n+m)*inf.bytes<=140737488355328)(ty:TypeId):
    ∃ob' cap' sp' w',(Builtin.append_ #[t,t] ty #[sv ob n cap,x]).run P w=.ok (sv ob' (n+m) cap') w'/\((xs++news)++sp').length=cap'*sz/\
      Loc X B w0 w' (O.set i ob') (C.set i (.cells ((xs++news)++sp')))/\Step O (O.set i ob') w w':=by
  subst hs;have hi':i<O.length:=by
    rcases cw i O.length with h|h
    . exact h
    . rw[fQ h]at hO;cases hO
  obtain⟨hnl,hsrc⟩:=hsrc;have hset:O.set i ob=O:=by
    apply pL;intro j;by_cases hj:j=i
    . subst hj;rw[yv hi',hO]
    . rw[vO (Ne.symm hj)]
  have hcset:∀c,C[i]?=some c->C.set i c=C:=by
    intro c hc;apply pL;intro j;by_cases hj:j=i
    . subst hj;have:j<C.length:=by
        rcases cw j C.length with h|h
        . exact h
        . rw[fQ h]at hc;cases hc
      rw[yv this,hc]
    . rw[vO (Ne.symm hj)]
  have hle:n<=cap:=by
    have:n*inf.size<=cap*inf.size:=by rw[<-hn,<-hcap];simp
    exact F7 this hsz
  by_cases hm:m=0
  . 
    subst hm;have hnew:news=[]:=B3 (by simpa using hnl);subst hnew;refine⟨ob,cap,sp,w,?_,by simpa using hcap,by rw[hset,lK,hcset _ hC];exact hL,by rw[hset];exact Step.refl⟩;have hx:(Builtin.lenOf x).run P w=.ok 0 w/\(Builtin.firstCells inf.size 0 x).run P w=.ok #[] w:=by
      rcases hsrc with⟨⟨oa,rfl⟩,_⟩|⟨b,o,c,rfl,_⟩
      . cases oa<;>exact⟨rfl,by simp[Builtin.firstCells,loadCells,loadCellsFrom]⟩
      . exact⟨rfl,by simp[Builtin.firstCells,loadCells,loadCellsFrom]⟩
    cases ob with
    |none=>
      have hz0:xs++sp=[]:=hL.at i hO hC;have h0:cap=0:=by
        rw[hz0]at hcap;have h2:cap*inf.size=0:=by simpa using hcap.symm
        rcases Nat.mul_eq_zero.1 h2 with h3|h3
        . exact h3
        . omega
      have hn0:n=0:=by omega
      subst h0;subst hn0;rcases hsrc with⟨⟨oa,rfl⟩,_⟩|⟨b,o,c,rfl,_⟩
      . cases oa<;>simp[sv,Builtin.append_,run_underlying hu,sizeOf,typeInfo,hi,Builtin.lenOf,Builtin.firstCells,loadCells,loadCellsFrom]
      . simp[sv,Builtin.append_,run_underlying hu,sizeOf,typeInfo,hi,Builtin.lenOf,Builtin.firstCells,loadCells,loadCellsFrom]
    |some b=>
      rcases hsrc with⟨⟨oa,rfl⟩,_⟩|⟨b2,o,c,rfl,_⟩
      . cases oa<;>simp[sv,Builtin.append_,run_underlying hu,sizeOf,typeInfo,hi,Builtin.lenOf,Builtin.firstCells,loadCells,loadCellsFrom,hle,storeCells]
      . simp[sv,Builtin.append_,run_underlying hu,sizeOf,typeInfo,hi,Builtin.lenOf,Builtin.firstCells,loadCells,loadCellsFrom,hle,storeCells]
  . obtain⟨b2,o2,c2,rfl,hcell⟩:∃b o cap,x=.slice (some ⟨b,o,none⟩) m cap/\∀j u,news[j]?=some u->w.cell? ⟨b,o+j,none⟩=some u:=by
      rcases hsrc with⟨_,h⟩|h
      . exact absurd h hm
      . exact h
    have hnews:∀j u,news[j]?=some u->w.cell? ((⟨b2,o2,none⟩:Addr).add j)=some u:=fun j u hj=>by rw[add_plain];exact hcell j u hj
    have grown:∀old,old<n+m->∀(wd:World),wd=w.drew.alloc (.cells (xs.toArray++news.toArray++Builtin.zeroCells z.cells (grownCap w (n+m) old el-(n+m))) el)->
        ((xs++news)++(Builtin.zeroCells z.cells (grownCap w (n+m) old el-(n+m))).toList).length=grownCap w (n+m) old el*inf.size/\
        Loc X B w0 wd (O.set i (some w.heap.size)) (C.set i (.cells ((xs++news)++(Builtin.zeroCells z.cells (grownCap w (n+m) old el-(n+m))).toList)))/\Step O (O.set i (some w.heap.size)) w wd:=by
      intro old ho wd hwd;subst hwd;have hge:=grownCap_ge w (n+m) old el;refine⟨?_,?_⟩
      . simp only[dd,Array.length_toList,size_zeroCells,hzc,hn,hnl,<-gL];congr 1;omega
      . refine hL.swap i hi' ⟨rfl,rfl,rfl,by simp,fun k hk=>Below.heap_alloc w.drew _ k hk⟩ (bK _) ?_;have:=oe w.drew (xs.toArray++news.toArray++Builtin.zeroCells z.cells (grownCap w (n+m) old el-(n+m))) el;simpa using this
    cases ob with
    |none=>
      have hz0:xs++sp=[]:=hL.at i hO hC;have hx0:xs=[]:=(F8.1 hz0).1;have hn0:n=0:=by
        subst hx0;rcases Nat.mul_eq_zero.1 (show n*inf.size=0 by simpa using hn.symm)with h3|h3
        . exact h3
        . omega
      subst hx0;subst hn0;have hr:=run_append_nil (P:=P) w t ty el inf z hu hi hz ⟨b2,o2,none⟩ m c2 news hnl hnews (by omega) (by omega) (by have:=hb;simp only[eK]at this;omega);have hg:=grown 0 (by omega) _ rfl;simp only[eK,jf]at hg hr⊢;refine⟨some w.heap.size,grownCap w m 0 el,_,_,hr,hg.1,?_,?_⟩
      . have:=hg.2.1;simpa using this
      . have:=hg.2.2;simpa using this
    |some g=>
      obtain⟨tt,lo,hh,g1,g0,g2⟩:=hL.at i hO hC;by_cases hroom:n+m<=cap
      . have hfit:n*inf.size+news.length<=(xs++sp).length:=by rw[hnl,hcap,<-gL];exact pN _ hroom
        obtain⟨w',r1,r2,r3,r4,r5,r6,r7⟩:=zO (P:=P) news 0 (n*inf.size) (xs++sp) w g1 g2 (by simpa using hfit) (Ds h1);have hput:putAt (xs++sp) (n*inf.size) news=(xs++news)++sp.drop news.length:=by
          rw[<-hn];exact DX xs sp news (by rw[dd]at hfit;omega)
        have hp:=hL.put (w':=w') i hO (c':=.cells ((xs++news)++sp.drop news.length)) ⟨tt,lo,hh,by rw[r2,pO,hput],g0,fun j hj=>g2 j (by rw[dd]at hfit;simp at hj⊢;omega)⟩ r3 r4 r5 r6 r7;have hf:=run_firstCells_some (P:=P) w inf.size m ⟨b2,o2,none⟩ m c2 news hnl hnews;refine⟨some g,cap,sp.drop news.length,w',?_,?_,by rw[hset];exact hp.1,by rw[hset];exact hp.2⟩
        . simp only[sv];simp[Builtin.append_,run_underlying hu,sizeOf,typeInfo,hi,Builtin.lenOf,hroom,hf,add_plain,r1]
        . rw[dd]at hfit;rw[<-hcap];simp;omega
      . have holds:∀j u,xs[j]?=some u->w.cell? ((⟨g,0,none⟩:Addr).add j)=some u:=by
          intro j u hj;rw[add_plain,eK];refine sM (hL.at i hO hC) ?_;rw[jZ,hj];rcases cw j xs.length with h|h
          . exact h
          . rw[fQ h]at hj;cases hj
        have hr:=run_append_grow (P:=P) w t ty el inf z hu hi hz ⟨g,0,none⟩ n cap xs hn holds ⟨b2,o2,none⟩ m c2 news hnl hnews (by omega) (by omega) (growslice_fits (by omega) hb);have hg:=grown cap (by omega) _ rfl;exact⟨some w.heap.size,grownCap w (n+m) cap el,_,_,hr,hg.1,hg.2.1,hg.2.2⟩
theorem aF.append{t el:TypeId}{a c:Operand}{sz by' n cap m i:Nat}{z x:Value}{ob:Option Nat}{xs sp news:List Value}(hu:P.underlying t=some (.slice el))(ti:TI P el sz by' z)(hzc:z.cells.size=sz)(hsz:0<sz)
 (ha:ρ a=sv ob n cap)(hc:ρ c=x)(hL:Loc X B w0 w O C)(hO:O[i]?=some ob)(hC:C[i]?=some (.cells (xs++sp)))(hn:xs.length=n*sz)(hcap:(xs++sp).length=cap*sz)(hsrc:Src w x m sz news)(h1:fb news=true)
 (h63:n+m<=9223372036854775807)(hb:(n+m)*by'<=140737488355328)
 (h:∀ob' cap' sp' w',((xs++news)++sp').length=cap'*sz->Loc X B w0 w' (O.set i ob') (C.set i (.cells ((xs++news)++sp')))->Step O (O.set i ob') w w'->R (sv ob' (n+m) cap') w'):
 aF P (.call {callee:=.builtin .append,args:=#[a,c],argTypes:=#[t,t]}) ty ρ w R:=by
 obtain⟨inf,hi,hs,hby,hz⟩:=ti;subst hby;obtain⟨ob',cap',sp',w',r1,r2,r3,r4⟩:=Sz (P:=P) hu hi hs hz hzc hL hO hC hn hcap hsz hsrc h1 h63 hb ty;simp only[aF,cZ,execOp,resolve,invoke,builtin];simp[ha,hc,r1,upon];exact h _ _ _ _ r2 r3 r4
theorem yW{t el:TypeId}{inf:TypeInfo}(hu:P.underlying t=some (.slice el))(hi:P.info? el=some inf)(a:Option Addr)(len cap l h:Nat)(lo hi':Option Value)(hlo:(lo=none/\l=0)\/∃k,lo=some (.int k ((l:Nat):Int)))(hhi:(hi'=none/\h=len)\/∃k,hi'=some (.int k ((h:Nat):Int)))(h1:l<=h)(h2:h<=cap):
 (Instr.sliceAt t (.slice a len cap) lo hi' none).run P w=.ok (.slice (if cap=l then a else a.map (·.add (l*inf.size))) (h-l) (cap-l)) w:=by
 have g1:(l:Int)<=(h:Int):=by omega
 have g2:(h:Int)<=(cap:Int):=by omega
 have b1:∀k,(Instr.sliceBound (.int k ((h:Nat):Int)) cap .sliceAcap).run P w=.ok h w:=by
  intro k;simp[Instr.sliceBound,asIntOf,g2,h2]
 have b2:∀k,(Instr.sliceBound (.int k ((l:Nat):Int)) h .sliceB).run P w=.ok l w:=by
  intro k;simp[Instr.sliceBound,asIntOf,g1,h1]
 rcases hlo with⟨rfl,rfl⟩|⟨k,rfl⟩<;>rcases hhi with⟨rfl,rfl⟩|⟨k',rfl⟩<;>
  simp[Instr.sliceAt,Instr.slice,run_underlying hu,Instr.sliceBounds,b1,b2,sizeOf,typeInfo,hi]
theorem Sl.cut{α:Type}{sz:Nat}{Rr:Hp->List Value->α->Prop}{H:Hp}{a:Option Addr}{len cap l h:Nat}{xs:List α}(hS:Sl sz Rr H (.slice a len cap) xs)(h1:l<=h)(h2:h<=xs.length):
 len=xs.length/\h<=cap/\Sl sz Rr H (.slice (if cap=l then a else a.map (·.add (l*sz))) (h-l) (cap-l)) ((xs.take h).drop l):=by
 rcases hS with⟨⟨oa,hv⟩,hx⟩|⟨b,o,cap',hv,hc,hxs⟩
 . cases hv;subst hx;have:h=0:=by simpa using h2
   subst this;have:l=0:=by omega
   subst this;exact⟨rfl,bK _,.inl ⟨⟨a,by simp⟩,by simp⟩⟩
 . cases hv;refine⟨rfl,by omega,?_⟩;have hlen:((xs.take h).drop l).length=h-l:=by simp;omega
   by_cases hcl:cap=l
   . have:h=l:=by omega
     subst this;have hnil:(xs.take h).drop h=[]:=B3 (by rw[hlen];omega);rw[if_pos hcl,hnil,vN];refine .inr ⟨b,o,cap-h,rfl,by simp,fun i x hi=>by simp at hi⟩
   . rw[if_neg hcl];refine .inr ⟨b,o+l*sz,cap-l,?_,by rw[hlen];omega,fun i x hi=>?_⟩
     . rw[hlen];simp[add_plain]
     . have hi2:xs[l+i]?=some x:=by
        rw[te,vM]at hi;split at hi
        . exact hi
        . cases hi
       obtain⟨vs,g1,g2,g3⟩:=hxs (l+i) x hi2;refine⟨vs,g1,?_,g3⟩;rw[pK,<-gL];exact g2
theorem aF.RU{t el:TypeId}{x:Operand}{lo hi:Option Operand}{sz by' l h b o len cap:Nat}{z:Value}(hu:P.underlying t=some (.slice el))(ti:TI P el sz by' z)
    (hx:ρ x=.slice (some ⟨b,o,none⟩) len cap)(hlo:(lo=none/\l=0)\/∃k y,lo=some y/\ρ y=.int k ((l:Nat):Int))(hhi:(hi=none/\h=len)\/∃k y,hi=some y/\ρ y=.int k ((h:Nat):Int))(h1:l<=h)(h2:h<=cap)(hlt:l<cap)
    (hk:R (.slice (some ⟨b,o+l*sz,none⟩) (h-l) (cap-l)) w):aF P (.slice t x lo hi none) ty ρ w R:=by
  obtain⟨inf,hi',hs,_,_⟩:=ti;subst hs;have hr:=yW (P:=P) (w:=w) hu hi' (some ⟨b,o,none⟩) len cap l h (lo.map ρ) (hi.map ρ)
    (by rcases hlo with⟨rfl,rfl⟩|⟨k,y,rfl,hy⟩
        . exact .inl ⟨rfl,rfl⟩
        . exact .inr ⟨k,by simp[hy]⟩)
    (by rcases hhi with⟨rfl,rfl⟩|⟨k,y,rfl,hy⟩
        . exact .inl ⟨rfl,rfl⟩
        . exact .inr ⟨k,by simp[hy]⟩) h1 h2
  have hne:¬cap=l:=by omega
  simp only[aF,cZ,execOp,hx];simp only[F9,Sem.run_bind,hr,Result.andThen_ok,Sem.run_pure,upon,if_neg hne,ov,add_plain];exact hk
def isNil:Value->Bool
 |.slice none _ _=>true
 |_=>false
theorem R0(d:Nat){t el:TypeId}(hu:P.underlying t=some (.slice el))(a:Option Addr)(n c:Nat):(Op.equalIn (d+1) t (.slice a n c) (.slice none 0 0)).run P w=.ok a.isNone w:=by
 cases a<;>simp[Op.equalIn,run_underlying hu]
theorem aF.NF{t u el:TypeId}{a b:Operand}{v:Value}(hu:P.underlying t=some (.slice el))(ha:ρ a=v)(hv:∃p n c,v=.slice p n c)(hb:ρ b=.slice none 0 0)(h:R (.bool (isNil v)) w):aF P (.binOp .eql t a b u) ty ρ w R:=by
 obtain⟨p,n,c,rfl⟩:=hv;have hr:(Op.equal t (.slice p n c) (.slice none 0 0)).run P w=.ok p.isNone w:=R0 9999 hu p n c;simp only[aF,cZ,execOp,ha,hb];simp only[binOp,eqGuard];simp[hr,upon];cases p<;>exact h
theorem Sl.isSlice{α:Type}{sz:Nat}{Rr:Hp->List Value->α->Prop}{H:Hp}{v:Value}{xs:List α}(hS:Sl sz Rr H v xs):∃p n c,v=.slice p n c:=by
 rcases hS with⟨⟨oa,h⟩,_⟩|⟨b,o,c,h,_⟩<;>exact⟨_,_,_,h⟩
theorem Sl.PR{α:Type}{sz:Nat}{Rr:Hp->List Value->α->Prop}{H:Hp}{v:Value}{xs:List α}(hS:Sl sz Rr H v xs)(h:isNil v=true):xs=[]/\v=.slice none 0 0:=by
 rcases hS with⟨h1,h2⟩|⟨b,o,c,h1,_⟩
 . obtain⟨oa,h1⟩:=h1;cases oa with
   |none=>exact⟨h2,h1⟩
   |some a=>subst h1;simp[isNil]at h
 . subst h1;simp[isNil]at h
def str(xs:List Nat):ByteArray:=⟨(xs.map UInt8.ofNat).toArray⟩
def Se(xs:List Nat):Prop:=∀x∈xs,x<256
theorem toList_loop_eq(s:ByteArray):s.toList=s.data.toList:=by
 have hsz:s.size=s.data.toList.length:=rfl;have key:∀(n i:Nat) (r:List UInt8),s.size-i=n->ByteArray.toList.loop s i r=r.reverse++s.data.toList.drop i:=by
  intro n
  induction n with
  |zero=>
   intro i r h;unfold ByteArray.toList.loop;rw[if_neg (by omega),yw (by rw[<-hsz];omega)];simp
  |succ n ih=>
   intro i r h;unfold ByteArray.toList.loop;rw[if_pos (by omega),ih (i+1) _ (by omega)];have hi:i<s.data.toList.length:=by rw[<-hsz];omega
   rw[fD hi];have:s.get! i=s.data.toList[i]:=by
    simp only[ByteArray.get!];simp[Array.getElem!_eq_getD];rw[F6 (by simpa using hi)];rfl
   simp[this]
 have:=key s.size 0 [] (by simp);simpa[ByteArray.toList]using this
theorem ofNat_inj{a b:Nat}(ha:a<256)(hb:b<256)(h:UInt8.ofNat a=UInt8.ofNat b):a=b:=by
 have:=congrArg UInt8.toNat h;simp[UInt8.toNat_ofNat']at this;omega
end
open Go Go.RowKit
theorem QI{w:World}{b:Nat}{vs:List Value}(h:dC w (some b) (.cells vs)){o:Nat}(ho:o=0):∀j v,vs[j]?=some v->w.cell? ((⟨b,o,none⟩:Addr).add j)=some v:=by
 intro j v hj;subst ho;rw[add_plain,eK];exact sM h hj
open Go Go.RowKit
inductive Ph where
 |det (c:Value)
 |rel (Φ:Value->World->Prop)
def Ph.holds:Ph->Value->World->Prop
 |.det c,v,_=>v=c
 |.rel Φ,v,w=>Φ v w
def eX(o:Oper):List Nat:=(o.after.toList.filter (Region.binds .any ·)).map (·.on)
def kH(P:Program)(l:List Oper)(o:Oper)(e:Env)(w:World)(R:Value->World->Prop):Prop:= match iE l o e with
 |true=>aF P o.op o.type (ev e) w R
 |false=>R undef w
def eM(l:List Oper)(o:Oper):List Nat:=(o.op.operands.toList.filterMap fun|.tmp t=>some t|_=>none)++(match o.guard with|some (g,_)=>(mg l g).toList|none=>[])
def J9:Op->Bool
 |.select _ _=>true
 |_=>false
def lookOk(l:List Oper)(n0 i:Nat)(o:Oper):Bool:=(eM l o).all fun t=>(List.range n0).all fun j=>!(mg l j==some t)||(cr j (eX o)&&Nat.blt j i)||(Nat.blt i j&&match l[j]?with
  |some o'=>cr i (eX o')
  |none=>false)
def sZ(l:List Oper):Bool:=(List.range l.length).all fun i=>match l[i]?with
 |some o=>(eX o).all fun j=>Nat.blt j i
 |none=>true
theorem ja{i:Nat}{l:List Nat}:cr i l=true↔i∈l:=by
 induction l with
 |nil=>simp[cr]
 |cons x r ih=>
  simp only[cr,vP,ih,eb];constructor
  . rintro(h|h)
    . exact .inl (dI h)
    . exact .inr h
  . rintro(h|h)
    . exact .inl (by subst h;exact qR i)
    . exact .inr h
section
variable {P:Program} {l:List Oper} {n n0:Nat} {K:Env->World->Prop} {e:Env} {w0:World}
def fits(Φs:List Ph)(vs:Nat->Value):Prop:=∀(i:Nat) c,Φs[i]?=some (Ph.det c)->vs i=c
def eT(listed:Array Bool)(j:Nat):Prop:=listed.getD j false=true
structure Inv (l:List Oper)(n n0:Nat)(e:Env)(w0:World)(Φs:List Ph)(listed:Array Bool)(a:Act)(w:World)(vs:Nat->Value):Prop where
 size:listed.size=l.length
 tmps:a.tmps.size=n
 defs:a.defers=[]
 ext:Ext w0 w
 fit:fits Φs vs
 env1:∀t j,j<n0->mg l j=some t->eT listed j->cN a t=vs j
 env2:∀t,(∀j,j<n0->eT listed j->mg l j≠some t)->cN a t=e t
 holds:∀j ph,j<n0->eT listed j->Φs[j]?=some ph->ph.holds (vs j) w
theorem Qz{listed:Array Bool}{i j:Nat}:eT (listed.setIfInBounds i true) j->eT listed j\/(j=i):=by
 intro h;by_cases hj:i=j
 . exact .inr hj.symm
 . left;unfold eT at*;rwa[getD_set_ne false hj]at h
theorem Qa{Q:Exit->Act->World->Prop}{i:Nat}{o:Oper}{a:Act}{w:World}{R:Value->World->Prop}{K':Act->World->Prop}(hd:∀o,o∈l->∀d,o.dst=some d->d<a.tmps.size)(ho:l[i]?=some o)
 (h:kH P l o (cN a) w R)(hk:∀v w',R v w'->K' (a.put o.dst v) w'):wpOp P l.toArray Q i K' a w:=by
 unfold wpOp;rw[vL,ho];simp only[Ez hd o];unfold kH at h;cases hw:iE l o (cN a)with
 |true=>rw[hw]at h;simp only[if_true];exact .inl (G6 h hk)
 |false=>rw[hw]at h;simp only[ml,if_false];exact hk _ _ h
theorem zu(h:sZ l=true){i j:Nat}{o:Oper}(ho:l[i]?=some o)(hj:j∈eX o):j<i:=by
 have hi:i<l.length:=by
  rcases cw i l.length with h2|h2
  . exact h2
  . rw[fQ h2]at ho;cases ho
 have:=tg.1 h i (th.2 hi);rw[ho]at this;simpa using tg.1 this j hj
theorem T0{listed:Array Bool}{i:Nat}{o:Oper}(h:i∈Region.ready .any l.toArray listed)(ho:l[i]?=some o):listed.getD i true=false/\∀j∈eX o,eT listed j:=by
 obtain⟨h1,o',ho',h2⟩:=mem_ready.1 h;rw[vL,ho]at ho';cases ho';refine⟨h1,fun j hj=>?_⟩;simp only[eX,dz,Ga]at hj;obtain⟨e,⟨he,hb⟩,rfl⟩:=hj;exact h2 e (by simpa using he) hb
theorem Nr{listed:Array Bool}{i:Nat}{o:Oper}(ho:l[i]?=some o)(h1:listed.getD i true=false)(h2:∀j∈eX o,eT listed j):i∈Region.ready .any l.toArray listed:=by
 refine mem_ready.2 ⟨h1,o,by rw[vL];exact ho,fun e he hb=>h2 e.on ?_⟩;simp only[eX,dz,Ga];exact⟨e,⟨by simpa using he,hb⟩,rfl⟩
theorem filter_lt{p p':Nat->Bool}:∀{xs:List Nat},(∀x∈xs,p' x=true->p x=true)->(∃x∈xs,p x=true/\p' x=false)->(xs.filter p').length<(xs.filter p).length
 |[],_,h=>by obtain⟨x,hx,_⟩:=h;cases hx
 |y::r,hs,h=>by
  have hle:(r.filter p').length<=(r.filter p).length:=by
   have:∀{zs:List Nat},(∀x∈zs,p' x=true->p x=true)->(zs.filter p').length<=(zs.filter p).length:=by
    intro zs
    induction zs with
    |nil=>intro _;simp
    |cons z zs ih=>
     intro hz;have h1:=ih (fun x hx=>hz x (cJ _ hx));have h2:=hz z cO;cases h3:p' z with
     |true=>simp[h3,h2 h3];omega
     |false=>
      cases h4:p z<;>simp[h3,h4]<;>omega
   exact this (fun x hx=>hs x (cJ _ hx))
  obtain⟨x,hx,h1,h2⟩:=h;cases hx with
  |head=>simp[h1,h2];omega
  |tail _ hm=>
   have ih:=filter_lt (xs:=r) (fun x hx=>hs x (cJ _ hx)) ⟨x,hm,h1,h2⟩;have h3:=hs y cO;cases h4:p' y with
   |true=>simp[h4,h3 h4];omega
   |false=>cases h5:p y<;>simp[h4,h5]<;>omega
def ia(l:List Oper)(listed:Array Bool):Nat:=((List.range l.length).filter fun j=>!(listed.getD j true)).length
theorem Un{listed:Array Bool}{i:Nat}(hs:listed.size=l.length)(hi:i<l.length)(hu:listed.getD i true=false):ia l (listed.setIfInBounds i true)<ia l listed:=by
 refine filter_lt (fun x _ h=>?_) ⟨i,th.2 hi,by simp only[hu,Bool.not_false],?_⟩
 . by_cases hx:i=x
   . subst hx;simp only[hu,Bool.not_false]
   . rwa[getD_set_ne true hx]at h
 . have:i<listed.size:=by omega
   simp[this]
theorem Oo{listed:Array Bool}(h:ia l listed=0){j:Nat}(hj:j<l.length):listed.getD j true=true:=by
 have:=B3 h;have h2:=List.filter_eq_nil_iff.1 this j (th.2 hj);simpa using h2
end
open Go Go.RowKit
theorem Fa:∀(cs A:List Value) (off k:Nat),(cs.zipIdx k).foldl (fun(a:Array Value) p=>a.setIfInBounds (off+p.2) p.1) A.toArray=(putAt A (off+k) cs).toArray
 |[],A,off,k=>rfl
 |v::r,A,off,k=>by
  simp only[List.zipIdx_cons,List.foldl_cons,putAt,List.setIfInBounds_toArray];rw[Fa r (A.set (off+k) v) off (k+1),pK]
def lY:Nat->List Value->List (Nat×Value)
 |_,[]=>[]
 |k,v::r=>(k,v)::lY (k+1) r
def rv(sz:Nat):List Value->List (List Value)->Prop
 |[],[]=>True
 |v::r,c::cs=>v.cells=c.toArray/\c.length=sz/\rv sz r cs
 |_,_=>False
theorem F0{sz:Nat}:∀(vs:List Value) (css:List (List Value)) (k:Nat) (pre post:List Value),pre.length=k*sz->post.length=vs.length*sz->rv sz vs css->
 Instr.fill (fun i=>some (i*sz,sz)) (pre++post).toArray (lY k vs)=some (pre++css.flatten).toArray
 |[],[],k,pre,post,h1,h2,_=>by
  have:post=[]:=B3 (by simpa using h2);subst this;simp[lY,Instr.fill]
 |v::r,c::cs,k,pre,post,h1,h2,h3=>by
  obtain⟨g1,g2,g3⟩:=h3;have hl:sz<=post.length:=by rw[h2,cv,gL];omega
  have hf:=Fa c (pre++post) (k*sz) 0;rw[pO]at hf;have hp:putAt (pre++post) (k*sz) c=(pre++c)++post.drop sz:=by
   rw[<-h1,DX pre post c (by omega),g2]
  have ih:=F0 r cs (k+1) (pre++c) (post.drop sz) (by simp[h1,g2,gL]) (by simp[h2,gL]) g3;simp only[lY,Instr.fill];have h5:¬(v.cells.size≠sz\/(pre++post).toArray.size<k*sz+v.cells.size):=by
   rw[g1];simp[g2,h1];omega
  rw[if_neg (by simpa using h5)];have h6:v.cells.zipIdx.foldl (fun(cs:Array Value) (x:Value×Nat)=>cs.setIfInBounds (k*sz+x.2) x.1) (pre++post).toArray=((pre++c)++post.drop sz).toArray:=by
   rw[g1,<-hp,<-hf];rw[<-Array.foldl_toList];simp
  rw[h6,ih];simp
 |[],_::_,_,_,_,_,_,h=>h.elim
 |_::_,[],_,_,_,_,_,h=>h.elim
section
variable {P:Program} {ty:TypeId} {ρ:Operand->Value} {w:World} {R:Value->World->Prop} {X B:List (Option Nat)} {w0:World} {O:List (Option Nat)} {C:List cW}
theorem aF.Ue{t el:TypeId}{n:Nat}{parts:List (Nat×Operand)}{sz by':Nat}{z:Value}{vs:List Value}{css:List (List Value)}(hu:P.underlying t=some (.slice el))(ti:TI P el sz by' z)(hn:n*sz<=16777216)
 (hp:(parts.map fun p=>(p.1,ρ p.2))=lY 0 vs)(hvs:vs.length=n)(hc:rv sz vs css)(h0:0<n*sz)(hL:Loc X B w0 w O C)
 (h:∀b w',Loc X B w0 w' (some b::O) (.cells css.flatten::C)->Step O (some b::O) w w'->R (.slice (some ⟨b,0,none⟩) n n) w'):aF P (.buildSlice t n parts.toArray) ty ρ w R:=by
 refine aF.buildSlice hu ti hn ?_ h0 hL h;have:=F0 (sz:=sz) vs css 0 [] ((Array.range (n*sz)).map (z.cells[·%z.cells.size]!)).toList (by simp) (by simp[hvs]) hc;rw[hp];rw[jf,jf,tj]at this;exact this
theorem aF.FN{t el:TypeId}{x y:Operand}{b o n i q:Nat}{k:IntKind}{sz by':Nat}{z:Value}(hu:P.underlying t=some (.array n el))(ti:TI P el sz by' z)(hx:ρ x=.pointer (some ⟨b,o,none⟩))(hy:ρ y=.int k ((i:Nat):Int))(hlt:i<n)(hq:o+i*sz=q)
 (h:R (.pointer (some ⟨b,q,none⟩)) w):aF P (.indexAddr t x y) ty ρ w R:=by
 obtain⟨inf,hi,hz,_,_⟩:=ti;subst hq;have h2:(i:Int)<n:=by omega
 simp only[aF,cZ,execOp,hx,hy];simp[Instr.indexAt,Instr.sureAddr,run_underlying hu,asIntOf,h2,hlt,sizeOf,typeInfo,hi,hz,upon,add_plain];exact h
end
section
variable {P:Program} {ty:TypeId} {ρ:Operand->Value} {w:World} {R:Value->World->Prop} {X B:List (Option Nat)} {w0:World} {O:List (Option Nat)} {C:List cW}
theorem E7{α:Type}{C:List α}{i:Nat}{c:α}(h:C[i]?=some c):C.set i c=C:=by
 refine pL fun j=>?_;rw[qS];by_cases e:i=j
 . subst e;rw[if_pos rfl,h,if_pos];exact(dS.1 h).1
 . rw[if_neg e]
end
instance (xs:List Nat):Decidable (Se xs):=inferInstanceAs (Decidable (∀x∈xs,x<256))
open Go Go.RowKit
inductive aK (σ ρ:Type)where
 |next (s:σ)
 |done (r:ρ)
def bI{σ ρ:Type}(body:σ->Option (aK σ ρ)):Nat->σ->Option ρ
 |0,_=>none
 |n+1,s=>match body s with
  |none=>none
  |some (.next s')=>bI body n s'
  |some (.done r)=>some r
theorem bind_some{α β:Type}{a:Option α}{f:α->Option β}{r:β}(h:a.bind f=some r):∃x,a=some x/\f x=some r:=by
 cases a with
 |none=>cases h
 |some x=>exact⟨x,rfl,h⟩
theorem KH{σ ρ:Type}{body:σ->Option (aK σ ρ)}{n:Nat}{s s':σ}(h:body s=some (.next s')):bI body (n+1) s=bI body n s':=by simp[bI,h]
theorem xt{σ ρ:Type}{body:σ->Option (aK σ ρ)}{n:Nat}{s:σ}{r:ρ}(h:body s=some (.done r)):bI body (n+1) s=some r:=by simp[bI,h]
section
variable {P:Program} {n:Nat} {k:List It} {Q:Env->World->Prop} {e:Env} {w:World}
theorem cx.bI{c:Code}{σ ρ:Type}{body:σ->Option (aK σ ρ)}{N:Nat}{s0:σ}{r:ρ}(hh:bI body N s0=some r)(I:σ->Env->World->Prop)(h0:I s0 e w)
 (round:∀(s:σ) (o:aK σ ρ) (e':Env) (w':World),I s e' w'->body s=some o->(∀r',o=.done r'->r'=r)->
  cx P n (.code c::.back (fun e'' w''=>∃s',o=.next s'/\I s' e'' w'')::k) Q e' w'):
 cx P n (.code (.loop c)::k) Q e w:=by
 intro a h1 h2 h3;refine wp_loop_ghost (σ:=Nat×σ) (I:=fun s a w=>a.tmps.size=n/\a.defers=[]/\X.bI body s.1 s.2=some r/\I s.2 (cN a) w) (fun s=>s.1) (s0:=(N,s0)) ⟨h1,h2,hh,h3▸h0⟩ ?_;rintro⟨m,s⟩ a w ⟨g1,g2,g3,g4⟩;cases m with
 |zero=>simp[X.bI]at g3
 |succ m=>
  simp only[X.bI]at g3;cases hb:body s with
  |none=>rw[hb]at g3;cases g3
  |some o=>
   have hr:=round s o (cN a) w g4 hb (by
    rintro r' rfl;rw[hb]at g3;exact iR g3)
   refine wp_mono (hr a g1 g2 rfl) ?_;rintro x a' w' ⟨r1,r2,r3⟩;cases x with
   |normal=>
    obtain⟨s',rfl,q2⟩:=r3;rw[hb]at g3;exact⟨(m,s'),⟨r1,r2,g3,q2⟩,MJ m⟩
   |_=>exact⟨r1,r2,r3⟩
theorem OO{J:Env->World->Prop}:∀{x:Exit} {e w},(∀e w,J e w->cx P n k Q e w)->jt P n (.back J::k) Q x e w->jt P n k Q x e w:=by
 intro x e w hJ h;cases x<;>first|exact hJ _ _ h|exact h
theorem cx.join{c:Code}(J:Env->World->Prop)(h:cx P n (.code c::.back J::k) Q e w)(hJ:∀e w,J e w->cx P n k Q e w):cx P n (.code c::k) Q e w:=by
 intro a h1 h2 h3;refine wp_mono (h a h1 h2 h3) ?_;rintro x a' w' ⟨g1,g2,g3⟩;exact⟨g1,g2,OO hJ g3⟩
end
def idx{α:Type}(xs:List α)(i:Int):Option α:=if i<0 then none else xs[i.toNat]?
theorem rj{α:Type}{xs:List α}{i:Int}{x:α}(h:idx xs i=some x):∃n:Nat,i=(n:Int)/\xs[n]?=some x:=by
 unfold idx at h;split at h
 . cases h
 . exact⟨i.toNat,by omega,h⟩
theorem DU{α:Type}{xs:List α}{i:Nat}:idx xs (i:Int)=xs[i]?:=by simp[idx];intro h;omega
theorem O3{α:Type}{xs:List α}{i:Nat}(h:i<xs.length):idx xs (i:Int)=some xs[i]:=by rw[DU,bV h]
def dw{α:Type}(xs:List α)(i:Int)(y:α):Option (List α):=if i<0\/(xs.length:Int)<=i then none else some (xs.set i.toNat y)
theorem DC{α:Type}{xs ys:List α}{i:Int}{y:α}(h:dw xs i y=some ys):∃n:Nat,i=(n:Int)/\n<xs.length/\ys=xs.set n y:=by
 unfold dw at h;split at h
 . cases h
 . exact⟨i.toNat,by omega,by omega,(iR h).symm⟩
def inr{α:Type}(xs:List α)(i:Int):Option Unit:=if i<0\/(xs.length:Int)<=i then none else some ()
def cut{α:Type}(xs:List α)(l h:Int):Option (List α):=if l<0\/h<l\/(xs.length:Int)<h then none else some ((xs.take h.toNat).drop l.toNat)
theorem LD{α:Type}{xs ys:List α}{l h:Int}(hc:cut xs l h=some ys):∃m n:Nat,l=(m:Int)/\h=(n:Int)/\m<=n/\n<=xs.length/\ys=(xs.take n).drop m:=by
 unfold cut at hc;split at hc
 . cases hc
 . exact⟨l.toNat,h.toNat,by omega,by omega,by omega,by omega,(iR hc).symm⟩
theorem BG{α:Type}{xs:List α}{l h:Nat}(h1:l<=h)(h2:h<=xs.length):cut xs (l:Int) (h:Int)=some ((xs.take h).drop l):=by
 unfold cut;rw[if_neg (by omega)];simp
def cM{α:Type}(bs:Nat)(xs ys:List α):Option (List α):=if(xs.length+ys.length)*bs<=140737488355328/\xs.length+ys.length<=9223372036854775807 then some (xs++ys)else none
theorem zr{α:Type}{bs:Nat}{xs ys zs:List α}(h:cM bs xs ys=some zs):xs.length+ys.length<=9223372036854775807/\(xs.length+ys.length)*bs<=140737488355328/\zs=xs++ys:=by
 unfold cM at h;split at h
 . rename_i g;exact⟨g.2,g.1,(iR h).symm⟩
 . cases h
def gg{α:Type}(bs:Nat)(z:α)(n:Int):Option (List α):=if n<0\/281474976710656<bs*n.toNat\/9223372036854775807<n then none else some (List.replicate n.toNat z)
theorem UA{α:Type}{bs:Nat}{z:α}{n:Int}{xs:List α}(h:gg bs z n=some xs):∃m:Nat,n=(m:Int)/\bs*m<=281474976710656/\m<=9223372036854775807/\xs=List.replicate m z:=by
 unfold gg at h;split at h
 . cases h
 . exact⟨n.toNat,by omega,by omega,by omega,(iR h).symm⟩
def sdiv(k:IntKind)(x y:Int):Option Int:=if y=0 then none else some (k.wrap (x.tdiv y))
theorem RV{k:IntKind}{x y z:Int}(h:sdiv k x y=some z):¬y=0/\k.wrap (x.tdiv y)=z:=by
 unfold sdiv at h;split at h
 . cases h
 . exact⟨by assumption,iR h⟩
def srem(x y:Int):Option Int:=if y=0 then none else some (x.tmod y)
theorem Tp{x y z:Int}(h:srem x y=some z):¬y=0/\x.tmod y=z:=by
 unfold srem at h;split at h
 . cases h
 . exact⟨by assumption,iR h⟩
def lC(p:Prop)[Decidable p]:Option Unit:=if p then some ()else none
theorem Ad{p:Prop}[Decidable p]{u:Unit}(h:lC p=some u):p:=by
 unfold lC at h;split at h
 . assumption
 . cases h
theorem wi64{z:Int}(h1:-9223372036854775808<=z)(h2:z<=9223372036854775807):IntKind.i64.wrap z=z:=JH rfl h1 h2
theorem wu{z:Int}:IntKind.u64.wrap z=z%18446744073709551616:=by simp[IntKind.wrap,IntKind.signed,IntKind.bits]
theorem wu32{z:Int}:IntKind.u32.wrap z=z%4294967296:=by simp[IntKind.wrap,IntKind.signed,IntKind.bits]
theorem wu8{z:Int}:IntKind.u8.wrap z=z%256:=by simp[IntKind.wrap,IntKind.signed,IntKind.bits]
open Classical in
noncomputable def vw(S:Nat->Prop)(w:World):Hp:=fun b=>if S b then w.heap[b]?else none
theorem Ba{S:Nat->Prop}{w:World}{b:Nat}{o:Obj}(h:vw S w b=some o):S b/\w.heap[b]?=some o:=by
 unfold vw at h;split at h
 . exact⟨by assumption,h⟩
 . cases h
theorem FY{S:Nat->Prop}{w:World}{b:Nat}{o:Obj}(hS:S b)(h:w.heap[b]?=some o):vw S w b=some o:=by
 unfold vw;rw[if_pos hS];exact h
def HS(s:Nat)(S:Nat->Prop)(O:List (Option Nat)):Nat->Prop:=fun b=>(S b\/s<=b)/\some b∉O
noncomputable def Hv(s:Nat)(S:Nat->Prop)(O:List (Option Nat))(w:World):Hp:=vw (HS s S O) w
theorem kq{w:World}{b:Nat}{o:Obj}(h:w.heap[b]?=some o):b<w.heap.size:=by
 rcases cw b w.heap.size with h1|h1
 . exact h1
 . rw[BZ h1]at h;cases h
section
variable {X:List (Option Nat)} {s s':Nat} {S:Nat->Prop} {O O':List (Option Nat)} {w w' w0:World} {C:List cW}
theorem Hv.step(h:Step O O' w w'):Le (Hv s S O w) (Hv s S O' w'):=fun b o hb=>by
 obtain⟨⟨h1,h2⟩,h3⟩:=Ba hb;have hlt:=kq h3;refine FY ⟨h1,fun hm=>?_⟩ ((h.same b hlt h2).trans h3);rcases h.grow b hm with g|g
 . exact h2 g
 . omega
theorem Hv.ext(h:Ext w w'):Le (Hv s S O w) (Hv s S O w'):=Hv.step (Step.ext h)
theorem Step.trans{O'':List (Option Nat)}{w'':World}(h:Step O O' w w')(h':Step O' O'' w' w'')(hsz:w.heap.size<=w'.heap.size):Step O O'' w w'':=by
 refine⟨fun k hk hn=>?_,fun b hb=>?_⟩
 . rw[h'.same k (by omega) (fun hm=>?_),h.same k hk hn];rcases h.grow k hm with g|g
   . exact hn g
   . omega
 . rcases h'.grow b hb with g|g
   . exact h.grow b g
   . exact .inr (by omega)
end
structure bQ (α:Type)where
 sz:Nat
 R:Hp->List Value->α->Prop
 mono:∀(H H':Hp) (vs:List Value) (x:α),Le H H'->R H vs x->R H' vs x
 len:∀(H:Hp) (vs:List Value) (x:α),R H vs x->vs.length=sz
 one:∀(H:Hp) (vs:List Value) (x:α),R H vs x->fb vs=true
def Rs{α:Type}(r:bQ α)(H:Hp)(v:Value)(xs:List α):Prop:=Sl r.sz r.R H v xs
theorem Rs.mono{α:Type}{r:bQ α}{H H':Hp}{v:Value}{xs:List α}(h:Rs r H v xs)(hle:Le H H'):Rs r H' v xs:=Sl.mono r.mono hle h
theorem Rs.one{α:Type}{r:bQ α}{H:Hp}{v:Value}{xs:List α}(h:Rs r H v xs):X.one v=true:=Sl.one h
theorem Rs.nil{α:Type}{r:bQ α}{H:Hp}:Rs r H (.slice none 0 0) []:=.inl ⟨⟨_,rfl⟩,rfl⟩
theorem Rs.get{α:Type}{r:bQ α}{H:Hp}{v:Value}{xs:List α}{n:Nat}{x:α}(h:Rs r H v xs)(hx:xs[n]?=some x):
 ∃b o cap vs,v=.slice (some ⟨b,o,none⟩) xs.length cap/\vs.length=r.sz/\At H b (o+n*r.sz) vs/\r.R H vs x:=by
 rcases h with⟨_,h2⟩|⟨b,o,cap,hv,hc,hxs⟩
 . subst h2;simp at hx
 . obtain⟨vs,g1,g2,g3⟩:=hxs n x hx;exact⟨b,o,cap,vs,hv,g1,g2,g3⟩
def s8(xs:List UInt8):ByteArray:=⟨xs.toArray⟩
theorem xM(xs:List UInt8):(s8 xs).size=xs.length:=by simp[s8,ByteArray.size]
theorem PF(xs ys:List UInt8):s8 xs++s8 ys=s8 (xs++ys):=by apply ByteArray.ext;simp[s8]
theorem Lz(xs:List UInt8):(s8 xs).toList=xs:=by rw[toList_loop_eq];simp[s8]
def aD(k:IntKind):bQ Int:=⟨1,fun _ vs x=>vs=[.int k x],fun _ _ _ _ _ h=>h,fun _ _ _ h=>by rw[h];rfl,fun _ _ _ h=>by rw[h];rfl⟩
def yS:bQ Bool:=⟨1,fun _ vs x=>vs=[.bool x],fun _ _ _ _ _ h=>h,fun _ _ _ h=>by rw[h];rfl,fun _ _ _ h=>by rw[h];rfl⟩
def gI:bQ (List UInt8):=⟨1,fun _ vs x=>vs=[.string (s8 x)],fun _ _ _ _ _ h=>h,fun _ _ _ h=>by rw[h];rfl,fun _ _ _ h=>by rw[h];rfl⟩
def aV{α:Type}(r:bQ α):bQ (List α):=
 ⟨1,fun H vs xs=>∃v,vs=[v]/\Rs r H v xs,fun _ _ _ _ hle ⟨v,h1,h2⟩=>⟨v,h1,h2.mono hle⟩,fun _ _ _ ⟨v,h1,_⟩=>by rw[h1];rfl,fun _ _ _ ⟨v,h1,h2⟩=>by rw[h1];exact dG h2.one kC⟩
def bS{α:Type}(r:bQ α)(H:Hp):List Value->List α->Prop
 |cs,[]=>cs=[]
 |cs,x::xs=>∃a b,cs=a++b/\r.R H a x/\bS r H b xs
section
variable {α:Type} {r:bQ α} {H H':Hp}
theorem bS.nil:bS r H [] []:=rfl
theorem bS.cons{a b:List Value}{x:α}{xs:List α}(h:r.R H a x)(h':bS r H b xs):bS r H (a++b) (x::xs):=⟨a,b,rfl,h,h'⟩
theorem bS.mono:∀{cs:List Value} {xs:List α},bS r H cs xs->Le H H'->bS r H' cs xs
 |_,[],h,_=>h
 |_,_::_,⟨a,b,h1,h2,h3⟩,hle=>⟨a,b,h1,r.mono _ _ _ _ hle h2,h3.mono hle⟩
theorem bS.length:∀{cs:List Value} {xs:List α},bS r H cs xs->cs.length=xs.length*r.sz
 |_,[],h=>by rw[show _=[] from h];simp
 |_,_::xs,⟨a,b,h1,h2,h3⟩=>by rw[h1,dd,r.len _ _ _ h2,h3.length,cv,gL];omega
theorem bS.fb:∀{cs:List Value} {xs:List α},bS r H cs xs->Go.X.fb cs=true
 |_,[],h=>by rw[show _=[] from h];rfl
 |_,_::xs,⟨a,b,h1,h2,h3⟩=>by
  have e1:=r.one _ _ _ h2;have e2:=h3.fb;rw[h1];clear h1 h2 h3
  induction a with
  |nil=>exact e2
  |cons v a ih=>simp only[B4,Go.X.fb,fI]at e1⊢;exact⟨e1.1,ih e1.2⟩
theorem bS.append:∀{cs ds:List Value} {xs ys:List α},bS r H cs xs->bS r H ds ys->bS r H (cs++ds) (xs++ys)
 |_,_,[],_,h,h'=>by rw[show _=[] from h];exact h'
 |_,_,_::xs,_,⟨a,b,h1,h2,h3⟩,h'=>⟨a,b++_,by rw[h1,je],h2,h3.append h'⟩
theorem bS.split:∀{cs:List Value} {xs ys:List α},bS r H cs (xs++ys)->∃a b,cs=a++b/\bS r H a xs/\bS r H b ys
 |cs,[],ys,h=>⟨[],cs,rfl,rfl,h⟩
 |_,x::xs,ys,⟨a,b,h1,h2,h3⟩=>by
  obtain⟨a',b',g1,g2,g3⟩:=bS.split (xs:=xs) h3;exact⟨a++a',b',by rw[h1,g1,je],⟨a,a',rfl,h2,g2⟩,g3⟩
theorem bS.get{cs:List Value}{xs:List α}{n:Nat}{x:α}(h:bS r H cs xs)(hx:xs[n]?=some x):∃a,(cs.drop (n*r.sz)).take r.sz=a/\a.length=r.sz/\r.R H a x:=by
 induction xs generalizing cs n with
 |nil=>simp at hx
 |cons y xs ih=>
  obtain⟨a,b,h1,h2,h3⟩:=h;have hl:=r.len _ _ _ h2;subst h1;cases n with
  |zero=>
   simp at hx;subst hx;refine⟨a,?_,hl,h2⟩;rw[B5,lL,<-hl,Gb];rfl
  |succ n=>
   obtain⟨a',g1,g2,g3⟩:=ih h3 (by simpa using hx);refine⟨a',?_,g2,g3⟩;rw[<-g1,gL,yx,<-hl,Nat.add_comm,<-qT,B6];rfl
theorem bS.set{cs vs:List Value}{xs:List α}{n:Nat}{y:α}(h:bS r H cs xs)(hy:r.R H vs y)(hn:n<xs.length):bS r H (putAt cs (n*r.sz) vs) (xs.set n y):=by
 have hlen:=h.length;have hv:=r.len _ _ _ hy;have hb:n*r.sz+r.sz<=xs.length*r.sz:=by rw[<-Gc];exact pN _ hn
 rw[wG _ _ _ (by rw[hlen,hv];exact hb),hv];obtain⟨a,b,h1,h2,h3⟩:=bS.split (xs:=xs.take n) (ys:=xs.drop n) (by rw[nj];exact h);have hal:=h2.length;rw[eQ,j1 (B7 hn)]at hal;rw[fD hn]at h3;obtain⟨c,d,g1,g2,g3⟩:=h3;have hcl:=r.len _ _ _ g2;have e1:cs.take (n*r.sz)=a:=by rw[h1,<-hal,Gb];rfl
 have e2:cs.drop (n*r.sz+r.sz)=d:=by
  rw[h1,g1,<-je];have:n*r.sz+r.sz=(a++c).length:=by simp[hal,hcl]
  rw[this,B6];rfl
 rw[e1,e2,UY,if_pos hn,je];exact h2.append (bS.cons hy g3)
theorem bS.replicate{a:List Value}{x:α}(h:r.R H a x):∀n,bS r H (List.replicate n a).flatten (List.replicate n x)
 |0=>rfl
 |n+1=>by rw[yy,yy,MK];exact bS.cons h (bS.replicate h n)
theorem bS.cut{cs:List Value}{xs:List α}{m n:Nat}(h:bS r H cs xs)(h1:m<=n)(h2:n<=xs.length):bS r H ((cs.take (n*r.sz)).drop (m*r.sz)) ((xs.take n).drop m):=by
 obtain⟨a,b,e1,g1,g2⟩:=bS.split (xs:=xs.take n) (ys:=xs.drop n) (by rw[nj];exact h);have hal:=g1.length;rw[eQ,j1 h2]at hal;have e:cs.take (n*r.sz)=a:=by rw[e1,<-hal,Gb];rfl
 rw[e];obtain⟨c,d,e2,g3,g4⟩:=bS.split (xs:=(xs.take n).take m) (ys:=(xs.take n).drop m) (by rw[nj];exact g1);have hcl:=g3.length;rw[eQ,eQ,j1 h2,j1 h1]at hcl;rw[e2,<-hcl,B6 rfl];exact g4
theorem bS.rs{b o cap:Nat}{pre cs:List Value}{xs:List α}(h:bS r H cs xs)(hA:At H b o cs)(hc:xs.length<=cap):Rs r H (.slice (some ⟨b,o,none⟩) xs.length cap) xs:=by
 refine .inr ⟨b,o,cap,rfl,hc,fun i x hx=>?_⟩;obtain⟨a,h1,h2,h3⟩:=h.get hx;exact⟨a,h2,hA.part (i*r.sz) (by rw[h2];exact h1),h3⟩
theorem Rs.cells:∀{xs:List α} {b o:Nat},(∀i x,xs[i]?=some x->∃vs,vs.length=r.sz/\At H b (o+i*r.sz) vs/\r.R H vs x)->∃cs,At H b o cs/\bS r H cs xs
 |[],b,o,_=>⟨[],At.nil,rfl⟩
 |x::xs,b,o,h=>by
  obtain⟨a,h1,h2,h3⟩:=h 0 x rfl;rw[B5,pO]at h2;obtain⟨cs,g1,g2⟩:=Rs.cells (xs:=xs) (b:=b) (o:=o+r.sz) (fun i y hy=>by
   obtain⟨vs,e1,e2,e3⟩:=h (i+1) y (by simpa using hy);refine⟨vs,e1,?_,e3⟩;rw[gL,yx]at e2;rw[show o+r.sz+i*r.sz=o+(i*r.sz+r.sz) by omega];exact e2)
  exact⟨a++cs,h2.append (by rw[h1];exact g1),bS.cons h3 g2⟩
end
open Go Go.RowKit
section
variable {P:Program} {l:List Oper} {n n0:Nat} {K:Env->World->Prop} {e:Env} {w0:World}
theorem RC{listed:Array Bool}{i:Nat}(hi:i<listed.size):eT (listed.setIfInBounds i true)=fun j=>eT listed j\/j=i:=by
 funext j;apply propext;constructor
 . exact Qz
 . rintro(h|h)
   . exact getD_set_true h
   . subst h;simp[eT,hi]
theorem kH.mono{o:Oper}{E:Env}{w:World}{R R':Value->World->Prop}(h:kH P l o E w R)(hR:∀v w',R v w'->R' v w'):kH P l o E w R':=by
 unfold kH at*;cases hw:iE l o E with
 |true=>rw[hw]at h;exact aF.mono h hR
 |false=>rw[hw]at h;exact hR _ _ h
def LateP(P:Program)(l:List Oper)(lt:List Nat)(E:Env)(w:World):Prop:=∀i∈lt,∀o,l[i]?=some o->kH P l o E w fun v w'=>(∃d,o.dst=some d/\v=E d)/\w'=w
def RlL(P:Program)(l:List Oper)(K:Env->World->Prop):List Nat->List Oper->Env->World->Prop
 |_,[],e,w=>K e w
 |lt,o::r,e,w=>kH P l o e w fun v w'=>LateP P l (lt.filter fun i=>!cr i (eX o)) (jJ e o.dst v) w'/\RlL P l K (lt.filter fun i=>!cr i (eX o)) r (jJ e o.dst v) w'
theorem Om{listed:Array Bool}(hs:listed.size=l.length)(hb:sZ l=true)(hr:Region.ready .any l.toArray listed=[]):∀j,j<l.length->eT listed j:=by
 intro m
 induction m using Nat.strongRecOn with
 |_ m ih=>
  intro hm;refine jL fun hml=>?_;have hmo:l[m]?=some l[m]:=bV hm;have:m∈Region.ready .any l.toArray listed:=by
   refine Nr hmo ?_ (fun d hd=>ih d (zu hb hmo hd) (by have:=zu hb hmo hd;omega));unfold eT at hml;simp[hs,hm]at hml⊢;exact hml
  rw[hr]at this;cases this
theorem unl{listed:Array Bool}(hs:listed.size=l.length){j:Nat}(hj:j<l.length):¬eT listed j↔listed.getD j true=false:=by
 unfold eT;simp[hs,hj]
theorem Hg{listed:Array Bool}(hs:listed.size=l.length){i j:Nat}(hi:i<l.length):eT (listed.setIfInBounds i true) j↔(eT listed j\/j=i):=by
 rw[RC (by omega)]
theorem PW{listed:Array Bool}(hs:listed.size=l.length){i:Nat}(hi:i<l.length)(hcl:∀j oj,l[j]?=some oj->eT listed j->∀d∈eX oj,eT listed d)(hd:∀d∈eX l[i],eT listed d):
 ∀j oj,l[j]?=some oj->eT (listed.setIfInBounds i true) j->∀d∈eX oj,eT (listed.setIfInBounds i true) d:=by
 intro j oj hoj hjl d hdm;rw[Hg hs hi]at hjl⊢;rcases hjl with h1|h1
 . exact .inl (hcl j oj hoj h1 d hdm)
 . subst h1;rw[bV hi]at hoj;cases hoj;exact .inl (hd d hdm)
end
inductive Pz where
 |det (c:Value)
 |fn (m:Nat) (g:Value->Value)
 |rel (Φ:Value->(Nat->Prop)->World->Prop) (ft:Value->List (Option Nat))
structure FE where
 idx:Nat
 φ:(Nat->Prop)->World->Prop
 ft:List (Option Nat)
def Qw(cs:List (List Nat))(j:Nat):List Nat:=(List.range cs.length).filter fun c=>cr j (cs.getD c [])
def H9(cs:List (List Nat))(j:Nat):Bool:=(Qw cs j).isEmpty
def nR(cs:List (List Nat))(x:FE):List FE->Prop
 |[]=>True
 |y::r=>(bif H9 cs x.idx&&H9 cs y.idx then∀b,some b∈x.ft->some b∉y.ft else True)/\nR cs x r
structure dR (cf:List (Option Nat))(w w':World):Prop where
 os:w'.os=w.os
 tape:w'.tape=w.tape
 output:w'.output=w.output
 size:w.heap.size<=w'.heap.size
 keep:∀k,k<w.heap.size->some k∉cf->w'.heap[k]?=w.heap[k]?
def vf(Φs:List Pz)(vs:Nat->Value)(j:Nat):Value:=match Φs[j]?with
 |some (.fn m g)=>g (vs m)
 |_=>vs j
section
variable {P:Program} {l:List Oper} {cs:List (List Nat)} {w1:World} {K:Env->World->Prop} {r:List Oper} {Φs:List Pz} {e:Env} {F:List FE} {i:Nat}
theorem er{w:World}{v c:Value}(h:v=c):Ext w w/\v=c:=⟨Ext.refl _,h⟩
end
open Go Go.RowKit
theorem P9{v:Value}(h:one v=true):v.cells=#[v]:=by
 cases v<;>first|rfl|(simp[one,Value.oneCell']at h)
theorem Loc.begin{X:List (Option Nat)}{C:List cW}{w:World}(h:gB w X C)(hd:iV X):Loc X [] w w X C:=
 ⟨rfl,rfl,rfl,bK _,fun _ _ _=>rfl,h,fun _ hb=>.inl hb,hd,fun _ _ h=>(by cases h),fun _ h=>(by cases h)⟩
def fk:Option Nat->Nat->Nat->Nat->Value
 |none,_,_,_=>.slice none 0 0
 |some b,o,n,cap=>.slice (some ⟨b,o,none⟩) n cap
theorem L8(ob:Option Nat)(o n cap:Nat):one (fk ob o n cap)=true:=by cases ob<;>rfl
theorem HU(ob:Option Nat)(n cap:Nat):fk ob 0 n cap=sv ob n cap:=by cases ob<;>rfl
section
variable {P:Program} {ty:TypeId} {ρ:Operand->Value} {w w0:World} {R:Value->World->Prop} {X:List (Option Nat)} {O:List (Option Nat)} {C:List cW} {α:Type} {r:bQ α} {H:Hp}
theorem wT{pre cs sp:List Value}{xs:List α}{n:Nat}{a:α}(hE:bS r H cs xs)(hn:xs[n]?=some a)(hz:0<r.sz):0<(pre++(cs++sp)).length:=by
 have h1:=hE.length;have h2:n<xs.length:=(dS.1 hn).1;have:1*1<=xs.length*r.sz:=iu (by omega) hz;simp;omega
theorem aF.Jl{t:TypeId}{x:Operand}{d:TypeDesc}{b o:Nat}{v:Value}(hd:P.underlying t=some d)(hg:iG d=false)(hx:ρ x=.pointer (some ⟨b,o,none⟩))(hle:Le H (view [] w))(hA:At H b o [v])(h:R v w):aF P (.load t x) ty ρ w R:=
 aF.wA hd hg hx (yk hle (hA.get 0 rfl)) h
theorem aF.Jg{t:TypeId}{x:Operand}{d:TypeDesc}{b o:Nat}{vs:List Value}{sz by':Nat}{z:Value}(hd:P.underlying t=some d)(hg:iG d=true)(ti:TI P t sz by' z)(hx:ρ x=.pointer (some ⟨b,o,none⟩))(hl:vs.length=sz)(hle:Le H (view [] w))(hA:At H b o vs)(h:R (.agg vs.toArray) w):aF P (.load t x) ty ρ w R:=
 aF.Jc hd hg ti hx hl (hA.mono hle) h
theorem aF.Ly{t:TypeId}{x:Operand}{d:TypeDesc}{b o:Nat}{cs:List Value}{v:Value}(hd:P.underlying t=some d)(hg:iG d=false)(hx:ρ x=.pointer (some ⟨b,o,none⟩))(hc:dC w (some b) (.cells cs))
 (hv:cs[o]?=some v)(h:R v w):aF P (.load t x) ty ρ w R:=by
 have:=Fm (P:=P) hd hg (sM hc hv);simp only[aF,cZ,execOp,hx];simp[Instr.loadAt,Instr.sureAddr,this,upon];exact h
theorem aF.Dd{t:TypeId}{x:Operand}{d:TypeDesc}{b o:Nat}{cs vs:List Value}{sz by':Nat}{z:Value}(hd:P.underlying t=some d)(hg:iG d=true)(ti:TI P t sz by' z)(hx:ρ x=.pointer (some ⟨b,o,none⟩))(hc:dC w (some b) (.cells cs))
 (hl:vs.length=sz)(hv:(cs.drop o).take vs.length=vs)(h:R (.agg vs.toArray) w):aF P (.load t x) ty ρ w R:=by
 have hc':∀j v,vs[j]?=some v->w.cell? ((⟨b,o,none⟩:Addr).add j)=some v:=by
  intro j v hj;rw[add_plain];refine sM hc ?_;rw[<-hj];conv=>rhs;rw[<-hv]
  rw[vM,te,if_pos];rcases cw j vs.length with h|h
  . exact h
  . rw[fQ h]at hj;cases hj
 have:=Dm (P:=P) hd hg ti hl hc';simp only[aF,cZ,execOp,hx];simp[Instr.loadAt,Instr.sureAddr,this,upon];exact h
theorem Bh{l vs us:List Value}{p q:Nat}(h:(l.drop p).take vs.length=vs)(hu:(vs.drop q).take us.length=us):(l.drop (p+q)).take us.length=us:=by
 rw[<-qT];generalize l.drop p=m at*;have e:(m.take vs.length).drop q=vs.drop q:=by rw[h]
 rw[List.drop_take]at e;rw[<-e,ML]at hu;have hk:us.length<=vs.length-q:=by
  have:=congrArg List.length hu;rw[eQ]at this;omega
 rw[j1 hk]at hu;exact hu
theorem Fb{pre cs sp:List Value}{xs:List α}{n:Nat}{a:α}(hE:bS r H cs xs)(hn:xs[n]?=some a):∃vs,vs.length=r.sz/\r.R H vs a/\((pre++(cs++sp)).drop (pre.length+n*r.sz)).take vs.length=vs:=by
 obtain⟨vs,h1,h2,h3⟩:=hE.get hn;refine⟨vs,h2,h3,?_⟩;have hlt:n<xs.length:=(dS.1 hn).1;have hlen:=hE.length;have hb:n*r.sz+r.sz<=cs.length:=by rw[hlen,<-Gc];exact pN _ hlt
 rw[<-qT,B6 rfl,B8 (by omega),qU (by rw[vQ,h2];omega),h2,h1]
theorem aF.stRow{t:TypeId}{x y:Operand}{b q n by':Nat}{z v:Value}{pre cs sp vs:List Value}{xs:List α}{a:α}(ti:TI P t r.sz by' z)(hx:ρ x=.pointer (some ⟨b,q,none⟩))(hy:ρ y=v)(hv:v.cells=vs.toArray)(hR:r.R H vs a)
 (hL:Loc X [] w0 w O C)(i:Nat)(hO:O[i]?=some (some b))(hC:C[i]?=some (.cells (pre++(cs++sp))))(hE:bS r H cs xs)(hn:n<xs.length)(hq:q=pre.length+n*r.sz)
 (h:∀w' cs',Loc X [] w0 w' O (C.set i (.cells (pre++(cs'++sp))))->Step O O w w'->bS r H cs' (xs.set n a)->cs'.length=cs.length->R undef w'):aF P (.store t x y) ty ρ w R:=by
 have hlen:=hE.length;have hvl:=r.len _ _ _ hR;have hb:n*r.sz+r.sz<=cs.length:=by rw[hlen,<-Gc];exact pN _ hn
 have hp:putAt (pre++(cs++sp)) q vs=pre++(putAt cs (n*r.sz) vs++sp):=by
  subst hq;rw[wG _ _ _ (by simp[hvl];omega),wG _ _ _ (by rw[hvl];exact hb),hvl];rw[List.take_append,eU (by omega),show pre.length+n*r.sz-pre.length=n*r.sz by omega,
   qU (by omega),List.drop_append,yw (by omega),jf,
   show pre.length+n*r.sz+r.sz-pre.length=n*r.sz+r.sz by omega,B8 hb]
  simp
 refine aF.store ti hx hy hv hvl (r.one _ _ _ hR) hL i hO hC (by subst hq;simp[hvl];omega) fun w' h1 h2=>?_;rw[hp]at h1;exact h w' _ h1 h2 (hE.set hR hn) (E2 _ _ _)
theorem aF.FK{x:Operand}{t el:TypeId}{v:Value}{xs:List α}(hu:P.underlying t=some (.slice el))(hx:ρ x=v)(hS:Rs r H v xs)(h:R (.int .i64 (xs.length:Int)) w):
 aF P (.call {callee:=.builtin .len,args:=#[x],argTypes:=#[t]}) ty ρ w R:=aF.Sa hu hx hS h
theorem aF.Pm{x:Operand}{t el:TypeId}{o n cap:Nat}{ob:Option Nat}{pre cs sp:List Value}{xs:List α}(hu:P.underlying t=some (.slice el))(hx:ρ x=fk ob o n cap)(hc:dC w ob (.cells (pre++(cs++sp))))(hE:bS r H cs xs)(hz:(r.sz==0)=false)(hn:n=xs.length)
    (h:R (.int .i64 (xs.length:Int)) w):aF P (.call {callee:=.builtin .len,args:=#[x],argTypes:=#[t]}) ty ρ w R:=by
  have hpos : 0 < r.sz := by have : ¬ r.sz = 0 := by simpa using hz
                             omega
  cases ob with
  |none=>
    have h0:pre++(cs++sp)=[]:=hc;have hxs:xs.length=0:=by
      rcases gz xs.length with h1|h1
      . exact h1
      . have:=wT (pre:=pre) (sp:=sp) hE (bV h1) hpos;rw[h0]at this;simp at this
    exact aF.sq hu hx (by rw[hxs]at h;exact h)
  |some b=>subst hn;exact aF.sq hu hx h
theorem aF.JI{x:Operand}{t el:TypeId}(hu:P.underlying t=some (.slice el))(hx:ρ x=.slice none 0 0)(h:R (.int .i64 0) w):aF P (.call {callee:=.builtin .len,args:=#[x],argTypes:=#[t]}) ty ρ w R:=aF.sq hu hx h
theorem aF.Tk{x:Operand}{t:TypeId}{s:List UInt8}(hu:P.underlying t=some .string)(hx:ρ x=.string (s8 s))(h:R (.int .i64 (s.length:Int)) w):
 aF P (.call {callee:=.builtin .len,args:=#[x],argTypes:=#[t]}) ty ρ w R:=aF.Rw hu hx (by rw[xM];exact h)
theorem Src.row{o n cap:Nat}{ob:Option Nat}{pre cs sp:List Value}{xs:List α}(hc:dC w ob (.cells (pre++(cs++sp))))(hE:bS r H cs xs)(hz:(r.sz==0)=false)(ho:o=pre.length)(hn:n=xs.length):Src w (fk ob o n cap) xs.length r.sz cs:=by
  have hpos : 0 < r.sz := by have : ¬ r.sz = 0 := by simpa using hz
                             omega
  refine⟨hE.length,?_⟩;cases ob with
  |none=>
    have h0:pre++(cs++sp)=[]:=hc;left;have hx0:xs.length=0:=by
     rcases gz xs.length with h1|h1
     . exact h1
     . have:=wT (pre:=pre) (sp:=sp) hE (bV h1) hpos;rw[h0]at this;simp at this
    refine⟨⟨none,by simp[fk]⟩,?_⟩;rcases gz xs.length with h1|h1
    . exact h1
    . have:=wT (pre:=pre) (sp:=sp) hE (bV h1) hpos;rw[h0]at this;simp at this
  |some b=>
    subst hn;subst ho;refine .inr ⟨b,_,cap,rfl,fun j u hj=>sM hc ?_⟩;have hjl:j<cs.length:=(dS.1 hj).1;rw[ou (by omega),show pre.length+j-pre.length=j by omega,jZ hjl,hj]
theorem aF.apRow{t el:TypeId}{a c:Operand}{by' n cap i:Nat}{z x:Value}{ob:Option Nat}{cs sp ds:List Value}{xs ys:List α}(hu:P.underlying t=some (.slice el))(ti:TI P el r.sz by' z)(hzc:z.cells.size=r.sz)(hz:(r.sz==0)=false)
    (ha:ρ a=fk ob 0 n cap)(hc:ρ c=x)(hL:Loc X [] w0 w O C)(hO:O[i]?=some ob)(hC:C[i]?=some (.cells ([]++(cs++sp))))(hE:bS r H cs xs)(hn:n=xs.length)(hcap:(cs++sp).length=cap*r.sz)(hsrc:Src w x ys.length r.sz ds)(hD:bS r H ds ys)
    (h63:xs.length+ys.length<=9223372036854775807)(hb:(xs.length+ys.length)*by'<=140737488355328)
    (h:∀ob' cap' sp' ds' w',bS r H ds' (xs++ys)->(ds'++sp').length=cap'*r.sz->Loc X [] w0 w' (O.set i ob') (C.set i (.cells ([]++(ds'++sp'))))->Step O (O.set i ob') w w'->R (fk ob' 0 (xs++ys).length cap') w'):
    aF P (.call {callee:=.builtin .append,args:=#[a,c],argTypes:=#[t,t]}) ty ρ w R:=by
  have hpos : 0 < r.sz := by have : ¬ r.sz = 0 := by simpa using hz
                             omega
  subst hn;refine aF.append (m:=ys.length) (xs:=cs) (sp:=sp) hu ti hzc hpos (by rw[ha,HU]) hc hL hO hC hE.length hcap hsrc hD.fb h63 hb fun ob' cap' sp' w' h1 h2 h3=>?_;have:=h ob' cap' sp' (cs++ds) w' (hE.append hD) h1 h2 h3;rw[HU,dd]at this;exact this
theorem Ql(zc:List Value)(n:Nat):(madeCells zc.toArray (n*zc.length)).toList=(List.replicate n zc).flatten:=by
 apply pL;intro i;simp only[madeCells,Array.toList_map,gR,Array.toList_range]
 induction n generalizing i with
 |zero=>simp
 |succ n ih=>
  rw[yy,MK];by_cases hi:i<zc.length
  . rw[jZ hi,Gd (by rw[gL];omega)];simp[yz hi,hi]
  . rw[ou (by omega),<-ih (i-zc.length)];by_cases hlt:i<(n+1)*zc.length
    . rw[gL,yx]at hlt;rw[Gd (by rw[gL];omega),Gd (by omega)];simp only[ov];congr 2;show i%zc.length=(i-zc.length)%zc.length;rw[Nat.mod_eq_sub_mod (by omega)]
    . rw[gL,yx]at hlt;rw[fQ (by simp[gL];omega),fQ (by simp;omega)]
theorem aF.mkRow{t el:TypeId}{a c:Operand}{k k':IntKind}{i:Int}{m by':Nat}{z:Value}{zc:List Value}{x:α}(hu:P.underlying t=some (.slice el))(ti:TI P el r.sz by' z)(hzc:z.cells=zc.toArray)(hR:r.R H zc x)
 (ha:ρ a=.int k i)(hc:ρ c=.int k' i)(hi:i=(m:Int))(hb:by'*m<=281474976710656)(hm:m<=9223372036854775807)(hL:Loc X [] w0 w O C)
 (h:∀b w' cs,bS r H cs (List.replicate m x)->(cs++[]).length=m*r.sz->Loc X [] w0 w' (some b::O) (.cells ([]++(cs++[]))::C)->Step O (some b::O) w w'->R (fk (some b) 0 (List.replicate m x).length m) w'):
 aF P (.makeSlice t a c) ty ρ w R:=by
 obtain⟨inf,hi',hs,hby,hzz⟩:=ti;subst hi;have hl:=r.len _ _ _ hR;have hb':(inf.bytes:Int)*(m:Int)<=281474976710656:=by
  subst hby;have:((inf.bytes*m:Nat):Int)<=281474976710656:=by omega
  rwa[Ge]at this
 have hr:=run_make (P:=P) w t el inf z hu hi' hzz k k' (m:Int) (m:Int) (by omega) (by omega) hb' (by omega);simp only[mn,hs]at hr;have hfl:=Ql zc m;rw[hl,<-hzc]at hfl;have hal:=hL.alloc (o:=.cells (madeCells z.cells (m*r.sz)) el) (c:=.cells (List.replicate m zc).flatten) (by rw[<-hfl];exact oe w _ el);simp only[aF,cZ,execOp,ha,hc];simp[hr,upon];have hE:=bS.replicate (r:=r) hR m;have hln:=hE.length;have:=h _ _ _ hE (by rw[lK,hln];simp) (by rw[lK];exact hal.1) hal.2;rw[kQ]at this;exact this
theorem aF.T2{t el:TypeId}{n:Nat}{parts:List (Nat×Operand)}{by':Nat}{z:Value}{vs:List Value}{css:List (List Value)}{xs:List α}(hu:P.underlying t=some (.slice el))(ti:TI P el r.sz by' z)(hn:n*r.sz<=16777216)
 (hp:(parts.map fun p=>(p.1,ρ p.2))=lY 0 vs)(hvs:vs.length=n)(hc:rv r.sz vs css)(h0:0<n*r.sz)(hE:bS r H css.flatten xs)(hxs:xs.length=n)(hL:Loc X [] w0 w O C)
 (h:∀b w',(css.flatten++[]).length=n*r.sz->Loc X [] w0 w' (some b::O) (.cells ([]++(css.flatten++[]))::C)->Step O (some b::O) w w'->R (fk (some b) 0 n n) w'):aF P (.buildSlice t n parts.toArray) ty ρ w R:=by
 refine aF.Ue hu ti hn hp hvs hc h0 hL fun b w' h1 h2=>?_;refine h b w' (by rw[lK,hE.length,hxs]) (by rw[lK];exact h1) h2
theorem aF.Og{t el:TypeId}{sz by':Nat}{z:Value}(hu:P.underlying t=some (.slice el))(ti:TI P el sz by' z)(hL:Loc X [] w0 w O C)
 (h:∀b w',Loc X [] w0 w' (some b::O) (.cells ([]++([]++[]))::C)->Step O (some b::O) w w'->R (fk (some b) 0 0 0) w'):aF P (.buildSlice t 0 #[]) ty ρ w R:=
 aF.P0 hu ti hL h
theorem aF.cutRo{t el:TypeId}{x:Operand}{lo hi:Option Operand}{by' l h':Nat}{z v:Value}{xs:List α}(hu:P.underlying t=some (.slice el))(ti:TI P el r.sz by' z)
    (hx:ρ x=v)(hS:Rs r H v xs)(hlo:(lo=none/\l=0)\/∃k y,lo=some y/\ρ y=.int k ((l:Nat):Int))(hhi:(hi=none/\h'=xs.length)\/∃k y,hi=some y/\ρ y=.int k ((h':Nat):Int))(h1:l<=h')(h2:h'<=xs.length)
    (hk:∀v',Rs r H v' ((xs.take h').drop l)->R v' w):aF P (.slice t x lo hi none) ty ρ w R:=by
  obtain⟨inf,hi',hs,_,_⟩:=ti;obtain⟨a,len,cap,rfl⟩:∃a len cap,v=.slice a len cap:=by
    rcases hS with⟨⟨oa,h⟩,_⟩|⟨b,o,c,h,_⟩<;>exact⟨_,_,_,h⟩
  obtain⟨hl,hc,hcut⟩:=Sl.cut hS h1 h2;have hr:=yW (P:=P) (w:=w) hu hi' a len cap l h' (lo.map ρ) (hi.map ρ)
    (by rcases hlo with⟨rfl,rfl⟩|⟨k,y,rfl,hy⟩
        . exact .inl ⟨rfl,rfl⟩
        . exact .inr ⟨k,by simp[hy]⟩)
    (by rcases hhi with⟨rfl,rfl⟩|⟨k,y,rfl,hy⟩
        . exact .inl ⟨rfl,hl.symm⟩
        . exact .inr ⟨k,by simp[hy]⟩) h1 hc
  simp only[aF,cZ,execOp,hx];simp only[F9,Sem.run_bind,hr,Result.andThen_ok,Sem.run_pure,upon];rw[hs];exact hk _ hcut
theorem aF.P3{t el:TypeId}{x:Operand}{hi:Option Operand}{by' o n h' cap:Nat}{z:Value}{ob:Option Nat}{pre cs sp:List Value}{xs:List α}(hu:P.underlying t=some (.slice el))(ti:TI P el r.sz by' z)(hz:(r.sz==0)=false)
    (hx:ρ x=fk ob o n cap)(hc:dC w ob (.cells (pre++(cs++sp))))(hE:bS r H cs xs)(hn:n=xs.length)(hcap:(cs++sp).length=cap*r.sz)(hhi:(hi=none/\h'=xs.length)\/∃k y,hi=some y/\ρ y=.int k ((h':Nat):Int))(h2:h'<=xs.length)
    (hk:∀cs' sp',cs'++sp'=cs++sp->bS r H cs' (xs.take h')->R (fk ob o (xs.take h').length cap) w):aF P (.slice t x none hi none) ty ρ w R:=by
  have hpos : 0 < r.sz := by have : ¬ r.sz = 0 := by simpa using hz
                             omega
  have hlen:=hE.length;have hE':=hE.cut (fE h') h2;rw[B5,lL,lL]at hE';have hkk:=hk (cs.take (h'*r.sz)) (cs.drop (h'*r.sz)++sp) (by rw[<-je,nj]) hE';rw[eQ,j1 h2]at hkk;have hcx:xs.length<=cap:=by
    have:xs.length*r.sz<=cap*r.sz:=by rw[<-hcap,dd,hlen];omega
    exact F7 this hpos
  obtain⟨inf,hi',hs,_,_⟩:=ti;have key:∀a,ρ x=.slice a n cap->R (.slice a (h'-0) (cap-0)) w->aF P (.slice t x none hi none) ty ρ w R:=by
    intro a hxa hR;have hr:=yW (P:=P) (w:=w) hu hi' a n cap 0 h' none (hi.map ρ) (.inl ⟨rfl,rfl⟩)
      (by rcases hhi with⟨rfl,rfl⟩|⟨k,y,rfl,hy⟩
          . exact .inl ⟨rfl,hn.symm⟩
          . exact .inr ⟨k,by simp[hy]⟩) (fE _) (by omega)
    simp only[aF,cZ,execOp,hxa];simp only[F9,Sem.run_bind,hr,Result.andThen_ok,Sem.run_pure,upon];have e:(if cap=0 then a else a.map (·.add (0*inf.size)))=a:=by
      split
      . rfl
      . cases a with
        |none=>rfl
        |some a=>simp[Addr.add]
    rw[e];exact hR
  cases ob with
  |none=>
    have h0:pre++(cs++sp)=[]:=hc;have:cs=[]/\sp=[]:=by simpa using(F8.1 h0).2
    have hx0:xs.length=0:=by
      rw[this.1]at hlen;rcases gz xs.length with h1|h1
      . exact h1
      . have:1*1<=xs.length*r.sz:=iu h1 hpos;simp at hlen;omega
    have hc0:cap=0:=by
      rw[this.1,this.2]at hcap;rcases gz cap with h1|h1
      . exact h1
      . have:1*1<=cap*r.sz:=iu h1 hpos;simp at hcap;omega
    subst hc0;have hh:h'=0:=by omega
    subst hh;refine key none (by rw[hx,hn,hx0];rfl) ?_;exact hkk
  |some b=>exact key _ hx hkk
def rR(pl:List (Nat×Nat))(cells:List Value):List (Nat×List Value)->Option (List Value)
 |[]=>some cells
 |(i,cs)::r=>match pl[i]?with
  |none=>none
  |some (off,size)=>bif !(Nat.beq cs.length size)||Nat.blt cells.length (off+cs.length)then none else rR pl (putAt cells off cs) r
def y8:List Value->List (List Value)->Prop
 |[],[]=>True
 |v::vs,c::cs=>v.cells=c.toArray/\y8 vs cs
 |_,_=>False
theorem Hd{pl:List (Nat×Nat)}:∀(is:List Nat) (vs:List Value) (css:List (List Value)) (cells cs:List Value),is.length=vs.length->y8 vs css->rR pl cells (is.zip css)=some cs->Instr.fill (pl[·]?) cells.toArray (is.zip vs)=some cs.toArray
 |[],[],[],cells,cs,_,_,h=>by simp[rR]at h;subst h;rfl
 |i::is,v::vs,c::css,cells,cs,hl,hp,h=>by
  simp only[MM,rR]at h;simp only[MM,Instr.fill];cases hpl:pl[i]?with
  |none=>rw[hpl]at h;cases h
  |some q=>
   obtain⟨off,size⟩:=q;rw[hpl]at h;simp only at h;cases hb:(!(Nat.beq c.length size)||Nat.blt cells.length (off+c.length))with
   |true=>rw[hb]at h;cases h
   |false=>
    rw[hb]at h;simp only[cond_false]at h;have h1:c.length=size/\off+c.length<=cells.length:=by
     simp only[Gf,Bool.not_eq_false']at hb;refine⟨dI hb.1,?_⟩;rcases cw cells.length (off+c.length)with h2|h2
     . have:Nat.blt cells.length (off+c.length)=true:=MN h2;rw[this]at hb;cases hb.2
     . exact h2
    have hv:=hp.1;have hsz:v.cells.size=c.length:=by rw[hv];simp
    simp only;rw[if_neg (by simp[hsz,h1.1];omega)];have hf:=Fa c cells off 0;rw[pO]at hf;rw[hv,show(c.toArray.zipIdx.foldl (fun(cs:Array Value) (x:Value×Nat)=>cs.setIfInBounds (off+x.2) x.1) cells.toArray)=(putAt cells off c).toArray by
     rw[<-hf,<-Array.foldl_toList];simp]
    exact Hd is vs css _ cs (by simpa using hl) hp.2 h
 |[],_::_,_,_,_,hl,_,_=>by simp at hl
 |_::_,[],_,_,_,hl,_,_=>by simp at hl
 |[],[],_::_,_,_,_,hp,_=>hp.elim
 |_::_,_::_,[],_,_,_,hp,_=>hp.elim
def placesOf(P:Program)(fs:List Field):Option (List (Nat×Nat)):=fs.mapM fun f=>(P.info? f.type).map fun i=>(f.offset,i.size)
def Al(P:Program)(t:TypeId):Option (List (Nat×Nat)):=match P.underlying t with
 |some (.struct fs)=>placesOf P fs.toList
 |_=>none
theorem aF.build{t:TypeId}{pl:List (Nat×Nat)}{sz by':Nat}{z:Value}{zc cs:List Value}{is:List Nat}{vs:List Value}{css:List (List Value)}{parts:List (Nat×Operand)}(hpl:Al P t=some pl)(ti:TI P t sz by' z)(hz:z.cells=zc.toArray)
 (hp:(parts.map fun p=>(p.1,ρ p.2))=is.zip vs)(hil:is.length=vs.length)(hc:y8 vs css)(hf:rR pl zc (is.zip css)=some cs)(h:R (.agg cs.toArray) w):aF P (.build t parts.toArray) ty ρ w R:=by
 obtain⟨inf,hi,hs,hby,hzz⟩:=ti;have hfill:=Hd is vs css zc cs hil hc hf;unfold Al at hpl;split at hpl
 . rename_i fs hu;have hpl':(fs.mapM (fun(f:Field)=>do pure (f.offset,<-sizeOf f.type)):Sem (Array (Nat×Nat))).run P w=.ok pl.toArray w:=by
    have:=run_places (P:=P) w fs.toList pl hpl;have e:(fun(f:Field)=>(do pure (f.offset,<-sizeOf f.type):Sem (Nat×Nat)))=fun f=>Prod.mk f.offset<$>sizeOf f.type:=by
     funext f;rfl
    rw[e,<-tj (xs:=fs),MI,Sem.run_map,this];rfl
   have hr:(Instr.build t ((parts.toArray.map fun(x:Nat×Operand)=>(x.1,ρ x.2)))).run P w=.ok (.agg cs.toArray) w:=by
    have hlist:((parts.toArray.map fun(x:Nat×Operand)=>(x.1,ρ x.2))).toList=is.zip vs:=by simpa using hp
    have hfn:(fun(i:Nat)=>pl.toArray[i]?)=(fun(i:Nat)=>pl[i]?):=by funext i;simp
    simp only[Instr.build,Sem.run_bind,zeroValue,typeInfo,run_program,Result.andThen_ok,hi,Sem.run_pure,hzz,run_underlying hu,hpl',hz,hlist,hfn,hfill]
   simp only[aF,cZ,execOp];simp only[Sem.run_bind,hr,Result.andThen_ok,Sem.run_pure,upon];exact h
 . cases hpl
theorem aF.PD{t:TypeId}{x:Operand}{fs:Array Field}{f:Field}{i:Nat}{d:TypeDesc}{cs:List Value}{v:Value}(hu:P.underlying t=some (.struct fs))(hf:fs[i]?=some f)(hd:P.underlying f.type=some d)(hg:iG d=false)(hx:ρ x=.agg cs.toArray)(hv:cs[f.offset]?=some v)(h:R v w):aF P (.field t x i) ty ρ w R:=by
 have hr:(Instr.field t (.agg cs.toArray) i).run P w=.ok v w:=by
  simp[Instr.field,run_underlying hu,hf,asAgg,part,AG hd,hg,hv]
 simp only[aF,cZ,execOp,hx];simp only[Sem.run_bind,hr,Result.andThen_ok,Sem.run_pure,upon];exact h
theorem aF.Tg{t:TypeId}{x:Operand}{fs:Array Field}{f:Field}{i sz by':Nat}{z:Value}{d:TypeDesc}{cs vs:List Value}(hu:P.underlying t=some (.struct fs))(hf:fs[i]?=some f)(hd:P.underlying f.type=some d)(hg:iG d=true)(ti:TI P f.type sz by' z)(hx:ρ x=.agg cs.toArray)(hv:(cs.drop f.offset).take sz=vs)(h:R (.agg vs.toArray) w):aF P (.field t x i) ty ρ w R:=by
 obtain⟨inf,hi,hs,hby,hzz⟩:=ti;have hr:(Instr.field t (.agg cs.toArray) i).run P w=.ok (.agg vs.toArray) w:=by
  simp[Instr.field,run_underlying hu,hf,asAgg,part,AG hd,hg,sizeOf,typeInfo,hi,hs];rw[<-hv]
 simp only[aF,cZ,execOp,hx];simp only[Sem.run_bind,hr,Result.andThen_ok,Sem.run_pure,upon];exact h
def imax(x y:Int):Int:=if y>x then y else x
def xP(x y:Int):Int:=if y<x then y else x
theorem aF.max{a b:Operand}{ats:Array TypeId}{k k':IntKind}{x y:Int}(hx:ρ a=.int k x)(hy:ρ b=.int k' y)(h:R (.int k (imax x y)) w):aF P (.call {callee:=.builtin .max,args:=#[a,b],argTypes:=ats}) ty ρ w R:=by
 simp only[aF,cZ,execOp,resolve,invoke,builtin];simp[hx,hy,Builtin.max_,Builtin.max2,upon];exact h
theorem aF.min{a b:Operand}{ats:Array TypeId}{k k':IntKind}{x y:Int}(hx:ρ a=.int k x)(hy:ρ b=.int k' y)(h:R (.int k (xP x y)) w):aF P (.call {callee:=.builtin .min,args:=#[a,b],argTypes:=ats}) ty ρ w R:=by
 simp only[aF,cZ,execOp,resolve,invoke,builtin];simp[hx,hy,Builtin.min_,Builtin.min2,upon];exact h
end
theorem NW{P:Program}{w:World}{t:TypeId}{d:TypeDesc}{b:Nat}{cs:List Value}{v:Value}(hd:P.underlying t=some d)(hg:iG d=false)(hc:dC w (some b) (.cells cs))(hv:cs[0]?=some v):(loadVar t ⟨b,0,none⟩).run P w=.ok v w:=
 Fm hd hg (sM hc hv)
theorem SZ{P:Program}{w:World}{t:TypeId}{d:TypeDesc}{b sz by':Nat}{z:Value}{cs:List Value}(hd:P.underlying t=some d)(hg:iG d=true)(ti:TI P t sz by' z)(hc:dC w (some b) (.cells cs))(hl:cs.length=sz):(loadVar t ⟨b,0,none⟩).run P w=.ok (.agg cs.toArray) w:=
 Dm hd hg ti hl (QI hc rfl)
open Go Go.RowKit
theorem Ix{α:Type}{sz:Nat}{R R':Hp->List Value->α->Prop}{H:Hp}{v:Value}{xs:List α}(h:∀vs x,R H vs x->R' H vs x)(hs:Sl sz R H v xs):Sl sz R' H v xs:=by
 rcases hs with⟨h1,h2⟩|⟨b,o,cap,hv,hc,hx⟩
 . exact .inl ⟨h1,h2⟩
 . refine .inr ⟨b,o,cap,hv,hc,fun i y hi=>?_⟩;obtain⟨vs,h1,h2,h3⟩:=hx i y hi;exact⟨vs,h1,h2,h _ _ h3⟩
theorem Hk{α:Type}{p:Nat->α->Nat->Prop}(hm:∀i x n m,n<=m->p i x n->p i x m):∀(xs:List α) (k:Nat),(∀i x,xs[i]?=some x->∃n,p (k+i) x n)->∃n,∀i x,xs[i]?=some x->p (k+i) x n
 |[],k,_=>⟨0,fun i x h=>by simp at h⟩
 |y::xs,k,h=>by
  obtain⟨n1,h1⟩:=h 0 y rfl;obtain⟨n2,h2⟩:=Hk hm xs (k+1) (fun i x hx=>by
   obtain⟨n,hn⟩:=h (i+1) x (by simpa using hx);exact⟨n,by rw[show k+1+i=k+(i+1) by omega];exact hn⟩)
  refine⟨max n1 n2,fun i x hx=>?_⟩;cases i with
  |zero=>simp at hx;subst hx;exact hm _ _ _ _ (Nat.le_max_left _ _) h1
  |succ i=>
   have:=h2 i x (by simpa using hx);rw[show k+1+i=k+(i+1) by omega]at this;exact hm _ _ _ _ (Nat.le_max_right _ _) this
theorem QH{α:Type}{sz:Nat}{Rn:Nat->Hp->List Value->α->Prop}{H:Hp}{v:Value}{xs:List α}(hm:∀n m vs x,n<=m->Rn n H vs x->Rn m H vs x)(hs:Sl sz (fun H vs x=>∃n,Rn n H vs x) H v xs):∃n,Sl sz (Rn n) H v xs:=by
 rcases hs with⟨h1,h2⟩|⟨b,o,cap,hv,hc,hx⟩
 . exact⟨0,.inl ⟨h1,h2⟩⟩
 . obtain⟨n,hn⟩:=Hk (p:=fun i (x:α) n=>∃vs:List Value,vs.length=sz/\At H b (o+i*sz) vs/\Rn n H vs x) (fun i x n m hnm h=>by obtain⟨vs,g1,g2,g3⟩:=h;exact⟨vs,g1,g2,hm _ _ _ _ hnm g3⟩) xs 0
    (fun i x hi=>by
     obtain⟨vs,g1,g2,n,g3⟩:=hx i x hi;exact⟨n,vs,g1,by rw[eK];exact g2,g3⟩)
   refine⟨n,.inr ⟨b,o,cap,hv,hc,fun i x hi=>?_⟩⟩;have:=hn i x hi;rwa[eK]at this
def qM(s:Nat)(O:List (Option Nat))(w:World)(O':List (Option Nat))(w':World):Prop:=∀S,Le (Hv s S O w) (Hv s S O' w')
def pickL{α:Type}(l:List α):List Nat->Option (List α)
 |[]=>some []
 |i::r=>match l[i]?,pickL l r with
  |some x,some y=>some (x::y)
  |_,_=>none
def fL:List Nat->Bool
 |[]=>true
 |i::r=>!(cr i r)&&fL r
section
variable {P:Program} {s:Nat} {S:Nat->Prop} {X O O' O'':List (Option Nat)} {C C':List cW} {w w' w'' w0:World} {α:Type} {r:bQ α}
theorem qM.step(h:Step O O' w w'):qM s O w O' w':=fun _=>Hv.step h
theorem qM.ext(h:Ext w w'):qM s O w O w':=fun _=>Hv.ext h
theorem ks(w:World){O O':List (Option Nat)}{w1 w2:World}(h:Step O O' w1 w2):qM w.heap.size O w1 O' w2:=qM.step h
theorem ke{X F:List (Option Nat)}{w0 w1 w2:World}{O:List (Option Nat)}{C:List cW}(hL:Loc X F w0 w1 O C)(h:Ext w1 w2):qM w0.heap.size O w1 O w2:=qM.ext h
theorem px{b:Nat}{cs:List Value}(hc:dC w (some b) (.cells cs)){H:Hp}(hH:∀o,w.heap[b]?=some o->H b=some o):At H b 0 cs:=by
 obtain⟨t,lo,hi,h1,_⟩:=hc;intro i hi;simp[kR,hH _ h1]
theorem wS{H:Hp}{b o n cap:Nat}{pre cs sp:List Value}{xs:List α}(hA:At H b 0 (pre++(cs++sp)))(hE:bS r H cs xs)(hz:(r.sz==0)=false)(ho:o=pre.length)(hn:n=xs.length)(hcap:(cs++sp).length=cap*r.sz):Rs r H (fk (some b) o n cap) xs:=by
  have hpos : 0 < r.sz := by have : ¬ r.sz = 0 := by simpa using hz
                             omega
  subst ho;subst hn;have hcx:xs.length<=cap:=by
    have:xs.length*r.sz<=cap*r.sz:=by rw[<-hcap,dd,hE.length];omega
    exact F7 this hpos
  refine bS.rs (pre:=pre) hE ?_ hcx;have:=hA.part (us:=cs) pre.length (by rw[B6 rfl,Gb rfl]);rwa[eK]at this
theorem qB{H H':Hp}{o n cap:Nat}{pre cs sp:List Value}{xs:List α}(h0:pre++(cs++sp)=[])(hE:bS r H cs xs)(hz:(r.sz==0)=false):Rs r H' (fk none o n cap) xs:=by
  have hpos : 0 < r.sz := by have : ¬ r.sz = 0 := by simpa using hz
                             omega
  have:xs=[]:=by
    apply B3;rcases gz xs.length with h1|h1
    . exact h1
    . have:=wT (pre:=pre) (sp:=sp) hE (bV h1) hpos;rw[h0]at this;simp at this
  subst this;exact Rs.nil
end
section
variable {P:Program} {ty:TypeId} {ρ:Operand->Value} {w:World} {R:Value->World->Prop}
theorem aF.makeFunc{f:FuncId}{caps:List Operand}{vs:List Value}(hv:caps.map ρ=vs)(h:R (.func (.func f) #[] vs.toArray) w):aF P (.makeFunc (.func f) #[] caps.toArray) ty ρ w R:=by
 have:(caps.toArray.map ρ)=vs.toArray:=by rw[<-hv];simp
 simp only[aF,cZ,execOp,this];simp[Instr.makeFunc,upon];exact h
end
open Go Go.RowKit
def Any(_:Nat):Prop:=True
section
variable {s:Nat} {S:Nat->Prop} {X O O' OB:List (Option Nat)} {C CB:List cW} {w w' w'' w0 w1:World} {α:Type} {r:bQ α} {Z Z':Nat->Prop} {cf ft:List (Option Nat)} {φ:(Nat->Prop)->World->Prop}
theorem Loc.Ur(w:World):Loc [] [] w w [] []:=Loc.begin trivial trivial
end
theorem Kz(x y:List UInt8):(x==y)=decide (x=y):=by
 by_cases h:x=y
 . subst h;simp
 . simp[h]
section
variable {P:Program} {ty:TypeId} {ρ:Operand->Value} {w:World} {R:Value->World->Prop}
theorem aF.sAdd{t u:TypeId}{a b:Operand}{x y:List UInt8}(ha:ρ a=.string (s8 x))(hb:ρ b=.string (s8 y))(hl:(x.length:Int)+y.length<=9223372036854775807)(h:R (.string (s8 (x++y))) w):aF P (.binOp .add t a b u) ty ρ w R:=by
 have h1:¬(((s8 x).size+(s8 y).size:Nat):Int)>IntKind.i64.max:=by
  have hm:IntKind.i64.max=9223372036854775807:=by decide
  rw[xM,xM,hm];omega
 have hr:(Op.stringOp .add (s8 x) (s8 y)).run P w=.ok (.string (s8 (x++y))) w:=by
  simp only[Op.stringOp];rw[if_neg h1,PF];rfl
 simp only[aF,cZ,execOp,ha,hb];simp only[binOp,eqGuard];simp[hr,upon];exact h
theorem aF.sEql{t u:TypeId}{a b:Operand}{x y:List UInt8}(ha:ρ a=.string (s8 x))(hb:ρ b=.string (s8 y))(h:R (.bool (decide (x=y))) w):aF P (.binOp .eql t a b u) ty ρ w R:=by
 have hr:(Op.stringOp .eql (s8 x) (s8 y)).run P w=.ok (.bool (decide (x=y))) w:=by
  simp only[Op.stringOp,Lz];rw[Kz];rfl
 simp only[aF,cZ,execOp,ha,hb];simp only[binOp,eqGuard];simp[hr,upon];exact h
theorem aF.sNeq{t u:TypeId}{a b:Operand}{x y:List UInt8}(ha:ρ a=.string (s8 x))(hb:ρ b=.string (s8 y))(h:R (.bool (decide (¬x=y))) w):aF P (.binOp .neq t a b u) ty ρ w R:=by
 have hr:(Op.stringOp .neq (s8 x) (s8 y)).run P w=.ok (.bool (decide (¬x=y))) w:=by
  simp only[Op.stringOp,Lz];rw[Kz,decide_not];rfl
 simp only[aF,cZ,execOp,ha,hb];simp only[binOp,eqGuard];simp[hr,upon];simpa using h
end
open Go Go.RowKit
def iw(z:Int):Int:=IntKind.i64.wrap z
def uw(z:Int):Int:=IntKind.u64.wrap z
def dU(z:Int):Int:=IntKind.u32.wrap z
def uw8(z:Int):Int:=IntKind.u8.wrap z
theorem bH{z:Int}(h1:-9223372036854775808<=z)(h2:z<=9223372036854775807):iw z=z:=JH rfl h1 h2
theorem fM(z:Int):uw z=z%18446744073709551616:=wu
theorem gn(z:Int):dU z=z%4294967296:=wu32
def qN(k:IntKind)(x y:Int):Int:=k.wrap ((BitVec.ofInt k.bits x&&&BitVec.ofInt k.bits y).toNat:Int)
def jA(k:IntKind)(x y:Int):Int:=k.wrap ((BitVec.ofInt k.bits x|||BitVec.ofInt k.bits y).toNat:Int)
def Bq(k:IntKind)(x y:Int):Int:=k.wrap ((BitVec.ofInt k.bits x^^^BitVec.ofInt k.bits y).toNat:Int)
def Ct(k:IntKind)(x y:Int):Int:=k.wrap ((BitVec.ofInt k.bits x&&&~~~BitVec.ofInt k.bits y).toNat:Int)
def bnot(k:IntKind)(x:Int):Int:=Bq k (if k.signed then-1 else k.max) x
def iW(k:IntKind)(x y:Int):Int:=k.wrap (x*2^(min y.toNat k.bits))
def fq(k:IntKind)(x y:Int):Int:=x.fdiv (2^(min y.toNat k.bits))
theorem N5{k:IntKind}{x y:Nat}(hx:k.wrap (x:Int)=(x:Int))(hy:k.wrap (y:Int)=(y:Int)):qN k x y=((x&&&y:Nat):Int):=by
 obtain⟨h1,h2⟩:=Ay hx;obtain⟨h3,h4⟩:=Ay hy;have hw:=KD (z:=x&&&y) hx hy (B9 Nat.and_le_left h1) (fun hs=>B9 Nat.and_le_left (h2 hs));unfold qN;rw[Be,Be,show(BitVec.ofNat k.bits x&&&BitVec.ofNat k.bits y).toNat=x&&&y by simp[BitVec.toNat_and,yz h1,yz h3],hw]
theorem LX{k:IntKind}{x y:Nat}(hx:k.wrap (x:Int)=(x:Int))(hy:k.wrap (y:Int)=(y:Int)):jA k x y=((x|||y:Nat):Int):=by
 obtain⟨h1,h2⟩:=Ay hx;obtain⟨h3,h4⟩:=Ay hy;have hw:=KD (z:=x|||y) hx hy (Nat.or_lt_two_pow h1 h3) (fun hs=>Nat.or_lt_two_pow (h2 hs) (h4 hs));unfold jA;rw[Be,Be,show(BitVec.ofNat k.bits x|||BitVec.ofNat k.bits y).toNat=x|||y by simp[BitVec.toNat_or,yz h1,yz h3],hw]
section
variable {P:Program} {ty:TypeId} {ρ:Operand->Value} {w:World} {R:Value->World->Prop}
theorem aF.iand{t u:TypeId}{a b:Operand}{k:IntKind}{x y:Int}(hx:ρ a=.int k x)(hy:ρ b=.int k y)(h:R (.int k (qN k x y)) w):aF P (.binOp .and t a b u) ty ρ w R:=
 aF.jz hx hy (by simp[binOp,Op.intBits,qN]) h
theorem aF.ior{t u:TypeId}{a b:Operand}{k:IntKind}{x y:Int}(hx:ρ a=.int k x)(hy:ρ b=.int k y)(h:R (.int k (jA k x y)) w):aF P (.binOp .or t a b u) ty ρ w R:=
 aF.jz hx hy (by simp[binOp,Op.intBits,jA]) h
theorem aF.ixor{t u:TypeId}{a b:Operand}{k:IntKind}{x y:Int}(hx:ρ a=.int k x)(hy:ρ b=.int k y)(h:R (.int k (Bq k x y)) w):aF P (.binOp .xor t a b u) ty ρ w R:=
 aF.jz hx hy (by simp[binOp,Op.intBits,Bq]) h
theorem aF.OW{t u:TypeId}{a b:Operand}{k:IntKind}{x y:Int}(hx:ρ a=.int k x)(hy:ρ b=.int k y)(h:R (.int k (Ct k x y)) w):aF P (.binOp .andNot t a b u) ty ρ w R:=
 aF.jz hx hy (by simp[binOp,Op.intBits,Ct]) h
theorem aF.ishl{t u:TypeId}{a b:Operand}{k k':IntKind}{x y:Int}(hx:ρ a=.int k x)(hy:ρ b=.int k' y)(h0:¬y<0)(h:R (.int k (iW k x y)) w):aF P (.binOp .shl t a b u) ty ρ w R:=
 aF.jz hx hy (by simp[binOp,Op.shift,h0,iW]) h
theorem aF.ishr{t u:TypeId}{a b:Operand}{k k':IntKind}{x y:Int}(hx:ρ a=.int k x)(hy:ρ b=.int k' y)(h0:¬y<0)(h:R (.int k (fq k x y)) w):aF P (.binOp .shr t a b u) ty ρ w R:=
 aF.jz hx hy (by simp[binOp,Op.shift,h0,fq]) h
theorem aF.inot{t:TypeId}{a:Operand}{k:IntKind}{x:Int}(hx:ρ a=.int k x)(h:R (.int k (bnot k x)) w):aF P (.unOp .xor t a) ty ρ w R:=by
 simp[aF,cZ,execOp,hx,Op.unary,Op.intBits,upon];exact h
end
section
variable {P:Program} {ty:TypeId} {ρ:Operand->Value} {w w0:World} {R:Value->World->Prop} {X:List (Option Nat)} {O:List (Option Nat)} {C:List cW} {α:Type} {r:bQ α} {H:Hp}
theorem aF.On{t el:TypeId}{a c:Operand}{k k':IntKind}{i:Int}{m by':Nat}{z:Value}{zc:List Value}{x:α}{Y:List α}(hu:P.underlying t=some (.slice el))(ti:TI P el r.sz by' z)(hzc:z.cells=zc.toArray)(hR:r.R H zc x)
 (ha:ρ a=.int k i)(hc:ρ c=.int k' i)(hi:i=(m:Int))(hb:by'*m<=281474976710656)(hm:m<=9223372036854775807)(hY:Y=List.replicate m x)(hL:Loc X [] w0 w O C)
 (h:∀b w' cs,bS r H cs Y->(cs++[]).length=m*r.sz->Loc X [] w0 w' (some b::O) (.cells ([]++(cs++[]))::C)->Step O (some b::O) w w'->R (fk (some b) 0 Y.length m) w'):
 aF P (.makeSlice t a c) ty ρ w R:=by
 subst hY;exact aF.mkRow hu ti hzc hR ha hc hi hb hm hL h
theorem aF.Lk{t el:TypeId}{a c:Operand}{by' n cap i:Nat}{z x:Value}{ob:Option Nat}{cs sp ds:List Value}{xs ys Y:List α}(hu:P.underlying t=some (.slice el))(ti:TI P el r.sz by' z)(hzc:z.cells.size=r.sz)(hz:(r.sz==0)=false)
 (ha:ρ a=fk ob 0 n cap)(hc:ρ c=x)(hL:Loc X [] w0 w O C)(hO:O[i]?=some ob)(hC:C[i]?=some (.cells ([]++(cs++sp))))(hE:bS r H cs xs)(hn:n=xs.length)(hcap:(cs++sp).length=cap*r.sz)(hsrc:Src w x ys.length r.sz ds)(hD:bS r H ds ys)
 (h63:xs.length+ys.length<=9223372036854775807)(hb:(xs.length+ys.length)*by'<=140737488355328)(hY:Y=xs++ys)
 (h:∀ob' cap' sp' ds' w',bS r H ds' Y->(ds'++sp').length=cap'*r.sz->Loc X [] w0 w' (O.set i ob') (C.set i (.cells ([]++(ds'++sp'))))->Step O (O.set i ob') w w'->R (fk ob' 0 Y.length cap') w'):
 aF P (.call {callee:=.builtin .append,args:=#[a,c],argTypes:=#[t,t]}) ty ρ w R:=by
 subst hY;exact aF.apRow hu ti hzc hz ha hc hL hO hC hE hn hcap hsrc hD h63 hb h
theorem aF.Sf{t:TypeId}{x y:Operand}{b q n by':Nat}{z v:Value}{pre cs sp vs:List Value}{xs Y:List α}{a:α}(ti:TI P t r.sz by' z)(hx:ρ x=.pointer (some ⟨b,q,none⟩))(hy:ρ y=v)(hv:v.cells=vs.toArray)(hR:r.R H vs a)
 (hL:Loc X [] w0 w O C)(i:Nat)(hO:O[i]?=some (some b))(hC:C[i]?=some (.cells (pre++(cs++sp))))(hE:bS r H cs xs)(hn:n<xs.length)(hq:q=pre.length+n*r.sz)(hY:Y=xs.set n a)
 (h:∀w' cs',Loc X [] w0 w' O (C.set i (.cells (pre++(cs'++sp))))->Step O O w w'->bS r H cs' Y->cs'.length=cs.length->R undef w'):aF P (.store t x y) ty ρ w R:=by
 subst hY;exact aF.stRow ti hx hy hv hR hL i hO hC hE hn hq h
theorem aF.QP{t el:TypeId}{x:Operand}{lo hi:Option Operand}{by' l h':Nat}{z v:Value}{xs Y:List α}(hu:P.underlying t=some (.slice el))(ti:TI P el r.sz by' z)
 (hx:ρ x=v)(hS:Rs r H v xs)(hlo:(lo=none/\l=0)\/∃k y,lo=some y/\ρ y=.int k ((l:Nat):Int))(hhi:(hi=none/\h'=xs.length)\/∃k y,hi=some y/\ρ y=.int k ((h':Nat):Int))(h1:l<=h')(h2:h'<=xs.length)(hY:Y=(xs.take h').drop l)
 (hk:∀v',Rs r H v' Y->R v' w):aF P (.slice t x lo hi none) ty ρ w R:=by
 subst hY;exact aF.cutRo hu ti hx hS hlo hhi h1 h2 hk
theorem aF.Rk{t el:TypeId}{x:Operand}{hi:Option Operand}{by' o n l h' cap:Nat}{z:Value}{ob:Option Nat}{pre cs sp:List Value}{xs Y:List α}(hu:P.underlying t=some (.slice el))(ti:TI P el r.sz by' z)(hz:(r.sz==0)=false)
 (hx:ρ x=fk ob o n cap)(hc:dC w ob (.cells (pre++(cs++sp))))(hE:bS r H cs xs)(hn:n=xs.length)(hcap:(cs++sp).length=cap*r.sz)(hhi:(hi=none/\h'=xs.length)\/∃k y,hi=some y/\ρ y=.int k ((h':Nat):Int))(h2:h'<=xs.length)(hl:(0:Int)=(l:Int))(hY:Y=(xs.take h').drop l)
 (hk:∀cs' sp',cs'++sp'=cs++sp->bS r H cs' Y->R (fk ob o Y.length cap) w):aF P (.slice t x none hi none) ty ρ w R:=by
 have:l=0:=by omega
 subst this;rw[lL]at hY;subst hY;exact aF.P3 hu ti hz hx hc hE hn hcap hhi h2 hk
end
open Go Go.RowKit
theorem JU{α:Type}{p:Prop}[Decidable p]{A B r:α}(hc:p)(h:(if p then A else B)=r):A=r:=by rw[if_pos hc]at h;exact h
theorem IG{α:Type}{p:Prop}[Decidable p]{A B r:α}(hc:¬p)(h:(if p then A else B)=r):B=r:=by rw[if_neg hc]at h;exact h
section
variable {P:Program} {ty:TypeId} {ρ:Operand->Value} {w:World} {R:Value->World->Prop} {α:Type} {r:bQ α} {H:Hp}
theorem aF.IY{t el:TypeId}{x y:Operand}{b o m cap:Nat}{i:Int}{n:Nat}{k:IntKind}{by':Nat}{z v:Value}{xs:List α}{a:α}(hu:P.underlying t=some (.slice el))(ti:TI P el r.sz by' z)
 (hx:ρ x=v)(hv:v=.slice (some ⟨b,o,none⟩) xs.length cap)(hy:ρ y=.int k i)(hi:i=(n:Int))(hn:xs[n]?=some a)(hm:m=o+n*r.sz)
 (h:R (.pointer (some ⟨b,m,none⟩)) w):aF P (.indexAddr t x y) ty ρ w R:=by
 subst hi;subst hm;exact aF.indexAddr hu ti (hx.trans hv) hy (dS.1 hn).1 rfl h
theorem aF.ET{t el:TypeId}{x y:Operand}{b o m cap q:Nat}{i:Int}{n:Nat}{k:IntKind}{by':Nat}{z:Value}{xs:List α}(hu:P.underlying t=some (.slice el))(ti:TI P el r.sz by' z)
 (hx:ρ x=fk (some b) o m cap)(hm:m=xs.length)(hy:ρ y=.int k i)(hi:i=(n:Int))(hn:n<xs.length)(hq:q=o+n*r.sz)
 (h:R (.pointer (some ⟨b,q,none⟩)) w):aF P (.indexAddr t x y) ty ρ w R:=by
 subst hi;subst hq;subst hm;exact aF.indexAddr hu ti hx hy hn rfl h
theorem aF.Je{t:TypeId}{x:Operand}{d:TypeDesc}{b q:Nat}{cs:List Value}{v:Value}(hd:P.underlying t=some d)(hg:iG d=false)(hx:ρ x=.pointer (some ⟨b,q,none⟩))(hc:dC w (some b) (.cells cs))
 (hv:(cs.drop q).take [v].length=[v])(h:R v w):aF P (.load t x) ty ρ w R:=by
 refine aF.Ly hd hg hx hc ?_ h;have:=congrArg (·[0]?) hv;simp only[ku,vM,te,Nat.lt_one_iff,if_true,pO]at this;exact this
end
open Go Go.RowKit
end Go.X
namespace Go.X
open Go Go.RowKit
section
variable {P:Program} {ty:TypeId} {ρ:Operand->Value} {w w0:World} {R:Value->World->Prop} {X:List (Option Nat)} {O:List (Option Nat)} {C:List cW} {α:Type} {r:bQ α} {H:Hp}
theorem aF.Tw{t:TypeId}{x y:Operand}{xs:List UInt8}{i:Int}{n:Nat}{k:IntKind}{a:UInt8}(hu:P.underlying t=some .string)(hx:ρ x=.string (s8 xs))(hy:ρ y=.int k i)(hi:i=(n:Int))(hn:xs[n]?=some a)(hk:R (.int .u8 (a.toNat:Int)) w):aF P (.index t x y) ty ρ w R:=by
 subst hi;have hlt:=(dS.1 hn).1;have hg:(s8 xs)[n]?=some a:=by
  have hs:n<(s8 xs).size:=by rw[xM];exact hlt
  rw[getElem?_pos (s8 xs) n hs];exact congrArg some (dS.1 hn).2
 have hr:(Instr.index t (.string (s8 xs)) (.int k ((n:Nat):Int))).run P w=.ok (.int .u8 (a.toNat:Int)) w:=by
  simp only[Instr.index,asIntOf,Sem.run_bind,Sem.run_pure,Result.andThen_ok,run_underlying hu,mn,hg];simp
 simp only[aF,cZ,execOp,hx,hy];simp only[Sem.run_bind,hr,Result.andThen_ok,Sem.run_pure,upon];exact hk
end
open Go Go.RowKit
def nt{α:Type}(xs:List α)(l h:Int):Option Unit:=if 0<=l/\l<h/\h<=xs.length then some ()else none
theorem LV{α:Type}{xs:List α}{l h:Int}{u:Unit}(hs:nt xs l h=some u):∃m n:Nat,l=(m:Int)/\h=(n:Int)/\m<n/\n<=xs.length:=by
 unfold nt at hs;split at hs
 . exact⟨l.toNat,h.toNat,by omega,by omega,by omega,by omega⟩
 . cases hs
theorem RQ{α:Type}{xs:List α}{l h:Nat}(h1:l<h)(h2:h<=xs.length):nt xs (l:Int) (h:Int)=some ():=by
 unfold nt;rw[if_pos ⟨by omega,by omega,by omega⟩]
theorem TV{α:Type}{r:bQ α}{H:Hp}{cs sp:List Value}{xs:List α}{cap:Nat}(hE:bS r H cs xs)(hz:(r.sz==0)=false)(hcap:(cs++sp).length=cap*r.sz):xs.length<=cap:=by
  have hpos : 0 < r.sz := by have : ¬ r.sz = 0 := by simpa using hz
                             omega
  have:xs.length*r.sz<=cap*r.sz:=by rw[<-hcap,dd,hE.length];omega
  exact F7 this hpos
section
variable {P:Program} {ty:TypeId} {ρ:Operand->Value} {w w0:World} {R:Value->World->Prop} {X:List (Option Nat)} {O:List (Option Nat)} {C:List cW} {α:Type} {r:bQ α} {H:Hp}
theorem aF.PQ{t el:TypeId}{x:Operand}{lo hi:Option Operand}{by' b l h' cap ln:Nat}{z:Value}{cs sp:List Value}{xs:List α}(hu:P.underlying t=some (.slice el))(ti:TI P el r.sz by' z)(hz:(r.sz==0)=false)
 (hx:ρ x=fk (some b) 0 ln cap)(hln:ln=xs.length)(hE:bS r H cs xs)(hcap:(cs++sp).length=cap*r.sz)(hlo:(lo=none/\l=0)\/∃k y,lo=some y/\ρ y=.int k ((l:Nat):Int))(hhi:(hi=none/\h'=ln)\/∃k y,hi=some y/\ρ y=.int k ((h':Nat):Int))(h1:l<h')(h2:h'<=xs.length)
 (hk:R (.slice (some ⟨b,0+l*r.sz,none⟩) (h'-l) (cap-l)) w):aF P (.slice t x lo hi none) ty ρ w R:=by
 have:=TV hE hz hcap;exact aF.RU hu ti hx hlo hhi (by omega) (by omega) (by omega) hk
theorem aF.IT{x:Operand}{t el:TypeId}{a:Option Addr}{n cap:Nat}{e:Int}(hu:P.underlying t=some (.slice el))(hx:ρ x=.slice a n cap)(he:((n:Nat):Int)=e)(h:R (.int .i64 e) w):
 aF P (.call {callee:=.builtin .len,args:=#[x],argTypes:=#[t]}) ty ρ w R:=by
 subst he;exact aF.sq hu hx h
end
open Go Go.RowKit
open Go Go.RowKit
theorem bS.EN{α:Type}{r:bQ α}(hr:∀(H H':Hp) (vs:List Value) (x:α),r.R H vs x->r.R H' vs x){H H':Hp}:∀{cs:List Value} {xs:List α},bS r H cs xs->bS r H' cs xs
 |_,[],h=>h
 |_,_::_,⟨a,b,h1,h2,h3⟩=>⟨a,b,h1,hr _ _ _ _ h2,h3.EN hr⟩
def vY(v:Value):Prop:=∀a n c,v=.slice a n c->n=c
section
variable {P:Program} {ty:TypeId} {ρ:Operand->Value} {w w0:World} {R:Value->World->Prop} {X:List (Option Nat)} {O:List (Option Nat)} {C:List cW} {α:Type} {r:bQ α} {H:Hp}
theorem aF.QW{t el:TypeId}{x:Operand}{y y':Operand}{by' n:Nat}{i:Int}{k k':IntKind}{z v:Value}{xs:List α}(hu:P.underlying t=some (.slice el))(ti:TI P el r.sz by' z)
 (hx:ρ x=v)(hS:Rs r H v xs)(hy:ρ y=.int k i)(hy':ρ y'=.int k' i)(hi:i=(n:Int))(hn:n=xs.length)
 (hk:∀v',Rs r H v' xs->vY v'->R v' w):aF P (.slice t x none (some y) (some y')) ty ρ w R:=by
 obtain⟨inf,hi',hs,_,_⟩:=ti;subst hi;subst hn;obtain⟨a,len,cap,rfl⟩:∃a len cap,v=.slice a len cap:=by
  rcases hS with⟨⟨oa,h⟩,_⟩|⟨b,o,c,h,_⟩<;>exact⟨_,_,_,h⟩
 have hlen:len=xs.length/\xs.length<=cap:=by
  rcases hS with⟨⟨oa,h⟩,h2⟩|⟨b,o,c,h,h2,_⟩
  . cases h;rw[h2];exact⟨rfl,bK _⟩
  . cases h;exact⟨rfl,h2⟩
 obtain⟨rfl,hc⟩:=hlen;have b1:∀k m,xs.length<=m->∀code,(Instr.sliceBound (.int k ((xs.length:Nat):Int)) m code).run P w=.ok xs.length w:=by
  intro k m hm code;have:(xs.length:Int)<=(m:Int):=by omega
  simp[Instr.sliceBound,asIntOf,this,hm]
 have hr:(Instr.sliceAt t (.slice a xs.length cap) none (some (.int k ((xs.length:Nat):Int))) (some (.int k' ((xs.length:Nat):Int)))).run P w=.ok (.slice a xs.length xs.length) w:=by
  have e:(if xs.length=0 then a else a.map (·.add (0*inf.size)))=a:=by
   split
   . rfl
   . cases a with
     |none=>rfl
     |some a=>simp[Addr.add]
  have h1:=b1 k' cap hc;have h2:=b1 k xs.length (bK _);simp only[Instr.sliceAt,Instr.slice,Sem.run_bind,run_underlying hu,Result.andThen_ok,Instr.sliceBounds,Option.isSome_some,if_true,h1,h2,sizeOf,typeInfo,run_program,hi',Sem.run_pure,Nat.sub_zero,e]
 simp only[aF,cZ,execOp,hx];simp only[F9,ov,hy,hy',Sem.run_bind,hr,Result.andThen_ok,Sem.run_pure,upon];refine hk _ ?_ (fun a' n' c' h=>by cases h;rfl);rcases hS with⟨⟨oa,h⟩,h2⟩|⟨b,o,c,h,h2,h3⟩
 . subst h2;injection h with e1 _ _;subst e1;exact .inl ⟨⟨_,rfl⟩,rfl⟩
 . injection h with e1 _ _;subst e1;exact .inr ⟨b,o,_,rfl,bK _,h3⟩
end
open Go Go.RowKit
section
variable {P:Program} {ty:TypeId} {ρ:Operand->Value} {w w0:World} {R:Value->World->Prop} {X:List (Option Nat)} {O:List (Option Nat)} {C:List cW} {α:Type} {r:bQ α} {S':Nat->Prop}
theorem aF.Hb{t el:TypeId}{a c:Operand}{by':Nat}{z v x:Value}{ds:List Value}{xs ys Y:List α}(hu:P.underlying t=some (.slice el))(ti:TI P el r.sz by' z)(hzc:z.cells.size=r.sz)(hz:(r.sz==0)=false)
    (ha:ρ a=v)(hc:ρ c=x)(hS:Rs r (vw S' w) v xs)(hcl:vY v)(hsrc:Src w x ys.length r.sz ds)(hD:bS r (vw S' w) ds ys)(hpos:0<ys.length)
    (h63:xs.length+ys.length<=9223372036854775807)(hb:(xs.length+ys.length)*by'<=140737488355328)(hY:Y=xs++ys)(hL:Loc X [] w0 w O C)
    (h:∀b cap sp cs w',bS r (vw S' w) cs Y->(cs++sp).length=cap*r.sz->Loc X [] w0 w' (some b::O) (.cells ([]++(cs++sp))::C)->Step O (some b::O) w w'->R (fk (some b) 0 Y.length cap) w'):
    aF P (.call {callee:=.builtin .append,args:=#[a,c],argTypes:=#[t,t]}) ty ρ w R:=by
  obtain⟨inf,hi,hs,hby,hzz⟩:=ti;subst hby;subst hY;obtain⟨hnl,hsrc⟩:=hsrc;obtain⟨b2,o2,c2,rfl,hcell⟩:∃b o cap,x=.slice (some ⟨b,o,none⟩) ys.length cap/\∀j u,ds[j]?=some u->w.cell? ⟨b,o+j,none⟩=some u:=by
    rcases hsrc with⟨_,h⟩|h
    . omega
    . exact h
  have hnews:∀j u,ds[j]?=some u->w.cell? ((⟨b2,o2,none⟩:Addr).add j)=some u:=fun j u hj=>by rw[add_plain];exact hcell j u hj
  have fin:∀(olds:List Value) (old:Nat),old<xs.length+ys.length->bS r (vw S' w) olds xs->
      (Builtin.append_ #[t,t] ty #[v,.slice (some ⟨b2,o2,none⟩) ys.length c2]).run P w=.ok (.slice (some ⟨w.heap.size,0,none⟩) (xs.length+ys.length) (grownCap w (xs.length+ys.length) old el))
        (w.drew.alloc (.cells (olds.toArray++ds.toArray++Builtin.zeroCells z.cells (grownCap w (xs.length+ys.length) old el-(xs.length+ys.length))) el))->
      aF P (.call {callee:=.builtin .append,args:=#[a,c],argTypes:=#[t,t]}) ty ρ w R:=by
    intro olds old ho hE hr;have hge:=grownCap_ge w (xs.length+ys.length) old el;have hEL:=Ext.drawn w (w.drawn+1);have hL1:Loc X [] w0 w.drew O C:=hL.ext hEL;have hal:=hL1.alloc (o:=.cells (olds.toArray++ds.toArray++Builtin.zeroCells z.cells (grownCap w (xs.length+ys.length) old el-(xs.length+ys.length))) el)
      (c:=.cells ([]++((olds++ds)++(Builtin.zeroCells z.cells (grownCap w (xs.length+ys.length) old el-(xs.length+ys.length))).toList)))
      (by have:=oe w.drew (olds.toArray++ds.toArray++Builtin.zeroCells z.cells (grownCap w (xs.length+ys.length) old el-(xs.length+ys.length))) el
          simpa using this)
    have hst:Step O (some w.heap.size::O) w (w.drew.alloc (.cells (olds.toArray++ds.toArray++Builtin.zeroCells z.cells (grownCap w (xs.length+ys.length) old el-(xs.length+ys.length))) el)):=
      Step.trans (Step.ext hEL) hal.2 (bK _)
    have hk:=h w.heap.size (grownCap w (xs.length+ys.length) old el) (Builtin.zeroCells z.cells (grownCap w (xs.length+ys.length) old el-(xs.length+ys.length))).toList (olds++ds) _ (hE.append hD)
      (by simp only[dd,Array.length_toList,size_zeroCells,hzc,hE.length,hnl,<-gL];congr 1;omega) hal.1 hst
    rw[dd]at hk;simp only[aF,cZ,execOp,resolve,invoke,builtin];simp[ha,hc,hr,upon];simpa[fk]using hk
  have hfit:∀old,old<xs.length+ys.length->Builtin.nextslicecap (xs.length+ys.length) old*inf.bytes<=281474976710656:=fun old ho=>growslice_fits ho hb;rcases hS with⟨h1,h2⟩|⟨b,o,cap,hv,hcap,hxs⟩
  . obtain⟨oa,h1⟩:=h1;subst h1;subst h2;refine fin [] 0 (by simp;omega) rfl ?_;cases oa with
    |some a=>
      exact run_append_grow (P:=P) w t ty el inf z hu hi hzz a 0 0 [] (by simp) (fun j u hj=>by simp at hj) ⟨b2,o2,none⟩ ys.length c2 ds (by rw[hnl,hs]) hnews (by omega) (by omega) (hfit 0 (by omega))
    |none=>
    have hr:=run_append_nil (P:=P) w t ty el inf z hu hi hzz ⟨b2,o2,none⟩ ys.length c2 ds (by rw[hnl,hs]) hnews hpos (by simp at h63;omega) (by
      have:ys.length*inf.bytes<=140737488355328:=by simpa using hb
      omega)
    simpa using hr
  . have hcn:=hcl _ _ _ hv;obtain⟨cs,g1,g2⟩:=Rs.cells hxs;refine fin cs cap (by omega) g2 ?_;subst hv;have hr:=run_append_grow (P:=P) w t ty el inf z hu hi hzz ⟨b,o,none⟩ xs.length cap cs (by rw[g2.length,hs]) (fun j u hj=>by
      rw[add_plain];exact yr (A:=[]) (yk (fun b o h=>uY (Ba h).2 (by simp)) (g1.get j hj))) ⟨b2,o2,none⟩ ys.length c2 ds (by rw[hnl,hs]) hnews (by omega) (by omega) (hfit cap (by omega))
    exact hr
end
open Go.ChangeShapes Go.WideShapes Go.ChangeAt Go.RowKit
section
variable {H:Type} {enc:TypeId×Value->H} {P:Program} {W:World}
theorem LB{W':World}(hl:laidOutB P=true)(hE:Ext W W'){sp:Nat->Bool}:
 ∀{ts:List TypeId} {vs:List Value} {ds:List (DataW H)} {p:List MemPlace},(∀t∈ts,P.readableRec t=true/\t<P.types.size)->(∀x∈p,x.block<W.heap.size)->(∀x∈p,sp x.block=true)->
  DataW.TrodAll enc P W 0 (fun _=>true) true ts vs ds p->DataW.TrodAll enc P W' 0 sp true ts vs ds p
 |[],_,_,_,_,_,_,h=>by
  obtain⟨rfl,rfl,rfl⟩:=trodAll_nil h;exact trodAll_mk0
 |t::ts,vs,ds,p,hr,hlt,hsp,h=>by
  obtain⟨v,vs1,d,ds1,a,b,rfl,rfl,rfl,h1,h2⟩:=trodAll_cons h;have hrt:=hr t cO;exact trodAll_cons_mk (WideElems.Trod_stays hl hrt.1 hrt.2 h1 (fun x hx=>hE.same (hlt x (Ca _ hx))) (fun x hx=>hsp x (Ca _ hx)))
   (LB hl hE (fun u hu=>hr u (cJ _ hu)) (fun x hx=>hlt x (vR _ hx)) (fun x hx=>hsp x (vR _ hx)) h2)
theorem RA{f:Func}{s:ChangeSpec}{apart fresh handsOn again:Bool}{W':World}{args:Array Value}{ds gs:List (DataW H)}{before:List MemPlace}{tb:TypeId}
 (hl:laidOutB P=true)(hr:∀t∈f.params.toList,P.readableRec t=true/\t<P.types.size)(hv:s.vars=[])(hrt:f.resultTypes=#[tb]) (htb:P.underlying tb=some .bool)
 (hW:DataW.Whole enc P f.params.toList s.vars apart W args.toList ds gs before) (hs:s.fn H (ds++gs)={results:=[.lit (.bool true)],args:=ds}) (hE:Ext W W'):
 s.post enc P f apart fresh handsOn again W args (.bool true) W':=by
 have hlt:=hW.lt;have hW':=hW;obtain⟨p,q,hA,hV,rfl,hz,hn⟩:=hW;rw[hv]at hV;obtain⟨rfl,rfl⟩:=trodVars_none hV;simp only[lK]at*;have hargs:∀sp:Nat->Bool,(∀x∈p,sp x.block=true)->DataW.TrodAll enc P W' 0 sp true f.params.toList args.toList (s.fn H ds).args p:=fun sp hsp=>by
  rw[hs];exact LB hl hE hr hlt hsp hA
 have hvars:∀sp:Nat->Bool,DataW.TrodVars enc P W' sp s.vars (s.fn H ds).vars []:=fun sp=>by rw[hs,hv];rfl
 have hres:∀(b:Nat) (sp:Nat->Bool) (hd:Bool),DataW.TrodAll enc P W' b sp hd f.resultTypes.toList ((Value.bool true).resultList f.resultTypes.size) (s.fn H ds).results []:=fun b sp hd=>by
  rw[hs,hrt];exact trodAll_cons_mk (shut_bool htb _) trodAll_mk0
 have hok:=ok_one (P:=P) (W':=W') (f:=f) (v:=.bool true) hrt rfl (okWide_bool_mk htb _);refine⟨ds,[],p,[],p,[],by simpa using hW',by simpa using hres _ _ _,by simpa using hargs _ (fun x hx=>by simpa using hlt x hx),by simpa using hvars _,hE.frame _,fun _=>?_⟩;refine⟨hok,_,_,([]++p)++[],⟨[]++p,[],trodAll_append (by simpa using hargs _ (fun _ _=>rfl)) (by simpa using hres _ _ _),by simpa using hvars _,rfl,?_,?_⟩,?_⟩
 . intro b off hp;have hp':MemPlace.cell b off∈p:=by simpa using hp
   have hlb:=hlt _ hp';have:=hz b off hp';have hb:=hE.block b (show b<W.heap.size from hlb);simp only[World.frozen?,hb]at this⊢;exact this
 . intro ha;simpa using hn ha
 . intro x hx _;simpa using hx
end
open Go Go.ChangeShapes Go.WideShapes Go.ChangeAt Go.RowKit
section
variable {H:Type} {enc:TypeId×Value->H} {P:Program} {W:World}
noncomputable abbrev HW(W:World):Hp:=Hv W.heap.size (fun _=>True) [] W
theorem Mx{w:World}{b o:Nat}{v:Value}(h:w.cell? ⟨b,o,none⟩=some v):kR (HW w) b o=some v:=by
 unfold World.cell? at h;unfold kR HW Hv vw;have hs:HS w.heap.size (fun _=>True) [] b:=⟨.inl trivial,by simp⟩;rw[if_pos hs];cases hb:w.heap[b]?with
 |none=>rw[hb]at h;cases h
 |some x=>
  rw[hb]at h;cases x<;>simp_all
theorem cell_spot{w:World}{a:Addr}{v:Value}(h:w.cell? a=some v):a.spot=none:=by
 unfold World.cell? at h;split at h
 . split at h
   . cases h
   . rename_i h1;cases hs:a.spot with
     |none=>rfl
     |some _=>rw[hs]at h1;simp at h1
 . cases h
def aO(enc:TypeId×Value->H)(P:Program)(W:World)(N:Nat){α:Type}(r:bQ α)(t:TypeId)(G:α->Prop):Prop:= ∀fuel,fuel<=N->∀cs x,DataW.trod enc P W 0 (fun _=>true) true fuel t cs=some x->∃a,r.R (HW W) cs a/\G a
theorem aO.int{N:Nat}{t:TypeId}{k:IntKind}(ht:P.underlying t=some (.int k)):aO enc P W N (aD k) t (fun x=>(Lit.int k x).wf=true):=by
 intro fuel _ cs x h;obtain⟨n,rfl,_,hw⟩:=DataW.trod_int ht h;exact⟨n,rfl,hw⟩
theorem aO.bool{N:Nat}{t:TypeId}(ht:P.underlying t=some .bool):aO enc P W N yS t (fun _=>True):=by
 intro fuel _ cs x h;obtain⟨b,rfl,_⟩:=DataW.trod_bool ht h;exact⟨b,rfl,trivial⟩
theorem y9(b o n:Nat):(⟨b,o,none⟩:Addr).add n=⟨b,o+n,none⟩:=by unfold Addr.add;split<;>simp_all
theorem aO.slice{N:Nat}{α:Type}{r:bQ α}{t e:TypeId}{G:α->Prop}(ht:P.underlying t=some (.slice e))(hc:P.cellsOf e=r.sz)(hz:(r.sz==0)=false)(he:aO enc P W N r e G):
 aO enc P W (N+1) (aV r) t (fun xs=>xs.length<=9223372036854775807/\∀x∈xs,G x):=by
 have hpos:0<r.sz:=by
  have:¬r.sz=0:=by simpa using hz
  omega
 intro fuel hf cs x h;rcases DataW.trod_slice ht h with⟨rfl,rfl⟩|⟨a,len,cap,elems,rest,n,hn,rfl,rfl,hb,hl,hm,hlen,hel,hsp,hns⟩
 . exact⟨[],⟨_,rfl,Rs.nil⟩,by simp,fun _ hx=>by cases hx⟩
 have hcap:cap<=9223372036854775807:=hm;rcases gz cap with h0|h0
 . subst h0;obtain rfl:len=0:=by omega
   exact⟨[],⟨_,rfl,.inl ⟨⟨_,rfl⟩,rfl⟩⟩,by simp,fun _ hx=>by cases hx⟩
 have hfirst:∃y,(W.cells? 0 (a.add (0*P.cellsOf e)) (P.cellsOf e)).bind (DataW.trod enc P W 0 (fun _=>true) true n e)=some y:=by
  rcases gz len with h1|h1
  . obtain⟨hr,hs⟩:=hsp rfl;have:=hs 0 (by omega);rw[h1,eK]at this;exact⟨_,this.trans (bV (by omega))⟩
  . exact⟨_,(hel 0 h1).trans (bV (by omega))⟩
 have hspot:a.spot=none:=by
  obtain⟨y,hy⟩:=hfirst;rw[Gg]at hy;obtain⟨cs',hcs,-⟩:=hy;obtain⟨_,hl',hcell⟩:=World.cells?_some hcs;have:=hcell 0 (by omega);rw[bV (by omega),B5]at this;have:=cell_spot this;simpa[Addr.add]using this
 obtain⟨b,o,s⟩:=a;cases hspot;have each:∀i,i<len->∃x vs,vs.length=r.sz/\At (HW W) b (o+i*r.sz) vs/\r.R (HW W) vs x/\G x:=by
  intro i hi;have hy:=(hel i hi).trans (bV (by omega));rw[Gg]at hy;obtain⟨vs,hcs,hy⟩:=hy;obtain⟨_,hl',hcell⟩:=World.cells?_some hcs;obtain⟨x,hR,hG⟩:=he n (by omega) vs _ hy;refine⟨x,vs,by omega,fun j hj=>?_,hR,hG⟩;have:=hcell j (by omega);rw[bV hj]at this⊢;rw[hc,y9,y9]at this;exact Mx this
 let xs:List α:=List.ofFn (fun i:Fin len=>Classical.choose (each i.1 i.2))
 have hxl:xs.length=len:=by simp[xs]
 refine⟨xs,⟨_,rfl,.inr ⟨b,o,cap,by rw[hxl],by omega,fun i x hi=>?_⟩⟩,by omega,fun x hx=>?_⟩
 . have hil:i<len:=by rw[<-hxl];exact(dS.1 hi).1
   have hx:x=Classical.choose (each i hil):=by
    have:=(dS.1 hi).2;simp only[xs,Cb]at this;exact this.symm
   subst hx;obtain⟨vs,h1,h2,h3,_⟩:=yA (each i hil);exact⟨vs,h1,h2,h3⟩
 . obtain⟨i,hi,rfl⟩:=Gh.1 hx;have hil:i<len:=by omega
   simp only[xs,Cb];obtain⟨_,_,_,_,hG⟩:=yA (each i hil);exact hG
theorem aO.less{N:Nat}{α:Type}{r:bQ α}{t:TypeId}{G:α->Prop}(h:aO enc P W (N+1) r t G):aO enc P W N r t G:=fun fuel hf=>h fuel (by omega)
theorem FM{t:TypeId}{fuel:Nat}{cs:List Value}{x:DataW H×List MemPlace}{fs:Array Field}(ht:P.underlying t=some (.struct fs))(h:DataW.trod enc P W 0 (fun _=>true) true fuel t cs=some x):
 cs.length=P.cellsOf t/\∃n,n<fuel/\∀(i:Nat) (f:Field),fs[i]?=some f->∃y,DataW.trod enc P W 0 (fun _=>true) true n f.type ((cs.drop f.offset).take (P.cellsOf f.type))=some y:=by
 obtain⟨xs,n,hn,_,hl,hxl,hf⟩:=DataW.trod_struct ht h;refine⟨hl,n,by omega,fun i f hi=>?_⟩;have hi':i<xs.length:=by rw[hxl];exact(Array.getElem?_eq_some_iff.1 hi).1
 exact⟨_,(hf i f hi).trans (bV hi')⟩
end
open Go Go.ChangeShapes Go.WideShapes Go.ChangeAt Go.RowKit
section
variable {H:Type} {enc:TypeId×Value->H} {P:Program} {W:World}
def kA(enc:TypeId×Value->H)(P:Program)(W:World)(N:Nat){α:Type}(r:bQ α)(t:TypeId)(G:α->Prop)(T:α->DataW H->Prop):Prop:= ∀fuel,fuel<=N->∀cs x,DataW.trod enc P W 0 (fun _=>true) true fuel t cs=some x->∃a,r.R (HW W) cs a/\G a/\T a x.1
theorem aO.t{N:Nat}{α:Type}{r:bQ α}{t:TypeId}{G:α->Prop}(h:aO enc P W N r t G):kA enc P W N r t G (fun _ _=>True):=fun fuel hf cs x hx=>by
 obtain⟨a,h1,h2⟩:=h fuel hf cs x hx;exact⟨a,h1,h2,trivial⟩
def SlT{α:Type}(T:α->DataW H->Prop)(xs:List α)(d:DataW H):Prop:=(d=.nil/\xs=[])\/∃es sp,d=.slice es sp/\es.length=xs.length/\∀(i:Nat) x y,xs[i]?=some x->es[i]?=some y->T x y
theorem kA.less{N:Nat}{α:Type}{r:bQ α}{t:TypeId}{G:α->Prop}{T:α->DataW H->Prop}(h:kA enc P W (N+1) r t G T):kA enc P W N r t G T:=fun fuel hf=>h fuel (by omega)
theorem kA.slice{N:Nat}{α:Type}{r:bQ α}{t e:TypeId}{G:α->Prop}{T:α->DataW H->Prop}(ht:P.underlying t=some (.slice e))(hc:P.cellsOf e=r.sz)(hz:(r.sz==0)=false)(he:kA enc P W N r e G T):
 kA enc P W (N+1) (aV r) t (fun xs=>xs.length<=9223372036854775807/\∀x∈xs,G x) (SlT T):=by
 have hpos:0<r.sz:=by
  have:¬r.sz=0:=by simpa using hz
  omega
 intro fuel hf cs x h;rcases DataW.trod_slice ht h with⟨rfl,rfl⟩|⟨a,len,cap,elems,rest,n,hn,rfl,rfl,hb,hl,hm,hlen,hel,hsp,hns⟩
 . exact⟨[],⟨_,rfl,Rs.nil⟩,⟨by simp,fun _ hx=>by cases hx⟩,.inl ⟨rfl,rfl⟩⟩
 have hcap:cap<=9223372036854775807:=hm;rcases gz cap with h0|h0
 . subst h0;obtain rfl:len=0:=by omega
   exact⟨[],⟨_,rfl,.inl ⟨⟨_,rfl⟩,rfl⟩⟩,⟨by simp,fun _ hx=>by cases hx⟩,.inr ⟨_,_,rfl,by simp;exact mo.1 hlen,fun i x y hx=>by simp at hx⟩⟩
 have hfirst:∃y,(W.cells? 0 (a.add (0*P.cellsOf e)) (P.cellsOf e)).bind (DataW.trod enc P W 0 (fun _=>true) true n e)=some y:=by
  rcases gz len with h1|h1
  . obtain⟨hr,hs⟩:=hsp rfl;have:=hs 0 (by omega);rw[h1,eK]at this;exact⟨_,this.trans (bV (by omega))⟩
  . exact⟨_,(hel 0 h1).trans (bV (by omega))⟩
 have hspot:a.spot=none:=by
  obtain⟨y,hy⟩:=hfirst;rw[Gg]at hy;obtain⟨cs',hcs,-⟩:=hy;obtain⟨_,hl',hcell⟩:=World.cells?_some hcs;have:=hcell 0 (by omega);rw[bV (by omega),B5]at this;have:=cell_spot this;simpa[Addr.add]using this
 obtain⟨b,o,s⟩:=a;cases hspot;have each:∀i,(hi:i<len)->∃x vs,vs.length=r.sz/\At (HW W) b (o+i*r.sz) vs/\r.R (HW W) vs x/\G x/\T x (elems[i]'(by omega)).1:=by
  intro i hi;have hy:=(hel i hi).trans (bV (by omega));rw[Gg]at hy;obtain⟨vs,hcs,hy⟩:=hy;obtain⟨_,hl',hcell⟩:=World.cells?_some hcs;obtain⟨x,hR,hG,hT⟩:=he n (by omega) vs _ hy;refine⟨x,vs,by omega,fun j hj=>?_,hR,hG,hT⟩;have:=hcell j (by omega);rw[bV hj]at this⊢;rw[hc,y9,y9]at this;exact Mx this
 let xs:List α:=List.ofFn (fun i:Fin len=>Classical.choose (each i.1 i.2))
 have hxl:xs.length=len:=by simp[xs]
 refine⟨xs,⟨_,rfl,.inr ⟨b,o,cap,by rw[hxl],by omega,fun i x hi=>?_⟩⟩,⟨by omega,fun x hx=>?_⟩,.inr ⟨_,_,rfl,by rw[cD];omega,fun i x y hx hy=>?_⟩⟩
 . have hil:i<len:=by rw[<-hxl];exact(dS.1 hi).1
   have hx:x=Classical.choose (each i hil):=by
    have:=(dS.1 hi).2;simp only[xs,Cb]at this;exact this.symm
   subst hx;obtain⟨vs,h1,h2,h3,_⟩:=yA (each i hil);exact⟨vs,h1,h2,h3⟩
 . obtain⟨i,hi,rfl⟩:=Gh.1 hx;have hil:i<len:=by omega
   simp only[xs,Cb];obtain⟨_,_,_,_,hG,_⟩:=yA (each i hil);exact hG
 . have hil:i<len:=by rw[<-hxl];exact(dS.1 hx).1
   have hx:x=Classical.choose (each i hil):=by
    have:=(dS.1 hx).2;simp only[xs,Cb]at this;exact this.symm
   subst hx;obtain⟨_,_,_,_,_,hT⟩:=yA (each i hil);rw[gR,bV (by omega)]at hy;cases hy;exact hT
theorem IF{α:Type}{r:bQ α}{t e:TypeId}{G:List α->Prop}{T:List α->DataW H->Prop}{v:Value}{d:DataW H}{ps:List MemPlace}(ht:P.underlying t=some (.slice e))(ho:∀N,kA enc P W N (aV r) t G T){rc:Reach}{base:Nat}(hval:Value.okWide P W rc base t v)(h:DataW.Trod enc P W 0 (fun _=>true) true t v d ps):
 ∃xs,Rs r (HW W) v xs/\G xs/\T xs d:=by
 obtain⟨n,hn⟩:=h;obtain⟨xs,⟨v',hv',hR⟩,hG,hT⟩:=ho n n (bK _) _ _ hn;have:v=v':=by
  cases v<;>simp_all[Value.okWide,Cell.okWide,Cell.ok,Value.cells]
 subst this;exact⟨xs,hR,hG,hT⟩
end
def O8:DataW Unit->Array Value
 |.agg ds=>(ds.map fun|.lit (.int k n)=>Value.int k n|_=>.bool false).toArray
 |_=>#[]
def Jv(w:World):List (Nat×DataW Unit)->World
 |[]=>w
 |(g,d)::r=>Jv {w with heap:=w.heap.modify g fun|.cells _ t fr=>.cells (O8 d) t fr|o=>o} r
open Go
def Tm{α:Type}(f:Nat->Option α)(Q:α->Prop):Prop:=∃a N0,Q a/\∀N,N0<=N->f N=some a
section
variable {α β σ ρ:Type}
theorem aS{a:α}{Q:α->Prop}(h:Q a):Tm (fun _=>some a) Q:=⟨a,0,h,fun _ _=>rfl⟩
theorem Tm.bind{f:Nat->Option α}{g:Nat->α->Option β}{Q:α->Prop}{R:β->Prop}(h:Tm f Q)(k:∀a,Q a->Tm (fun N=>g N a) R):Tm (fun N=>(f N).bind (g N)) R:=by
 obtain⟨a,N0,hQ,h⟩:=h;obtain⟨b,N1,hR,k⟩:=k a hQ;exact⟨b,max N0 N1,hR,fun N hN=>by show(f N).bind (g N)=some b;rw[h N (by omega)];exact k N (by omega)⟩
theorem aN{f:Option α}{a:α}(e:f=some a){g:Nat->α->Option β}{R:β->Prop}(k:Tm (fun N=>g N a) R):Tm (fun N=>f.bind (g N)) R:=by
 subst e;exact k
theorem Tm.mono{f:Nat->Option α}{Q R:α->Prop}(h:Tm f Q)(k:∀a,Q a->R a):Tm f R:=by
 obtain⟨a,N0,hQ,h⟩:=h;exact⟨a,N0,k a hQ,h⟩
theorem cL{c:Prop}[Decidable c]{f g:Nat->Option α}{Q:α->Prop}(hc:c)(h:Tm f Q):Tm (fun N=>if c then f N else g N) Q:=by simpa only[if_pos hc]using h
theorem cC{c:Prop}[Decidable c]{f g:Nat->Option α}{Q:α->Prop}(hc:¬c)(h:Tm g Q):Tm (fun N=>if c then f N else g N) Q:=by simpa only[if_neg hc]using h
theorem aZ{c:Prop}[Decidable c]{f g:Nat->Option α}{Q:α->Prop}(h1:c->Tm f Q)(h2:¬c->Tm g Q):Tm (fun N=>if c then f N else g N) Q:=by
 by_cases hc:c
 . exact cL hc (h1 hc)
 . exact cC hc (h2 hc)
theorem Tm.succ{f:Nat->Option α}{Q:α->Prop}(h:Tm (fun N=>f (N+1)) Q):Tm f Q:=by
 obtain⟨a,N0,hQ,h⟩:=h;refine⟨a,N0+1,hQ,fun N hN=>?_⟩;have h1:f (N-1+1)=some a:=h (N-1) (by omega);rwa[show N-1+1=N by omega]at h1
theorem Tm.get{f:Nat->Option α}{Q:α->Prop}(h:Tm f Q):∃N a,f N=some a/\Q a:=by
 obtain⟨a,N0,hQ,h⟩:=h;exact⟨N0,a,h N0 (bK _),hQ⟩
def Turn(I:σ->Prop)(μ:σ->Nat)(Q:ρ->Prop)(m:Nat):aK σ ρ->Prop
 |.next s=>I s/\μ s<m
 |.done r=>Q r
theorem Tm.loop{body:Nat->σ->Option (aK σ ρ)}(I:σ->Prop)(μ:σ->Nat){Q:ρ->Prop}{s0:σ}(h0:I s0)(h:∀s,I s->Tm (fun N=>body N s) (Turn I μ Q (μ s))):
 Tm (fun N=>bI (body N) N s0) Q:=by
 have key:∀(m:Nat) (s:σ),μ s<=m->I s->∃a K,Q a/\∀N n,K<=N->K<=n->bI (body N) n s=some a:=by
  intro m
  induction m with
  |zero=>
   intro s hm hI;obtain⟨t,N0,hT,hN⟩:=h s hI;cases t with
   |next s'=>exact absurd hT.2 (by omega)
   |done r=>exact⟨r,N0+1,hT,fun N n h1 h2=>by obtain⟨n,rfl⟩:∃k,n=k+1:=⟨n-1,by omega⟩;exact xt (hN N (by omega))⟩
  |succ m ih=>
   intro s hm hI;obtain⟨t,N0,hT,hN⟩:=h s hI;cases t with
   |next s'=>
    obtain⟨a,K,hQ,hK⟩:=ih s' (by have:=hT.2;omega) hT.1;exact⟨a,max N0 K+1,hQ,fun N n h1 h2=>by obtain⟨n,rfl⟩:∃k,n=k+1:=⟨n-1,by omega⟩;rw[KH (hN N (by omega))];exact hK N n (by omega) (by omega)⟩
   |done r=>exact⟨r,N0+1,hT,fun N n h1 h2=>by obtain⟨n,rfl⟩:∃k,n=k+1:=⟨n-1,by omega⟩;exact xt (hN N (by omega))⟩
 obtain⟨a,K,hQ,hK⟩:=key (μ s0) s0 (bK _) h0;exact⟨a,K,hQ,fun N hN=>hK N N hN hN⟩
end
theorem kK{α:Type}{xs:List α}{n:Nat}{x:α}(h:xs[n]?=some x):idx xs (n:Int)=some x:=by
 unfold idx;rw[if_neg (by omega)];simpa using h
theorem cU{α:Type}{xs:List α}{n:Nat}(h:n<xs.length):idx xs (n:Int)=some xs[n]:=kK (bV h)
theorem gi{α:Type}{xs:List α}{i:Int}{n:Nat}(e:i=(n:Int))(h:n<xs.length):idx xs i=some xs[n]:=by subst e;exact cU h
theorem ee{α:Type}{xs:List α}{i:Int}{n:Nat}{y:α}(e:i=(n:Int))(h:n<xs.length):dw xs i y=some (xs.set n y):=by
 subst e;unfold dw;rw[if_neg (by omega)];simp
theorem rU{α:Type}{xs:List α}{i j:Int}{m n:Nat}(e:i=(m:Int))(e':j=(n:Int))(h:m<=n)(h':n<=xs.length):cut xs i j=some ((xs.take n).drop m):=by
 subst e;subst e';unfold cut;rw[if_neg (by omega)];simp
theorem dN{α:Type}{b:Nat}{xs ys:List α}(h:(xs.length+ys.length)*b<=140737488355328)(hb:0<b):cM b xs ys=some (xs++ys):=by
 unfold cM;have:xs.length+ys.length<=(xs.length+ys.length)*b:=Nat.le_mul_of_pos_right _ hb;rw[if_pos ⟨h,by omega⟩]
theorem ik{α:Type}{b:Nat}{z:α}{i:Int}{n:Nat}(e:i=(n:Int))(h:b*n<=281474976710656)(hb:0<b):gg b z i=some (List.replicate n z):=by
 subst e;unfold gg;have:n<=b*n:=Nat.le_mul_of_pos_left _ hb;rw[if_neg (by simp;omega)];simp
theorem ye{p:Prop}[Decidable p](h:p):lC p=some ():=by unfold lC;rw[if_pos h]
def val(B:Int):List Int->Int
 |[]=>0
 |x::xs=>x+B*val B xs
def bA(B:Int)(l:List Int):Prop:=∀x∈l,0<=x/\x<B
def fJ(l:List Int):Prop:=l.getLast?≠some 0
structure Dg (B:Int)(l:List Int)(v:Int):Prop where
 bL:bA B l
 ff:fJ l
 val:val B l=v
section
variable {B:Int}
theorem bA.nil:bA B []:=fun _ h=>by cases h
theorem bA.cons{x:Int}{l:List Int}(hx:0<=x/\x<B)(h:bA B l):bA B (x::l):=fun y hy=>by
 rcases eb.1 hy with rfl|hy
 . exact hx
 . exact h y hy
theorem bA.append{l m:List Int}(h:bA B l)(h':bA B m):bA B (l++m):=fun y hy=>by
 rcases fR.1 hy with hy|hy
 . exact h y hy
 . exact h' y hy
theorem bA.tail{x:Int}{l:List Int}(h:bA B (x::l)):bA B l:=fun y hy=>h y (cJ _ hy)
theorem bA.head{x:Int}{l:List Int}(h:bA B (x::l)):0<=x/\x<B:=h x cO
theorem bA.take{l:List Int}(h:bA B l)(n:Nat):bA B (l.take n):=fun y hy=>h y (tk hy)
theorem bA.drop{l:List Int}(h:bA B l)(n:Nat):bA B (l.drop n):=fun y hy=>h y (Gi hy)
theorem bA.get{l:List Int}(h:bA B l){n:Nat}(hn:n<l.length):0<=l[n]/\l[n]<B:=h _ (cX hn)
theorem bA.getD{l:List Int}(hB:0<B)(h:bA B l)(n:Nat):0<=l.getD n 0/\l.getD n 0<B:=by
 rw[cA];rcases cw n l.length with hn|hn
 . rw[bV hn];exact h.get hn
 . rw[fQ hn];exact⟨by simp,by simpa using hB⟩
theorem bA.set{l:List Int}(h:bA B l){n:Nat}{y:Int}(hy:0<=y/\y<B):bA B (l.set n y):=fun z hz=>by
 rcases pM hz with hz|rfl
 . exact h z hz
 . exact hy
theorem bA.dp(hB:0<B){n:Nat}:bA B (List.replicate n 0):=fun z hz=>by
 rw[(yB.1 hz).2];exact⟨nk _,hB⟩
theorem sN{x:Int}{l:List Int}:val B (x::l)=x+B*val B l:=rfl
theorem o8:∀{l m:List Int},val B (l++m)=val B l+B^l.length*val B m
 |[],m=>by simp[val]
 |x::l,m=>by
  simp only[B4,val,o8 (l:=l),cv,fl];grind
theorem Bp{n:Nat}:val B (List.replicate n 0)=0:=by
 induction n with
 |zero=>rfl
 |succ n ih=>simp[yy,val,ih]
theorem gH(hB:0<=B):∀{l:List Int},bA B l->0<=val B l
 |[],_=>nk _
 |x::l,h=>by
  have h1:=gH hB h.tail;have h2:=h.head;have h3:=eI hB h1;simp only[val];omega
theorem iq(hB:0<B):∀{l:List Int},bA B l->val B l<B^l.length
 |[],_=>by simp[val]
 |x::l,h=>by
  have h1:=iq hB h.tail;have h2:=h.head;have h3:B*(val B l+1)<=B*B^l.length:=fZ (by omega) (by omega);simp only[val,cv,fl];rw[fm (B^l.length)];rw[pP]at h3;omega
theorem fu{l:List Int}{n:Nat}:val B (l.take (n+1))=val B (l.take n)+B^n*l.getD n 0:=by
 rw[cA];rcases cw n l.length with hn|hn
 . rw[pQ hn,o8,bV hn,eQ,j1 (by omega)];simp[val]
 . rw[fQ hn,eU (by omega),eU (by omega)];simp
theorem pv{l:List Int}(n:Nat)(h:n<=l.length):val B l=val B (l.take n)+B^n*val B (l.drop n):=by
 have:=o8 (B:=B) (l:=l.take n) (m:=l.drop n);rw[nj,eQ,j1 h]at this;exact this
theorem uZ{l:List Int}{n:Nat}{y:Int}(h:n<l.length):val B (l.set n y)=val B l+B^n*(y-l[n]):=by
 induction l generalizing n with
 |nil=>cases h
 |cons x l ih=>
  cases n with
  |zero=>simp[val];grind
  |succ n=>
   have:=ih (n:=n) (by simpa using h);simp only[List.set_cons_succ,val,this,List.getElem_cons_succ,fl];grind
theorem kF(hB:0<B)(n:Nat):0<B^n:=kv hB
theorem D9{x:Int}{l:List Int}(h:fJ (x::l)):fJ l:=by
 intro h';apply h;cases l with
 |nil=>cases h'
 |cons y l=>rw[UZ];exact h'
theorem zE(hB:0<B):∀{l:List Int},bA B l->fJ l->l≠[]->B^(l.length-1)<=val B l
 |[],_,_,h=>absurd rfl h
 |[x],h,hn,_=>by
  have h1:=h.head;have h2:x≠0:=fun e=>hn (by simp[e]);simp[val];omega
 |x::y::l,h,hn,_=>by
  have h1:=zE hB h.tail (D9 hn) (by simp);have h2:=h.head;have h3:B*B^l.length<=B*val B (y::l):=fZ (by simpa using h1) (by omega);simp only[cv,MO]at*;rw[fl,fm,sN (x:=x)];omega
theorem ym(hB:0<B){l:List Int}(h:bA B l)(hn:fJ l)(hl:l≠[]):0<val B l:=by
 have:=zE hB h hn hl;have:=kF hB (l.length-1);omega
theorem KY:fJ []:=by simp[fJ]
theorem j4(hB:1<=B){m n:Nat}(h:m<=n):B^m<=B^n:=by
 obtain⟨k,rfl⟩:=MP h;rw[jM];have h1:=kF (B:=B) (by omega) m;have h2:=kF (B:=B) (by omega) k;have:=fZ (show 1<=B^k by omega) (show 0<=B^m by omega);omega
theorem EF(hB:1<B){l:List Int}(h:bA B l)(hn:fJ l){k:Nat}(hv:val B l<B^k):l.length<=k:=by
 rcases cw k l.length with hk|hk
 . have h1:=zE (by omega) h hn (by intro e;rw[e]at hk;simp at hk);have h2:=j4 (B:=B) (by omega) (show k<=l.length-1 by omega);omega
 . exact hk
theorem JV(hB:1<B):∀{a b:List Int},bA B a->bA B b->fJ a->fJ b->val B a=val B b->a=b
 |[],[],_,_,_,_,_=>rfl
 |[],y::b,_,h,_,hn,e=>by have:=ym (by omega) h hn (by simp);simp only[val]at*;omega
 |x::a,[],h,_,hn,_,e=>by have:=ym (by omega) h hn (by simp);simp only[val]at*;omega
 |x::a,y::b,h,h',hn,hn',e=>by
  simp only[val]at e;have h1:=h.head;have h2:=h'.head;have hxy:x=y:=by
   have e1:(x+B*val B a)%B=x:=by rw[Gj];exact Cc h1.1 h1.2
   have e2:(y+B*val B b)%B=y:=by rw[Gj];exact Cc h2.1 h2.2
   rw[<-e1,<-e2,e]
  subst hxy;have hv:val B a=val B b:=MQ (a:=B) (by omega) (by omega);rw[JV hB h.tail h'.tail (D9 hn) (D9 hn') hv]
theorem Dg.uniq(hB:1<B){a b:List Int}{v:Int}(h:Dg B a v)(h':Dg B b v):a=b:=JV hB h.bL h'.bL h.ff h'.ff (h.val.trans h'.val.symm)
theorem Dg.nil:Dg B [] 0:=⟨.nil,KY,rfl⟩
theorem Dg.zero(hB:0<B){l:List Int}{v:Int}(h:Dg B l v):l=[]↔v=0:=by
 constructor
 . intro e;rw[<-h.val,e];rfl
 . intro e;cases l with
   |nil=>rfl
   |cons x l=>have:=ym hB h.bL h.ff (by simp);have:=h.val;omega
theorem Dg.wF(hB:0<=B){l:List Int}{v:Int}(h:Dg B l v):0<=v:=h.val▸gH hB h.bL
theorem wQ{l:List Int}{n:Nat}(hn:n<=l.length)(h:∀k,(hk:k<l.length)->n<=k->l[k]=0):val B (l.take n)=val B l:=by
 rw[pv n hn];have:l.drop n=List.replicate (l.length-n) 0:=by
  apply pR (by simp);intro i h1 h2;simp only[Gk,List.getElem_replicate];exact h _ _ (by omega)
 rw[this,Bp];simp
theorem C7{l:List Int}{n:Nat}(hn:n<=l.length)(hl:bA B l)(h:∀k,(hk:k<l.length)->n<=k->l[k]=0)(h0:n=0\/∃hk:n-1<l.length,l[n-1]≠0):Dg B (l.take n) (val B l):=by
 refine⟨hl.take n,?_,wQ hn h⟩;rcases h0 with rfl|⟨hk,h0⟩
 . simp[fJ]
 . intro e;rw[Gl,eQ,j1 hn]at e;rcases gz n with hz|hz
   . subst hz;simp at e
   . rw[List.getElem?_take_of_lt (by omega),bV hk]at e;exact h0 (iR e)
end
def bM(a b:Int):Int:=if a<b then-1 else if b<a then 1 else 0
theorem Ap{B:Int}(hB:1<B){a b:List Int}(ha:bA B a)(hb:bA B b)(hl:a.length=b.length){n:Nat}(hn:n<a.length)(hd:a.drop (n+1)=b.drop (n+1))(hx:a[n]<b[n]'(by omega)):val B a<val B b:=by
 rw[pv (l:=a) (n+1) (by omega),pv (l:=b) (n+1) (by omega),hd,fu,fu];have h1:=iq (by omega) (ha.take n);have h2:=gH (B:=B) (by omega) (hb.take n);rw[eQ,j1 (by omega)]at h1;rw[cA,cA,bV hn,bV (by omega)];simp only[BY];have h3:=fZ (show a[n]+1<=b[n]'(by omega) by omega) (show 0<=B^n from ed (kF (by omega) n));rw[pP]at h3;omega
theorem mX{B:Int}(hB:1<B){a b:List Int}(ha:bA B a)(hb:bA B b)(hn:fJ b)(hl:a.length<b.length):val B a<val B b:=by
 have h1:=iq (by omega) ha;have h2:=zE (by omega) hb hn (by intro e;rw[e]at hl;simp at hl);have h3:=j4 (B:=B) (by omega) (show a.length<=b.length-1 by omega);omega
theorem Tm.xg{σ ρ G:Type}{body:Nat->σ->Option (aK σ ρ)}(I:G->σ->Prop)(μ:G->Nat){Q:ρ->Prop}{s0:σ}(g0:G)(h0:I g0 s0)
 (h:∀g s,I g s->Tm (fun N=>body N s) (fun t=>match t with|.next s'=>∃g',I g' s'/\μ g'<μ g|.done r=>Q r)):
 Tm (fun N=>bI (body N) N s0) Q:=by
 have key:∀(m:Nat) (g:G) (s:σ),μ g<=m->I g s->∃a K,Q a/\∀N n,K<=N->K<=n->bI (body N) n s=some a:=by
  intro m
  induction m with
  |zero=>
   intro g s hm hI;obtain⟨t,N0,hT,hN⟩:=h g s hI;cases t with
   |next s'=>obtain⟨g',_,h2⟩:=hT;exact absurd h2 (by omega)
   |done r=>exact⟨r,N0+1,hT,fun N n h1 h2=>by obtain⟨n,rfl⟩:∃k,n=k+1:=⟨n-1,by omega⟩;exact xt (hN N (by omega))⟩
  |succ m ih=>
   intro g s hm hI;obtain⟨t,N0,hT,hN⟩:=h g s hI;cases t with
   |next s'=>
    obtain⟨g',h1,h2⟩:=hT;obtain⟨a,K,hQ,hK⟩:=ih g' s' (by omega) h1;exact⟨a,max N0 K+1,hQ,fun N n h1 h2=>by obtain⟨n,rfl⟩:∃k,n=k+1:=⟨n-1,by omega⟩;rw[KH (hN N (by omega))];exact hK N n (by omega) (by omega)⟩
   |done r=>exact⟨r,N0+1,hT,fun N n h1 h2=>by obtain⟨n,rfl⟩:∃k,n=k+1:=⟨n-1,by omega⟩;exact xt (hN N (by omega))⟩
 obtain⟨a,K,hQ,hK⟩:=key (μ g0) g0 s0 (bK _) h0;exact⟨a,K,hQ,fun N hN=>hK N N hN hN⟩
theorem ei{σ ρ:Type}{body:Nat->σ->Option (aK σ ρ)}{Q:ρ->Prop}{s0:σ}(n:Nat)(J:Nat->σ->Prop)(h0:J 0 s0)
 (h:∀k,k<=n->∀s,J k s->Tm (fun N=>body N s) (fun t=>match t with|.next s'=>k<n/\J (k+1) s'|.done r=>Q r)):
 Tm (fun N=>bI (body N) N s0) Q:=by
 refine Tm.xg (fun k s=>k<=n/\J k s) (fun k=>n-k) 0 ⟨fE _,h0⟩ fun k s hs=>(h k hs.1 s hs.2).mono fun t ht=>?_;cases t with
 |next s'=>exact⟨k+1,⟨ht.1,ht.2⟩,by have:=ht.1;omega⟩
 |done r=>exact ht
theorem aL{α:Type}{a:α}{Q:α->Prop}(h:Q a):Tm (fun _=>Option.some a) Q:=aS h
theorem aU{α β:Type}{f:Nat->Option α}{g:Nat->α->Option β}{a:α}{R:β->Prop}(h:Tm f (·=a))(k:Tm (fun N=>g N a) R):Tm (fun N=>(f N).bind (g N)) R:=
 h.bind fun b hb=>by subst hb;exact k
theorem dT{k:Nat}(h:k+1<=9223372036854775807):iw ((k:Int)+1)=((k+1:Nat):Int):=by rw[bH]<;>omega
theorem Tm.allL{α:Type}{b:Nat->Int->Option (aK Int (Sum Unit Bool))}(xs:List α)(g:α->Bool)(hn:xs.length<=9223372036854775807)
 (h:∀k (hk:k<xs.length),Tm (fun N=>b N (k:Int)) (·=if g xs[k]then aK.next (iw ((k:Int)+1))else aK.done (Sum.inr false)))
 (hd:Tm (fun N=>b N (xs.length:Int)) (·=aK.done (Sum.inl ()))):
 Tm (fun N=>bI (b N) N 0) (·=if xs.all g then Sum.inl ()else Sum.inr false):=by
 refine ei xs.length (fun k s=>s=(k:Int)/\xs.all g=(xs.drop k).all g) ⟨rfl,by simp⟩ ?_;rintro k hk i ⟨rfl,ho⟩;rcases cw k xs.length with hlt|hge
 . rw[fD hlt,Cd]at ho;refine(h k hlt).mono fun t ht=>?_;subst ht;cases hg:g xs[k]with
   |true=>rw[hg]at ho;exact⟨hlt,dT (by omega),by simpa using ho⟩
   |false=>rw[hg]at ho;show _=_;rw[ho];simp
 . have:k=xs.length:=by omega
   subst this;refine hd.mono fun t ht=>?_;subst ht;show _=_;rw[ho];simp
theorem Tm.findL{α ρ:Type}{b:Nat->Int->Option (aK Int (Sum Unit ρ))}(xs:List α)(g:α->Bool)(v:Nat->ρ)(hn:xs.length<=9223372036854775807)
 (h:∀k (hk:k<xs.length),Tm (fun N=>b N (k:Int)) (·=if g xs[k]then aK.done (Sum.inr (v k))else aK.next (iw ((k:Int)+1))))
 (hd:Tm (fun N=>b N (xs.length:Int)) (·=aK.done (Sum.inl ()))):
 Tm (fun N=>bI (b N) N 0) (fun o=>(xs.any g=false/\o=Sum.inl ())\/(∃k,∃hk:k<xs.length,g xs[k]=true/\(∀j (hj:j<k),g (xs[j]'(by omega))=false)/\o=Sum.inr (v k))):=by
 refine ei xs.length (fun k s=>s=(k:Int)/\∀j (hj:j<k) (hl:j<xs.length),g xs[j]=false) ⟨rfl,fun j hj=>by omega⟩ ?_;rintro k hk i ⟨rfl,ho⟩;rcases cw k xs.length with hlt|hge
 . refine(h k hlt).mono fun t ht=>?_;subst ht;cases hg:g xs[k]with
   |true=>exact .inr ⟨k,hlt,hg,fun j hj=>ho j hj (by omega),rfl⟩
   |false=>
    refine⟨hlt,dT (by omega),fun j hj hl=>?_⟩;by_cases e:j=k
    . subst e;exact hg
    . exact ho j (by omega) hl
 . have:k=xs.length:=by omega
   subst this;refine hd.mono fun t ht=>?_;subst ht;refine .inl ⟨?_,rfl⟩;rw[MR];intro x hx;obtain⟨j,hj,rfl⟩:=nm hx;rw[ho j hj hj];simp
open Go Go.RowKit
section
variable {P:Program} {ty:TypeId} {ρ:Operand->Value} {w w0:World} {R:Value->World->Prop} {X:List (Option Nat)} {O:List (Option Nat)} {C:List cW} {α:Type} {r:bQ α} {H:Hp}
theorem aF.nilCheck{x:Operand}{b:Addr}(hx:ρ x=.pointer (some b))(h:R (.pointer (some b)) w):aF P (.nilCheck x) ty ρ w R:=by
 simp only[aF,cZ,execOp,hx];simp[upon];exact h
end
open Go Go.RowKit
section
variable {P:Program} {l:List Oper} {n:Nat} {K:Env->World->Prop} {e:Env} {w:World}
structure InvP (l:List Oper)(n:Nat)(Q done rest:List Nat)(listed:Array Bool)(a:Act)(E:Env)(ltr:List Nat):Prop where
 size:listed.size=l.length
 tmps:a.tmps.size=n
 defs:a.defers=[]
 parts:Q=done++rest
 isdone:∀q∈done,eT listed q
 open':∀q∈rest,¬eT listed q
 cl:∀j oj,l[j]?=some oj->eT listed j->∀d∈eX oj,eT listed d
 late:∀i,i<l.length->i∉Q->¬eT listed i->i∈ltr
 sub:∀i∈ltr,i∉Q
 env:∀x,(∀i,i<l.length->i∉Q->¬eT listed i->mg l i≠some x)->cN a x=E x
end
open Go Go.RowKit
section
variable {P:Program} {s:Nat} {S:Nat->Prop} {X O O' O'' OR:List (Option Nat)} {C C' C'' CR:List cW} {w w' w0:World} {α:Type} {r:bQ α} {H:Hp}
theorem RlL.fin{l:List Oper}{K:Env->World->Prop}{lt:List Nat}{e:Env}(h:K e w):RlL P l K lt [] e w:=h
end
open Go Go.RowKit
def fx{K V:Type}[DecidableEq K]:List (K×V)->K->V->V×Bool
 |[],_,z=>(z,false)
 |p::m,k,z=>if p.1=k then(p.2,true)else fx m k z
def kp{K V:Type}[DecidableEq K]:List (K×V)->K->V->List (K×V)
 |[],k,v=>[(k,v)]
 |p::m,k,v=>if p.1=k then(k,v)::m else p::kp m k v
def oV{K V:Type}[DecidableEq K](x:K):List (K×V)->Nat->Option (Nat×V)
 |[],_=>none
 |p::m,i=>if p.1=x then some (i,p.2)else oV x m (i+1)
theorem FF{K V:Type}[DecidableEq K](x:K):∀(m:List (K×V)) (i:Nat),(oV x m i=none/\(∀z,fx m x z=(z,false))/\∀v,kp m x v=m++[(x,v)])\/
 ∃j y,oV x m i=some (i+j,y)/\m[j]?=some (x,y)/\(∀z,fx m x z=(y,true))/\∀v,kp m x v=m.set j (x,v)
 |[],i=>.inl ⟨rfl,fun _=>rfl,fun _=>rfl⟩
 |(a,b)::m,i=>by
  by_cases h:a=x
  . subst h;exact .inr ⟨0,b,by simp[oV],rfl,fun _=>by simp[fx],fun _=>by simp[kp]⟩
  . rcases FF x m (i+1)with⟨h1,h2,h3⟩|⟨j,y,h1,h2,h3,h4⟩
    . exact .inl ⟨by simp[oV,h,h1],fun z=>by simp[fx,h,h2],fun v=>by simp[kp,h,h3]⟩
    . refine .inr ⟨j+1,y,?_,by simpa using h2,fun z=>by simp[fx,h,h3],fun v=>by simp[kp,h,h4]⟩;simp only[oV,h,if_false,h1];rw[show i+1+j=i+(j+1) by omega]
structure kU (P:Program)(kt:TypeId){K:Type}[DecidableEq K](kf:K->Value):Prop where
 check:∀(w:World) (em:Bool) (x:K),(Instr.checkKey em 10000 kt (kf x)).run P w=.ok () w
 find:∀(w:World) (x:K) {V:Type} (vf:V->Value) (m:List (K×V)) (es:List MapEntry),es.map (fun e=>(e.key,e.val))=m.map (fun p=>(kf p.1,vf p.2))->
  (Instr.findKey kt (kf x) es).run P w=.ok ((oV x m 0).map fun p=>(p.1,vf p.2)) w
 stays:∀(w:World) (x:K),(Instr.keyThatStays (kf x) (kf x)).run P w=.ok (kf x) w
theorem KC(x y:List UInt8):(s8 x==s8 y)=decide (x=y):=by
 have h0:(s8 x==s8 y)=(x.toArray==y.toArray):=rfl;rw[h0];by_cases h:x=y
 . subst h;simp
 . simp[h]
section
variable {P:Program} {kt:TypeId} {w:World}
theorem Lg{K V:Type}[DecidableEq K]{kf:K->Value}{d:TypeDesc}(hs:∀x y,Instr.sameNow d (kf x) (kf y)=some (decide (y=x)))(x:K)(vf:V->Value):∀(m:List (K×V)) (es:List MapEntry) (i:Nat),
 es.map (fun e=>(e.key,e.val))=m.map (fun p=>(kf p.1,vf p.2))->Instr.findNow d (kf x) es i=some ((oV x m i).map fun p=>(p.1,vf p.2))
 |[],[],i,_=>rfl
 |[],_::_,_,h=>by cases h
 |_::_,[],_,h=>by cases h
 |p::m,e::es,i,h=>by
  simp only[jN,MS,np]at h;obtain⟨⟨h1,h2⟩,h3⟩:=h;simp only[Instr.findNow,h1,hs,oV];by_cases hp:p.1=x
  . simp[hp,h2]
  . simp only[hp,decide_false,if_false];exact Lg hs x vf m es (i+1) h3
theorem kU.now{K:Type}[DecidableEq K]{kf:K->Value}{d:TypeDesc}(hd:P.underlying kt=some d)(hs:∀x y,Instr.sameNow d (kf x) (kf y)=some (decide (y=x)))
 (hc:∀(w:World) (em:Bool) (x:K),(Instr.checkKey em 10000 kt (kf x)).run P w=.ok () w)(hb:∀x,Instr.sameBits 10000 (kf x) (kf x)=true):kU P kt kf:=
 ⟨hc,fun w x V vf m es h=>by
  simp[Instr.findKey,run_underlying hd,Lg hs x vf m es 0 h],fun w x=>by simp[Instr.keyThatStays,hb x]⟩
theorem kU.str(hd:P.underlying kt=some .string):kU P kt (fun x:List UInt8=>Value.string (s8 x)):=
  kU.now hd (fun x y=>by
      simp only[Instr.sameNow,tm];rw[KC];by_cases h:y=x
      . subst h;simp
      . have:¬x=y:=fun e=>h e.symm;simp[h,this])
    (fun w em x=>by rw[show(10000:Nat)=9999+1 from rfl];unfold Instr.checkKey;simp[run_underlying hd])
    (fun x=>by rw[show(10000:Nat)=9999+1 from rfl];simp[Instr.sameBits,KC])
end
def j5{K V:Type}(kf:K->Value)(vf:V->Value)(m:List (K×V)):cW:=.map (m.map fun p=>(kf p.1,vf p.2))
section
variable {P:Program} {ty:TypeId} {ρ:Operand->Value} {w w0:World} {R:Value->World->Prop} {X:List (Option Nat)} {O:List (Option Nat)} {C:List cW} {K V:Type} [DecidableEq K] {kf:K->Value} {vf:V->Value} {t kt et:TypeId} {b:Nat} {m:List (K×V)}
theorem C6(hc:dC w (some b) (j5 kf vf m)):∃(ents:Array MapEntry) (clock:Nat),w.heap[b]?=some (.map ents clock)/\ents.toList.map (fun x=>(x.key,x.val))=m.map (fun p=>(kf p.1,vf p.2))/\(∀x∈ents.toList,x.born<clock)/\(ents.toList.map (·.born)).Nodup:=hc
theorem aF.makeMap(hL:Loc X [] w0 w O C)(h:∀b w',Loc X [] w0 w' (some b::O) (j5 kf vf ([]:List (K×V))::C)->Step O (some b::O) w w'->R (.map (some b)) w'):aF P (.makeMap t none) ty ρ w R:=by
 have ha:=hL.alloc (o:=.map #[] 0) (c:=j5 kf vf ([]:List (K×V))) ⟨#[],0,by show(w.heap.push _)[w.heap.size]?=_;simp,rfl,fun x hx=>(by simp at hx),by simp⟩;have hr:(Instr.makeMap t none).run P w=.ok (.map (some w.heap.size)) (w.alloc (.map #[] 0)):=rfl;simp only[aF,cZ,execOp];simp[hr,upon];exact h _ _ ha.1 ha.2
theorem OL(hk:kU P kt kf)(hu:P.underlying t=some (.map kt et)){sz by':Nat}{z:V}(ti:TI P et sz by' (vf z))(hc:dC w (some b) (j5 kf vf m))(x:K)(ok:Bool):
 (Instr.lookup t (.map (some b)) (kf x) ok).run P w=.ok (if ok then .tuple #[vf (fx m x z).1,.bool (fx m x z).2]else vf (fx m x z).1) w:=by
 obtain⟨ents,clock,h1,h2,h3,h4⟩:=C6 hc;obtain⟨inf,hi,_,_,hz⟩:=ti;have hf:=hk.find w x vf m ents.toList h2;rcases FF x m 0 with⟨g1,g2,_⟩|⟨j,y,g1,_,g3,_⟩
 . rw[g1]at hf;simp[Instr.lookup,run_underlying hu,MapKept.run_getObj_map h1,hk.check,hf,g2,zeroValue,typeInfo,hi,hz,Result.andThen]
 . rw[g1]at hf;simp[Instr.lookup,run_underlying hu,MapKept.run_getObj_map h1,hk.check,hf,g3,Result.andThen]
theorem aF.look{a c:Operand}{x:K}{sz by':Nat}{z:V}(hk:kU P kt kf)(hu:P.underlying t=some (.map kt et))(ti:TI P et sz by' (vf z))(ha:ρ a=.map (some b))(hc:dC w (some b) (j5 kf vf m))(hx:ρ c=kf x)
 (h:R (.tuple #[vf (fx m x z).1,.bool (fx m x z).2]) w):aF P (.lookup t a c true) ty ρ w R:=by
 have hr:=OL hk hu ti hc x true;simp only[aF,cZ,execOp,ha,hx];simp[hr,upon];exact h
theorem NJ(hk:kU P kt kf)(hu:P.underlying t=some (.map kt et))(hL:Loc X [] w0 w O C)(i:Nat)(hO:O[i]?=some (some b))(hC:C[i]?=some (j5 kf vf m))(x:K)(y:V):
    ∃w',(Instr.mapUpdate t (.map (some b)) (kf x) (vf y)).run P w=.ok () w'/\Loc X [] w0 w' O (C.set i (j5 kf vf (kp m x y)))/\Step O O w w':=by
  obtain⟨ents,clock,h1,h2,h3,h4⟩:=C6 (hL.at i hO hC);have hf:=hk.find w x vf m ents.toList h2;have hlt:=kq h1;have lay:∀(ents':Array MapEntry) (clock':Nat),ents'.toList.map (fun x=>(x.key,x.val))=(kp m x y).map (fun p=>(kf p.1,vf p.2))->(∀x∈ents'.toList,x.born<clock')->(ents'.toList.map (·.born)).Nodup->
      Loc X [] w0 {w with heap:=w.heap.setIfInBounds b (.map ents' clock')} O (C.set i (j5 kf vf (kp m x y)))/\Step O O w {w with heap:=w.heap.setIfInBounds b (.map ents' clock')}:=by
    intro ents' clock' g1 g2 g3;refine hL.put i hO ⟨ents',clock',by simp[hlt],g1,g2,g3⟩ (fun k hk=>?_) (by simp) rfl rfl rfl;simp[Array.getElem?_setIfInBounds,Ne.symm hk]
  rcases FF x m 0 with⟨g1,_,g2⟩|⟨j,v,g1,g2,_,g3⟩
  . rw[g1]at hf;refine⟨_,by simp[Instr.mapUpdate,run_underlying hu,MapKept.run_getObj_map h1,hk.check,hf,MapKept.run_setObj_map _ h1,Result.andThen];rfl,lay _ _ ?_ ?_ ?_⟩
    . rw[g2 y];simp[h2]
    . intro e he;simp only[Array.toList_push,fR,cP]at he;rcases he with he|rfl
      . exact Nat.lt_succ_of_lt (h3 e he)
      . exact MJ _
    . simp only[Array.toList_push,jg,jN,List.map_nil];refine List.nodup_append.2 ⟨h4,by simp,?_⟩;intro a ha b' hb e;obtain⟨q,hq,rfl⟩:=dz.1 ha;simp only[cP]at hb;have:=h3 q hq;omega
  . rw[g1,eK]at hf;have hlen:ents.toList.length=m.length:=by have:=congrArg List.length h2;simpa using this
    have hjm:j<m.length:=(dS.1 g2).1;have hje:j<ents.toList.length:=by omega
    have hkv:((ents.toList[j]).key,(ents.toList[j]).val)=(kf x,vf v):=by
      have:=congrArg (·[j]?) h2;simp only[gR,bV hje,g2,ov,tm]at this;exact this
    have hj:ents[j]?=some ents.toList[j]:=by rw[<-Array.getElem?_toList];exact bV hje
    have hkey:(ents.toList[j]).key=kf x:=congrArg Prod.fst hkv;have hml:(ents.modify j (fun e'=>{e' with key:=kf x,val:=vf y})).toList=ents.toList.set j {ents.toList[j]with key:=kf x,val:=vf y}:=by rw[Array.toList_modify,ChangeMaps.modify_eq_set _ _ _ _ (bV hje)]
    have hrun:(Instr.mapUpdate t (.map (some b)) (kf x) (vf y)).run P w=.ok () {w with heap:=w.heap.setIfInBounds b (.map (ents.modify j (fun e'=>{e' with key:=kf x,val:=vf y})) clock)}:=by
      have hst:(Instr.keyThatStays ((Option.map (·.key) ents[j]?).getD (kf x)) (kf x)).run P w=.ok (kf x) w:=by
        rw[hj];simp only[ov,BY,hkey];exact hk.stays w x
      simp[Instr.mapUpdate,run_underlying hu,MapKept.run_getObj_map h1,hk.check,hf,hst,MapKept.run_setObj_map _ h1,Result.andThen]
    refine⟨_,hrun,lay _ _ ?_ ?_ ?_⟩
    . rw[hml,g3 y,Ce,Ce,h2]
    . intro e he;rw[hml]at he;rcases pM he with he|rfl
      . exact h3 e he
      . exact h3 (ents.toList[j]) (cX hje)
    . rw[hml,Ce];have:(ents.toList.map (·.born)).set j (ents.toList[j]).born=ents.toList.map (·.born):=by
        apply pL;intro q;rw[qS];split
        . rename_i hq;subst hq;simp only[cD,hje,if_true,gR,bV hje,ov]
        . rfl
      show((ents.toList.map (·.born)).set j (ents.toList[j]).born).Nodup;rw[this];exact h4
theorem aF.PS{a c d:Operand}{x:K}{y:V}(hk:kU P kt kf)(hu:P.underlying t=some (.map kt et))(ha:ρ a=.map (some b))(hx:ρ c=kf x)(hy:ρ d=vf y)(hL:Loc X [] w0 w O C)(i:Nat)(hO:O[i]?=some (some b))(hC:C[i]?=some (j5 kf vf m))
 (h:∀w',Loc X [] w0 w' O (C.set i (j5 kf vf (kp m x y)))->Step O O w w'->R undef w'):aF P (.mapUpdate t a c d) ty ρ w R:=by
 obtain⟨w',h1,h2,h3⟩:=NJ hk hu hL i hO hC x y;simp only[aF,cZ,execOp,ha,hx,hy];simp[h1,upon];exact h w' h2 h3
theorem aF.Sw{x:Operand}(hu:P.underlying t=some (.map kt et))(ha:ρ x=.map (some b))(hc:dC w (some b) (j5 kf vf m))(h:R (.int .i64 (m.length:Int)) w):
 aF P (.call {callee:=.builtin .len,args:=#[x],argTypes:=#[t]}) ty ρ w R:=by
 obtain⟨ents,clock,h1,h2,h3,h4⟩:=C6 hc;have hlen:ents.size=m.length:=by have:=congrArg List.length h2;simpa using this
 have hr:(Builtin.len_ #[t] ty #[.map (some b)]).run P w=.ok (.int .i64 (m.length:Int)) w:=by
  simp[Builtin.len_,run_underlying hu,MapKept.run_getObj_map h1,goInt,hlen]
 simp only[aF,cZ,execOp,resolve,invoke,builtin];simp[ha,hr,upon];exact h
end
open Go Go.RowKit
section
variable {P:Program} {X O:List (Option Nat)} {C:List cW} {w w0:World} {ρ:Operand->Value} {ty:TypeId} {R:Value->World->Prop} {H:Hp}
theorem aF.ON{t el:TypeId}{n szt byt:Nat}{zt:Value}{zc:List Value}{parts:List (Nat×Operand)}{sz by':Nat}{z:Value}{vs:List Value}{css:List (List Value)}(hu:P.underlying t=some (.array n el))(tt:TI P t szt byt zt)(hz:zt.cells=zc.toArray)(ti:TI P el sz by' z)
 (hzl:zc.length=vs.length*sz)(hp:(parts.map fun p=>(p.1,ρ p.2))=lY 0 vs)(hc:rv sz vs css)(h:R (.agg css.flatten.toArray) w):aF P (.build t parts.toArray) ty ρ w R:=by
 obtain⟨i,hi,_,_,hzz⟩:=tt;obtain⟨j,hj,hs,_,_⟩:=ti;subst hs;have hf:=F0 (sz:=j.size) vs css 0 [] zc (by simp) hzl hc;rw[jf,jf]at hf;have hlist:((parts.toArray.map fun(x:Nat×Operand)=>(x.1,ρ x.2))).toList=lY 0 vs:=by simpa using hp
 have hr:(Instr.build t ((parts.toArray.map fun(x:Nat×Operand)=>(x.1,ρ x.2)))).run P w=.ok (.agg css.flatten.toArray) w:=by
  simp only[Instr.build,Sem.run_bind,zeroValue,typeInfo,run_program,Result.andThen_ok,hi,Sem.run_pure,hzz,run_underlying hu,sizeOf,hj,hz,hlist,hf]
 simp only[aF,cZ,execOp];simp only[Sem.run_bind,hr,Result.andThen_ok,Sem.run_pure,upon];exact h
end
open Go Go.RowKit
structure Xte (X:List (Option Nat))(w w':World):Prop where
 os:w'.os=w.os
 tape:w'.tape=w.tape
 output:w'.output=w.output
 size:w.heap.size<=w'.heap.size
 keep:∀k,k<w.heap.size->some k∉X->w'.heap[k]?=w.heap[k]?
section
variable {X O O' Oq:List (Option Nat)} {C:List cW} {w w' w0 w9:World} {is:List Nat}
theorem Xte.ext(h:Xte [] w w'):Ext w w':=⟨h.os,h.tape,h.output,h.size,fun k hk=>h.keep k hk (by simp)⟩
end
open Go Go.RowKit
noncomputable def H0:Hp:=fun _=>none
def DS{β:Type}(r:bQ β)(v:Value)(ob:Option Nat)(c:cW)(ys:List β):Prop:= ∃cap cs sp,v=fk ob 0 ys.length cap/\c=.cells ([]++(cs++sp))/\(cs++sp).length=cap*r.sz/\bS r H0 cs ys
def od(H:Hp):Option Nat->cW->Prop
 |some b,.cells cs=>At H b 0 cs
 |none,.cells cs=>cs=[]
 |_,_=>True
structure AY (α:Type)where
 r:bQ α
 nf:Nat
 R:List Value->List (Option Nat)->List cW->α->Prop
 len:∀(vs:List Value) (bs:List (Option Nat)) (c:List cW) (x:α),R vs bs c x->vs.length=r.sz/\bs.length=nf/\c.length=nf
 toR:∀(vs:List Value) (bs:List (Option Nat)) (c:List cW) (x:α) (H:Hp),R vs bs c x->(∀(f:Nat) (b:Option Nat) (k:cW),bs[f]?=some b->c[f]?=some k->od H b k)->r.R H vs x
section
variable {α:Type} {D:AY α}
def DEls(D:AY α):List Value->List (Option Nat)->List cW->List α->Prop
 |cs,FB,FC,[]=>cs=[]/\FB=[]/\FC=[]
 |cs,FB,FC,x::xs=>∃vs cs' bs FB' c FC',cs=vs++cs'/\FB=bs++FB'/\FC=c++FC'/\D.R vs bs c x/\DEls D cs' FB' FC' xs
end
open Go Go.RowKit
section
variable {P:Program} {ty:TypeId} {ρ:Operand->Value} {w:World} {R:Value->World->Prop}
theorem aF.Rm{t el:TypeId}{n szt byt:Nat}{zt:Value}{zc:List Value}{sz by':Nat}{z:Value}(hu:P.underlying t=some (.array n el))(tt:TI P t szt byt zt)(hz:zt.cells=zc.toArray)(ti:TI P el sz by' z)
 (h:R (.agg zc.toArray) w):aF P (.build t #[]) ty ρ w R:=by
 obtain⟨i,hi,_,_,hzz⟩:=tt;obtain⟨j,hj,hs,_,_⟩:=ti;have hr:(Instr.build t #[]).run P w=.ok (.agg zc.toArray) w:=by
  simp[Instr.build,Sem.run_bind,zeroValue,typeInfo,run_program,Result.andThen_ok,hi,Sem.run_pure,hzz,run_underlying hu,sizeOf,hj,hz,Instr.fill]
 simp only[aF,cZ,execOp];simp[hr,upon];exact h
end
def qA{α:Type}(xs:List α)(l h:Int)(z:α):List α:=xs.take l.toNat++(List.replicate (h-l).toNat z++xs.drop h.toNat)
theorem Hw{α:Type}{xs:List α}{l h:Nat}{z:α}(h1:l<=h)(h2:h<=xs.length):(qA xs (l:Int) (h:Int) z).length=xs.length:=by
 simp[qA];omega
end Go.X
namespace Go.Q
open Go Go.RowKit Go.X
class eW where
 l:List Nat
 p:Nat->Obj->Prop
def xi[eW](H:Bool->Hp):Prop:=∀g∈eW.l,∃o,H true g=some o/\eW.p g o
variable [eW]
structure Pd where
 p:(Bool->Hp)->Value->Prop
 mono:∀(H H':Bool->Hp) (v:Value),(∀κ,Le (H κ) (H' κ))->p H v->p H' v
 one:∀(H:Bool->Hp) (v:Value),p H v->X.one v=true
inductive Lf:Type 1 where
 |v (x:Value)
 |ro {α:Type} (r:bQ α) (κ:Bool) (xs:List α)
 |cp {α:Type} (r:bQ α) (κ:Bool) (xs:List α)
 |own (i:Nat)
 |ptr (i off:Nat)
 |mp (i:Nat)
 |pd (q:Pd)
 |sg (i sz:Nat) (lo hi:Int)
 |ap {α:Type} (i:Nat) (r:bQ α) (κ:Bool) (xs:List α)
inductive Ob:Type 1 where
 |row {α:Type} (r:bQ α) (κ:Bool) (xs:List α)
 |box (l:List Lf)
 |map {K V:Type} (dk:DecidableEq K) (kf:K->Value) (vf:V->Value) (m:List (K×V))
 |deep {α:Type} (j:Nat) (D:AY α) (xs:List α) (hs:List (Nat×Nat×Nat×Nat))
 |hd {α:Type} (h i i':Nat) (r:bQ α) (κ:Bool) (xs:List α)
 |aG {α:Type} (r:bQ α) (κ:Bool) (xs:List α)
inductive S1:Type 1 where
 |lf (l:Lf)
 |agg (l:List Lf)
inductive Sv:Type 1 where
 |s (x:S1)
 |fC (l:List S1)
 |pr (κ:Bool) (cells:List Lf) (off:Nat)
 |pw {α:Type} (i:Nat) (r:bQ α) (xs:List α) (x:α) (ix:Int) (off:Nat)
 |fc (f:FuncId) (ps:List Nat)
 |pa {α:Type} (i:Nat) (r:bQ α) (κ:Bool) (xs:List α) (x:α) (ix:Int) (off:Nat)
structure Nu where
 f:Nat->Option (Option Nat×Nat×Nat)
 tl:Nat->List (Option Nat)
 tc:Nat->List cW
instance:CoeFun Nu fun _=>Nat->Option (Option Nat×Nat×Nat):=⟨Nu.f⟩
def sh:Nu:=⟨fun _=>none,fun _=>[],fun _=>[]⟩
def Ob.tid:Ob->Option Nat
 |.deep t _ _ _=>some t
 |_=>none
def eR(ν ν':Nu):Prop:=∀(i:Nat) x,ν i=some x->ν' i=some x
def aQ{α:Type 1}:List (Nat×Option α)->Nat->Option α
 |[],_=>none
 |(d,s)::r,t=>bif Nat.beq t d then s else aQ r t
def bJ{α:Type 1}:List (Nat×Option α)->(Nat->Option α)->Nat->Option α
 |[],f,t=>f t
 |(d,s)::r,f,t=>bif Nat.beq t d then s else bJ r f t
theorem qK{α:Type 1}:∀(l r:List (Nat×Option α)) (t:Nat),aQ (l++r) t=bJ l (aQ r) t
 |[],_,_=>rfl
 |(d,s)::l,r,t=>by show(bif _ then _ else aQ (l++r) t)=(bif _ then _ else bJ l (aQ r) t);rw[qK l r t]
theorem jY{α:Type 1}:∀{l:List (Nat×Option α)} {f:Nat->Option α} {t:Nat},cr t (l.map (·.1))=false->bJ l f t=f t
 |[],_,_,_=>rfl
 |(d,s)::l,f,t,h=>by
  simp only[jN,cr,Gf]at h;show(bif Nat.beq t d then s else bJ l f t)=f t;have:Nat.beq t d=false:=by
   cases hb:Nat.beq t d with
   |false=>rfl
   |true=>have:=dI hb;subst this;rw[qR]at h;cases h.1
  rw[this];exact jY h.2
theorem qb{α:Type 1}:∀{l:List (Nat×Option α)} {f g:Nat->Option α} {t:Nat},cr t (l.map (·.1))=true->bJ l f t=bJ l g t
 |[],_,_,_,h=>by cases h
 |(d,s)::l,f,g,t,h=>by
  show(bif Nat.beq t d then s else bJ l f t)=(bif Nat.beq t d then s else bJ l g t);cases hb:Nat.beq t d with
  |true=>rfl
  |false=>
   simp only[jN,cr,vP]at h;rcases h with h|h
   . have:=dI h;subst this;rw[qR]at hb;cases hb
   . exact qb h
theorem jI{α:Type 1}{x:α}:∀{l:List (Nat×Option α)} {f:Nat->Option α} {t:Nat},bJ l f t=some x->(t,some x)∈l\/(f t=some x/\cr t (l.map (·.1))=false)
 |[],_,_,h=>.inr ⟨h,rfl⟩
 |(d,s)::l,f,t,h0=>by
  have h:(bif Nat.beq t d then s else bJ l f t)=some x:=h0;clear h0;cases hb:Nat.beq t d with
  |true=>rw[hb]at h;simp only[cond_true]at h;have:=dI hb;subst this;subst h;exact .inl cO
  |false=>
   rw[hb]at h;simp only[cond_false]at h;rcases jI (l:=l) h with h|⟨h1,h2⟩
   . exact .inl (cJ _ h)
   . refine .inr ⟨h1,?_⟩;simp only[jN,cr,h2,Bool.or_false];exact hb
structure SS:Type 1 where
 nx:Nat
 bC:List (Nat×Option Ob)
 bP:List (Nat×Option Sv)
abbrev OF:=Nat->Option Ob
abbrev SF:=Nat->Option Sv
section
variable (ν:Nu) (H:Bool->Hp)
def Lf.R:Lf->Value->Prop
 |.v x,a=>a=x/\one x=true
 |.ro r κ xs,a=>Rs r (H κ) a xs
 |.cp r κ xs,a=>Rs r (H κ) a xs/\vY a
 |.own i,a=>∃b c n,ν i=some (b,c,n)/\a=fk b 0 n c
 |.ptr i off,a=>∃b c,ν i=some (some b,c)/\a=.pointer (some ⟨b,off,none⟩)
 |.mp i,a=>∃b c,ν i=some (some b,c)/\a=.map (some b)
 |.pd q,a=>q.p H a
 |.sg i sz lo hi,a=>∃b c m k q,ν i=some (some b,c)/\lo=((m:Nat):Int)/\hi=((k:Nat):Int)/\m<=k/\a=.slice (some ⟨b,m*sz,none⟩) (k-m) q
 |.ap i r κ xs,a=>∃b c n,ν i=some (b,c,n)/\((n=xs.length/\(b=none->xs=[])/\a=fk b 0 n c)\/(n=xs.length+1/\Rs r (H κ) a xs/\vY a))
def cS:List Lf->List Value->Prop
 |[],vs=>vs=[]
 |l::ls,vs=>∃a az,vs=a::az/\l.R ν H a/\cS ls az
def S1.R:S1->Value->Prop
 |.lf l,a=>l.R ν H a
 |.agg l,a=>∃vs,a=.agg vs.toArray/\cS ν H l vs
def dO:List S1->List Value->Prop
 |[],vs=>vs=[]
 |l::ls,vs=>∃a az,vs=a::az/\l.R ν H a/\dO ls az
def wD:List Nat->List Value->Prop
 |[],vs=>vs=[]
 |p::r,vs=>∃b c vs',vs=.pointer (some ⟨b,0,none⟩)::vs'/\ν p=some (some b,c)/\wD r vs'
def Sv.R:Sv->Value->Prop
 |.s x,a=>x.R ν H a
 |.fC l,a=>∃vs,a=.tuple vs.toArray/\dO ν H l vs
 |.pr κ cells off,a=>∃b o vs,a=.pointer (some ⟨b,o+off,none⟩)/\At (H κ) b o vs/\cS ν H cells vs
 |.pw i r xs x ix off,a=>∃b c n,ν i=some (some b,c)/\ix=((n:Nat):Int)/\xs[n]?=some x/\a=.pointer (some ⟨b,n*r.sz+off,none⟩)
 |.fc f ps,a=>∃vs,a=.func (.func f) #[] (List.toArray vs)/\wD ν ps vs
 |.pa i r κ xs x ix off,a=>∃b c n m,ν i=some (b,c,n)/\ix=((m:Nat):Int)/\xs[m]?=some x/\((n=xs.length/\∃b',b=some b'/\a=.pointer (some ⟨b',m*r.sz+off,none⟩))\/(n=xs.length+1/\∃b' o vs,a=.pointer (some ⟨b',o+off,none⟩)/\At (H κ) b' o vs/\r.R (H κ) vs x))
def Ob.R(c n:Nat):Ob->cW->Prop
 |.row r κ xs,k=>n=xs.length/\(r.sz==0)=false/\∃cs sp,k=.cells ([]++(cs++sp))/\bS r (H κ) cs xs/\(cs++sp).length=c*r.sz
 |.box l,k=>∃vs,k=.cells vs/\cS ν H l vs
 |.map _ kf vf m,k=>k=j5 kf vf m
 |.hd h i i' r κ xs,k=>∃b0 c0,ν i=some (b0,c0,xs.length)/\(r.sz==0)=false/\((ν h=some (b0,c0,xs.length)/\∃cs sp,k=.cells ([]++(cs++sp))/\bS r (H κ) cs xs/\(cs++sp).length=c0*r.sz)\/((∃c',ν h=some (none,c'))/\∃n',ν i'=some (b0,c0,n')))
 |.deep j0 D xs hs,k=>n=xs.length/\(D.r.sz==0)=false/\∃t c' n' cs sp FB FC,ν j0=some (some t,c',n')/\k=.cells ([]++(cs++sp))/\(cs++sp).length=c*D.r.sz/\DEls D cs FB FC xs/\(ν.tl t).length=FB.length/\(ν.tc t).length=FC.length/\ (∀j,cr j (hs.map (·.1))=false->(ν.tl t)[j]?=FB[j]?/\(ν.tc t)[j]?=FC[j]?)/\ ∀h∈hs,(ν.tl t)[h.1]?=some none/\(ν.tc t)[h.1]?=some (.cells [])/\∃b c n,ν h.2.2.2=some (b,c,n)/\FB[h.1]?=some b/\cs[h.2.1*D.r.sz+h.2.2.1]?=some (fk b 0 n c)
 |.aG r κ xs,k=>(r.sz==0)=false/\((n=xs.length/\∃cs sp,k=.cells ([]++(cs++sp))/\bS r (H κ) cs xs/\(cs++sp).length=c*r.sz)\/(n=xs.length+1/\k=.cells []))
def ObsR:List (Nat×Ob)->List cW->Prop
 |[],C=>C=[]
 |x::r,C=>∃b c n k C',C=k::C'/\ν x.1=some (b,c,n)/\x.2.R ν H c n k/\ObsR r C'
def di(sF:SF)(e:Env):Prop:=∀t sv,sF t=some sv->sv.R ν H (e t)
def svR:Option Sv->Value->Prop
 |none,_=>True
 |some s,v=>s.R ν H v
end
def dt(ν:Nu)(i:Nat):Option Nat:=match ν i with
 |some (b,_)=>b
 |none=>none
theorem ep{ν:Nu}{i:Nat}{b:Option Nat}{c:Nat×Nat}(h:ν i=some (b,c)):dt ν i=b:=by unfold dt;rw[h]
def Os(ν:Nu)(l:List (Nat×Ob)):List (Option Nat):=l.map fun x=>dt ν x.1
def gZ(ν:Nu)(i:Nat)(ob:Ob):Option Nat:=match ob.tid with
 |some _=>dt ν i
 |none=>none
theorem uN{ν:Nu}{i:Nat}{ob:Ob}(h:ob.tid=none):gZ ν i ob=none:=by unfold gZ;rw[h]
def fK(ν:Nu)(i:Nat)(ob:Ob)(b:Nat):Prop:=dt ν i=some b\/∃t,gZ ν i ob=some t/\some b∈ν.tl t
def Ow(ν:Nu)(oF:OF)(b:Nat):Prop:=∃i ob,oF i=some ob/\fK ν i ob b
def Ob.tok(ν:Nu)(w:World)(i:Nat)(ob:Ob):Prop:=∀t,gZ ν i ob=some t->gB w (ν.tl t) (ν.tc t)/\iV (ν.tl t)
def kI:Option Obj->Option Obj
 |some (.cells a b c)=>some (.cells a b c)
 |_=>none
theorem mr{x:Option Obj}{o:Obj}(h:kI x=some o):x=some o:=by
 cases x with
 |none=>cases h
 |some y=>cases y<;>first|exact h|cases h
theorem vn{w:World}{b:Nat}{cs:List Value}{q:Obj}(h:dC w (some b) (.cells cs))(hq:w.heap[b]?=some q):kI (w.heap[b]?)=some q:=by
 obtain⟨t,lo,hi,h1,_⟩:=h;rw[h1]at hq⊢;exact hq
open Classical in
noncomputable def HF(X:Nat->Prop)(w0:World)(H0:Bool->Hp)(ν:Nu)(oF:OF)(w:World)(κ:Bool):Hp:=fun b=>if b<w0.heap.size/\¬X b then H0 κ b else if Ow ν oF b then none else kI (w.heap[b]?)
structure cI (X:Nat->Prop)(w0:World)(H0:Bool->Hp)(ν:Nu)(oF:OF)(w:World):Prop where
 os:w.os=w0.os
 tape:w.tape=w0.tape
 output:w.output=w0.output
 size:w0.heap.size<=w.heap.size
 keep:∀k,k<w0.heap.size->¬X k->w.heap[k]?=w0.heap[k]?
 h0:Le (H0 true) (H0 false)
 mw:∀b o,H0 false b=some o->b<w0.heap.size/\w0.heap[b]?=some o/\¬X b
 oB:xi H0
 cT:∀i ob,oF i=some ob->∃b c n k,ν i=some (b,c,n)/\dC w b k/\ob.R ν (HF X w0 H0 ν oF w) c n k
 fresh:∀i ob b,oF i=some ob->fK ν i ob b->X b\/w0.heap.size<=b
 gG:∀i j oi oj b,oF i=some oi->oF j=some oj->fK ν i oi b->fK ν j oj b->i=j
 parts:∀i ob,oF i=some ob->ob.tok ν w i/\(∀b t,dt ν i=some b->gZ ν i ob=some t->some b∉ν.tl t)/\∀j,ob.tid=some j->j=i
section
variable {ν ν':Nu} {H H':Bool->Hp}
theorem Lf.R.mono(hν:eR ν ν')(hH:∀κ,Le (H κ) (H' κ)):∀{l:Lf} {a:Value},l.R ν H a->l.R ν' H' a
 |.v _,_,h=>h
 |.ro r κ xs,_,h=>Rs.mono h (hH κ)
 |.cp r κ xs,_,h=>⟨Rs.mono h.1 (hH κ),h.2⟩
 |.own _,_,⟨b,c,n,h1,h2⟩=>⟨b,c,n,hν _ _ h1,h2⟩
 |.ptr _ _,_,⟨b,c,h1,h2⟩=>⟨b,c,hν _ _ h1,h2⟩
 |.mp _,_,⟨b,c,h1,h2⟩=>⟨b,c,hν _ _ h1,h2⟩
 |.pd q,_,h=>q.mono _ _ _ hH h
 |.sg ..,_,⟨b,c,m,k,q,h1,h2⟩=>⟨b,c,m,k,q,hν _ _ h1,h2⟩
 |.ap i r κ xs,_,⟨b,c,n,h1,h2⟩=>⟨b,c,n,hν _ _ h1,h2.imp id fun h=>⟨h.1,Rs.mono h.2.1 (hH _),h.2.2⟩⟩
theorem cS.mono(hν:eR ν ν')(hH:∀κ,Le (H κ) (H' κ)):∀{l:List Lf} {a:List Value},cS ν H l a->cS ν' H' l a
 |[],_,h=>h
 |_::_,_,⟨a,az,h1,h2,h3⟩=>⟨a,az,h1,h2.mono hν hH,cS.mono hν hH h3⟩
theorem S1.R.mono(hν:eR ν ν')(hH:∀κ,Le (H κ) (H' κ)):∀{l:S1} {a:Value},l.R ν H a->l.R ν' H' a
 |.lf _,_,h=>Lf.R.mono hν hH h
 |.agg _,_,⟨vs,h1,h2⟩=>⟨vs,h1,h2.mono hν hH⟩
theorem dO.mono(hν:eR ν ν')(hH:∀κ,Le (H κ) (H' κ)):∀{l:List S1} {a:List Value},dO ν H l a->dO ν' H' l a
 |[],_,h=>h
 |_::_,_,⟨a,az,h1,h2,h3⟩=>⟨a,az,h1,h2.mono hν hH,dO.mono hν hH h3⟩
theorem wD.mono(hν:eR ν ν'):∀{l:List Nat} {a:List Value},wD ν l a->wD ν' l a
 |[],_,h=>h
 |_::_,_,⟨b,c,vs,h1,h2,h3⟩=>⟨b,c,vs,h1,hν _ _ h2,h3.mono hν⟩
theorem Sv.R.mono(hν:eR ν ν')(hH:∀κ,Le (H κ) (H' κ)):∀{l:Sv} {a:Value},l.R ν H a->l.R ν' H' a
 |.s _,_,h=>S1.R.mono hν hH h
 |.fC _,_,⟨vs,h1,h2⟩=>⟨vs,h1,h2.mono hν hH⟩
 |.pr κ _ _,_,⟨b,o,vs,h1,h2,h3⟩=>⟨b,o,vs,h1,h2.mono (hH κ),h3.mono hν hH⟩
 |.pw ..,_,⟨b,c,n,h1,h2⟩=>⟨b,c,n,hν _ _ h1,h2⟩
 |.fc ..,_,⟨vs,h1,h2⟩=>⟨vs,h1,h2.mono hν⟩
 |.pa i r κ xs x ix off,_,⟨b,c,n,m,h1,h2,h3,h4⟩=>⟨b,c,n,m,hν _ _ h1,h2,h3,h4.imp id fun⟨e,b',o,vs,g1,g2,g3⟩=>⟨e,b',o,vs,g1,g2.mono (hH _),r.mono _ _ _ _ (hH _) g3⟩⟩
theorem Ob.R.mono(hν:eR ν ν')(hH:∀κ,Le (H κ) (H' κ)){c n:Nat}:∀{l:Ob} {k:cW} (ht:∀j b c n,l.tid=some j->ν j=some (some b,c,n)->ν'.tl b=ν.tl b/\ν'.tc b=ν.tc b),l.R ν H c n k->l.R ν' H' c n k
 |.row r κ xs,_,_,⟨h1,h0,cs,sp,h2,h3,h4⟩=>⟨h1,h0,cs,sp,h2,h3.mono (hH κ),h4⟩
 |.box _,_,_,⟨vs,h1,h2⟩=>⟨vs,h1,h2.mono hν hH⟩
 |.map ..,_,_,h=>h
 |.hd ..,_,_,⟨b0,c0,h1,h2,h3⟩=>by
  refine⟨b0,c0,hν _ _ h1,h2,?_⟩;rcases h3 with⟨g1,cs,sp,g2,g3,g4⟩|⟨⟨c',g1⟩,n',g2⟩
  . exact .inl ⟨hν _ _ g1,cs,sp,g2,g3.mono (hH _),g4⟩
  . exact .inr ⟨⟨c',hν _ _ g1⟩,n',hν _ _ g2⟩
 |.deep t D xs hs,_,ht,h=>by
  obtain⟨h1,h2,t,c',n',cs,sp,FB,FC,h0,h3,h4,h5,h6,h7,h8,h9⟩:=h;obtain⟨e1,e2⟩:=ht _ _ _ _ rfl h0;refine⟨h1,h2,t,c',n',cs,sp,FB,FC,hν _ _ h0,h3,h4,h5,by rw[e1];exact h6,by rw[e2];exact h7,fun j hj=>by rw[e1,e2];exact h8 j hj,fun h hh=>?_⟩;obtain⟨g1,g2,b,c,n,g3,g4,g5⟩:=h9 h hh;exact⟨by rw[e1];exact g1,by rw[e2];exact g2,b,c,n,hν _ _ g3,g4,g5⟩
 |.aG r κ xs,_,_,⟨h0,h⟩=>⟨h0,h.imp (fun⟨e,cs,sp,g1,g2,g3⟩=>⟨e,cs,sp,g1,g2.mono (hH _),g3⟩) id⟩
theorem di.mono(hν:eR ν ν')(hH:∀κ,Le (H κ) (H' κ)){l:SF}{e:Env}(h:di ν H l e):di ν' H' l e:=fun t sv ht=>(h t sv ht).mono hν hH
theorem Lf.R.one:∀{l:Lf} {a:Value},l.R ν H a->X.one a=true
 |.v _,_,⟨h1,h2⟩=>h1▸h2
 |.ro _ _ _,_,h=>Rs.one h
 |.cp _ _ _,_,h=>Rs.one h.1
 |.own _,_,⟨b,c,n,_,h⟩=>by rw[h];exact L8 _ _ _ _
 |.ptr _ _,_,⟨b,c,_,h⟩=>by rw[h];rfl
 |.mp _,_,⟨b,c,_,h⟩=>by rw[h];rfl
 |.pd q,_,h=>q.one _ _ h
 |.sg ..,_,⟨b,c,m,k,q,_,_,_,_,h⟩=>by rw[h];rfl
 |.ap ..,_,⟨b,c,n,_,h⟩=>by
  rcases h with⟨_,_,h⟩|⟨_,h,_⟩
  . rw[h];exact L8 _ _ _ _
  . exact Rs.one h
theorem cS.fb:∀{l:List Lf} {a:List Value},cS ν H l a->X.fb a=true
 |[],_,h=>by rw[show _=[] from h];rfl
 |_::_,_,⟨a,az,h1,h2,h3⟩=>by rw[h1];exact dG h2.one h3.fb
theorem cS.length:∀{l:List Lf} {a:List Value},cS ν H l a->a.length=l.length
 |[],_,h=>by rw[show _=[] from h];rfl
 |_::_,_,⟨a,az,h1,h2,h3⟩=>by rw[h1,cv,cv,h3.length]
theorem cS.get:∀{l:List Lf} {a:List Value} {i:Nat} {x:Lf},cS ν H l a->l[i]?=some x->∃y,a[i]?=some y/\x.R ν H y
 |[],_,i,x,_,hx=>by simp at hx
 |_::_,_,0,x,⟨a,az,h1,h2,h3⟩,hx=>by simp at hx;subst hx;exact⟨a,by rw[h1];rfl,h2⟩
 |_::_,_,i+1,x,⟨a,az,h1,h2,h3⟩,hx=>by
  obtain⟨y,g1,g2⟩:=h3.get (i:=i) (by simpa using hx);exact⟨y,by rw[h1];simpa using g1,g2⟩
theorem cS.drop:∀{l:List Lf} {a:List Value} (n:Nat),cS ν H l a->cS ν H (l.drop n) (a.drop n)
 |[],_,n,h=>by rw[show _=[] from h];simp;rfl
 |_::_,_,0,h=>h
 |_::_,_,n+1,⟨a,az,h1,h2,h3⟩=>by rw[h1];exact h3.drop n
theorem cS.take:∀{l:List Lf} {a:List Value} (n:Nat),cS ν H l a->cS ν H (l.take n) (a.take n)
 |[],_,n,h=>by rw[show _=[] from h];simp;rfl
 |_::_,_,0,h=>rfl
 |_::_,_,n+1,⟨a,az,h1,h2,h3⟩=>by rw[h1];exact⟨a,az.take n,rfl,h2,h3.take n⟩
theorem cS.set:∀{l:List Lf} {a:List Value} {i:Nat} {x:Lf} {y:Value},cS ν H l a->x.R ν H y->cS ν H (l.set i x) (a.set i y)
 |[],_,i,x,y,h,_=>by rw[show _=[] from h];rfl
 |_::_,_,0,x,y,⟨a,az,h1,h2,h3⟩,hy=>by rw[h1];exact⟨y,az,rfl,hy,h3⟩
 |_::_,_,i+1,x,y,⟨a,az,h1,h2,h3⟩,hy=>by rw[h1];exact⟨a,az.set i y,rfl,h2,h3.set hy⟩
theorem cS.append:∀{l l':List Lf} {a a':List Value},cS ν H l a->cS ν H l' a'->cS ν H (l++l') (a++a')
 |[],_,_,_,h,h'=>by rw[show _=[] from h];exact h'
 |_::_,_,_,_,⟨a,az,h1,h2,h3⟩,h'=>by rw[h1];exact⟨a,az++_,rfl,h2,h3.append h'⟩
def uT(l:List Lf)(o:Nat):List Lf->List Lf
 |[]=>l
 |u::r=>uT (l.set o u) (o+1) r
theorem cS.put:∀{us:List Lf} {l:List Lf} {a bs:List Value} {o:Nat},cS ν H l a->cS ν H us bs->cS ν H (uT l o us) (putAt a o bs)
 |[],_,_,_,_,h,h'=>by rw[show _=[] from h'];exact h
 |u::us,l,a,_,o,h,⟨b,bs,h1,h2,h3⟩=>by rw[h1];show cS ν H (uT (l.set o u) (o+1) us) (putAt (a.set o b) (o+1) bs);exact cS.put (h.set h2) h3
theorem dO.get:∀{l:List S1} {a:List Value} {i:Nat} {x:S1},dO ν H l a->l[i]?=some x->∃y,a[i]?=some y/\x.R ν H y
 |[],_,i,x,_,hx=>by simp at hx
 |_::_,_,0,x,⟨a,az,h1,h2,h3⟩,hx=>by simp at hx;subst hx;exact⟨a,by rw[h1];rfl,h2⟩
 |_::_,_,i+1,x,⟨a,az,h1,h2,h3⟩,hx=>by
  obtain⟨y,g1,g2⟩:=h3.get (i:=i) (by simpa using hx);exact⟨y,by rw[h1];simpa using g1,g2⟩
theorem dO.length:∀{l:List S1} {a:List Value},dO ν H l a->a.length=l.length
 |[],_,h=>by rw[show _=[] from h];rfl
 |_::_,_,⟨a,az,h1,h2,h3⟩=>by rw[h1,cv,cv,h3.length]
def xj(f:SF)(d:Nat)(s:Option Sv):SF:=fun t=>bif Nat.beq t d then s else f t
theorem di.set{f:SF}{e:Env}{d:Nat}{s:Option Sv}{v:Value}(h:di ν H f e)(hv:svR ν H s v):di ν H (xj f d s) (cK e d v):=by
 intro t sv ht;unfold xj at ht;unfold cK;cases hb:Nat.beq t d with
 |true=>rw[hb]at ht;simp only[cond_true]at ht⊢;subst ht;exact hv
 |false=>rw[hb]at ht;simp only[cond_false]at ht⊢;exact h t sv ht
def Dh(f:SF):Option Nat->Option Sv->SF
 |some d,s=>xj f d s
 |none,_=>f
theorem di.mf{f:SF}{e:Env}{d:Option Nat}{s:Option Sv}{v:Value}(h:di ν H f e)(hv:svR ν H s v):di ν H (Dh f d s) (jJ e d v):=by
 cases d with
 |none=>exact h
 |some d=>exact h.set hv
end
theorem eR.refl(ν:Nu):eR ν ν:=fun _ _ h=>h
section
variable {X:Nat->Prop} {w0 w w':World} {H0:Bool->Hp} {ν ν':Nu} {oF oF':OF}
theorem k9{b:Nat}{κ:Bool}{o:Obj}(h:X b\/w0.heap.size<=b)(hn:¬Ow ν oF b)(hb:kI (w.heap[b]?)=some o):HF X w0 H0 ν oF w κ b=some o:=by
  unfold HF; rw [if_neg (by rintro ⟨h1, h2⟩; rcases h with h | h; · exact h2 h
                            . omega),if_neg hn];exact hb
theorem nz{b:Nat}{κ:Bool}(h:b<w0.heap.size)(hx:¬X b):HF X w0 H0 ν oF w κ b=H0 κ b:=by
 unfold HF;rw[if_pos ⟨h,hx⟩]
theorem ra{b:Nat}{κ:Bool}{o:Obj}(h:HF X w0 H0 ν oF w κ b=some o):(b<w0.heap.size/\¬X b/\H0 κ b=some o)\/((X b\/w0.heap.size<=b)/\¬Ow ν oF b/\kI (w.heap[b]?)=some o):=by
 unfold HF at h;split at h
 . rename_i hc;exact .inl ⟨hc.1,hc.2,h⟩
 . rename_i hc;split at h
   . cases h
   . refine .inr ⟨?_,by assumption,h⟩;rcases cw b w0.heap.size with h1|h1
     . exact .inl (jL fun h2=>hc ⟨h1,h2⟩)
     . exact .inr h1
theorem cI.tf(hS:cI X w0 H0 ν oF w):Le (HF X w0 H0 ν oF w true) (HF X w0 H0 ν oF w false):=fun b o h=>by
 rcases ra h with⟨h1,h1',h2⟩|⟨h1,h2,h3⟩
 . rw[nz h1 h1'];exact hS.h0 b o h2
 . exact k9 h1 h2 h3
theorem cI.tab(hS:cI X w0 H0 ν oF w):xi (HF X w0 H0 ν oF w):=fun g hg=>by
 obtain⟨o,h1,h2⟩:=hS.oB g hg;obtain⟨g1,_,g3⟩:=hS.mw g o (hS.h0 g o h1);exact⟨o,by rw[nz g1 g3];exact h1,h2⟩
theorem cI.lef(hS:cI X w0 H0 ν oF w)(κ:Bool):Le (HF X w0 H0 ν oF w κ) (HF X w0 H0 ν oF w false):=by
 cases κ with
 |true=>exact hS.tf
 |false=>exact Le.refl _
theorem cI.rd(hS:cI X w0 H0 ν oF w){κ:Bool}{b:Nat}{o:Obj}(h:HF X w0 H0 ν oF w κ b=some o):w.heap[b]?=some o/\¬Ow ν oF b:=by
 rcases ra (hS.lef κ b o h)with⟨h1,_,h2⟩|⟨h1,h2,h3⟩
 . obtain⟨g1,g2,g3⟩:=hS.mw b o h2;refine⟨(hS.keep b g1 g3).trans g2,?_⟩;rintro⟨i,ob,q1,q2⟩;rcases hS.fresh i ob b q1 q2 with q3|q3
   . exact g3 q3
   . omega
 . exact⟨mr h3,h2⟩
theorem cI.view(hS:cI X w0 H0 ν oF w)(κ:Bool):Le (HF X w0 H0 ν oF w κ) (view [] w):=fun b o h=>uY (hS.rd h).1 (by simp)
theorem IL{l:List (Nat×Ob)}{b:Option Nat}(h:b∈Os ν l):∃x∈l,dt ν x.1=b:=by
 obtain⟨x,h1,h2⟩:=dz.1 h;exact⟨x,h1,h2⟩
theorem Kb:∀{l:List (Nat×Ob)},iV (Os ν l)->(l.map (·.1)).Nodup->∀x∈l,∀y∈l,∀b,dt ν x.1=some b->dt ν y.1=some b->x.1=y.1
 |[],_,_,x,hx,_,_,_,_,_=>by cases hx
 |z::r,hd,hn,x,hx,y,hy,b,h1,h2=>by
  have hd':iV (dt ν z.1::Os ν r):=hd;have hn':=MT.1 (show(z.1::r.map (·.1)).Nodup from hn);have hr:iV (Os ν r):=by
   cases hb:dt ν z.1 with
   |none=>rw[hb]at hd';exact hd'
   |some c=>rw[hb]at hd';exact hd'.2
  rcases eb.1 hx with e|e<;>rcases eb.1 hy with e'|e'
  . subst e;subst e';rfl
  . subst e;rw[h1]at hd';exact absurd (dz.2 ⟨y,e',h2⟩) hd'.1
  . subst e';rw[h2]at hd';exact absurd (dz.2 ⟨x,e,h1⟩) hd'.1
  . exact Kb hr hn'.2 x e y e' b h1 h2
theorem pZ{ob:Ob}{i b:Nat}(ht:ob.tid=none):fK ν i ob b↔dt ν i=some b:=by
 constructor
 . rintro(h|⟨t,h,_⟩)
   . exact h
   . rw[uN ht]at h;cases h
 . exact .inl
theorem D7{w w':World}:∀{O:List (Option Nat)} {C:List cW},gB w O C->(∀b,some b∈O->w'.heap[b]?=w.heap[b]?)->gB w' O C
 |[],[],_,_=>trivial
 |o::O,c::C,h,hs=>by
  refine⟨?_,D7 h.2 fun b hb=>hs b (cJ _ hb)⟩;cases o with
  |none=>have h1:=h.1;cases c<;>exact h1
  |some b=>exact dC.same h.1 fun k hk=>by cases hk;exact hs b cO
theorem yR{w:World}:∀{O:List (Option Nat)} {C:List cW} {b:Nat},gB w O C->some b∈O->b<w.heap.size
 |o::O,c::C,b,h,hb=>by
  rcases eb.1 hb with e|e
  . subst e;exact h.1.lt
  . exact yR h.2 e
theorem cI.ltO(hS:cI X w0 H0 ν oF w){i:Nat}{ob:Ob}{b:Nat}(h1:oF i=some ob)(h2:fK ν i ob b):b<w.heap.size:=by
 rcases h2 with h2|⟨t,h2,h3⟩
 . obtain⟨b',c,n,k,q1,q2,_⟩:=hS.cT i ob h1;rw[ep q1]at h2;subst h2;exact q2.lt
 . exact yR ((hS.parts i ob h1).1 t h2).1 h3
theorem Ns{i j t:Nat}{ob:Ob}(h:ob.tid=some j)(hb:dt ν i=some t):gZ ν i ob=some t:=by unfold gZ;rw[h];exact hb
theorem cI.goT(hS:cI X w0 H0 ν oF w){T:List Nat}{O O':List (Option Nat)}{C':List cW}{new:List (Nat×Ob)}(hO:∀b,some b∈O->∃i∈T,∃ob,oF i=some ob/\fK ν i ob b)
 (hL:Go.X.Loc O [] w w' O' C')(hν:eR ν ν')(hO':∀x∈new,∀b,fK ν' x.1 x.2 b->some b∈O')(hD:∀x∈new,∀y∈new,∀b,fK ν' x.1 x.2 b->fK ν' y.1 y.2 b->x.1=y.1)(hF:∀i ob,oF' i=some ob->(oF i=some ob/\i∉T)\/(i,ob)∈new)
 (hT:∀i ob t,oF i=some ob->i∉T->gZ ν i ob=some t->ν'.tl t=ν.tl t/\ν'.tc t=ν.tc t)
 (hP:∀x∈new,x.2.tok ν' w' x.1/\(∀b t,dt ν' x.1=some b->gZ ν' x.1 x.2=some t->some b∉ν'.tl t)/\∀j,x.2.tid=some j->j=x.1)
 (hR:(∀κ,Le (HF X w0 H0 ν oF w κ) (HF X w0 H0 ν' oF' w' κ))->∀x∈new,∃b c n k,ν' x.1=some (b,c,n)/\dC w' b k/\x.2.R ν' (HF X w0 H0 ν' oF' w') c n k):
 cI X w0 H0 ν' oF' w'/\∀κ,Le (HF X w0 H0 ν oF w κ) (HF X w0 H0 ν' oF' w' κ):=by
 have keepO:∀k,k<w.heap.size->some k∉O->w'.heap[k]?=w.heap[k]?:=hL.keep;have old:∀i ob,oF i=some ob->i∉T->∀b,fK ν i ob b->some b∉O:=by
  intro i ob h1 h2 b h3 h4;obtain⟨j,hj,oj,g1,g2⟩:=hO b h4;have:=hS.gG i j ob oj b h1 g1 h3 g2;subst this;exact h2 hj
 have blk':∀i ob,oF i=some ob->dt ν' i=dt ν i:=by
  intro i ob h1;obtain⟨b,c,n,k,g1,_⟩:=hS.cT i ob h1;rw[ep g1,ep (hν _ _ g1)]
 have tdn':∀i ob,oF i=some ob->gZ ν' i ob=gZ ν i ob:=by
  intro i ob h1;unfold gZ;rw[blk' i ob h1]
 have owb':∀i ob b,oF i=some ob->i∉T->(fK ν' i ob b↔fK ν i ob b):=by
  intro i ob b h1 h2;unfold fK;rw[blk' i ob h1,tdn' i ob h1];constructor
  . rintro(h|⟨t,g1,g2⟩)
    . exact .inl h
    . exact .inr ⟨t,g1,by rw[<-(hT i ob t h1 h2 g1).1];exact g2⟩
  . rintro(h|⟨t,g1,g2⟩)
    . exact .inl h
    . exact .inr ⟨t,g1,by rw[(hT i ob t h1 h2 g1).1];exact g2⟩
 have newb:∀x∈new,∀b,fK ν' x.1 x.2 b->some b∈O\/w.heap.size<=b:=fun x hx b hb=>hL.fresh b (hO' x hx b hb);have ow:∀b,Ow ν' oF' b->Ow ν oF b\/w.heap.size<=b:=by
  rintro b ⟨i,ob,h1,h2⟩;rcases hF i ob h1 with⟨g1,g2⟩|g
  . exact .inl ⟨i,ob,g1,(owb' i ob b g1 g2).1 h2⟩
  . rcases newb _ g b h2 with g3|g3
    . obtain⟨j,_,oj,q1,q2⟩:=hO b g3;exact .inl ⟨j,oj,q1,q2⟩
    . exact .inr g3
 have ltO:∀i ob b,oF i=some ob->fK ν i ob b->b<w.heap.size:=by
  rintro i ob b h1 (h2|⟨t,h2,h3⟩)
  . obtain⟨b',c,n,k,q1,q2,_⟩:=hS.cT i ob h1;rw[ep q1]at h2;subst h2;exact q2.lt
  . exact yR ((hS.parts i ob h1).1 t h2).1 h3
 have le:∀κ,Le (HF X w0 H0 ν oF w κ) (HF X w0 H0 ν' oF' w' κ):=by
  intro κ b o h;rcases ra h with⟨h1,h1',h2⟩|⟨h1,h2,h3⟩
  . rw[nz h1 h1'];exact h2
  . have hlt:=kq (mr h3);refine k9 h1 (fun hw=>?_) ?_
    . rcases ow b hw with g|g
      . exact h2 g
      . omega
    . rw[keepO b hlt (fun hb=>by obtain⟨j,_,oj,q1,q2⟩:=hO b hb;exact h2 ⟨j,oj,q1,q2⟩)];exact h3
 refine⟨?_,le⟩;have hobs:=hR le;refine⟨hL.os.trans hS.os,hL.tape.trans hS.tape,hL.output.trans hS.output,bO hS.size hL.size,fun k hk hx=>?_,hS.h0,hS.mw,hS.oB,fun i ob h=>?_,fun i ob b h hb=>?_,fun i j oi oj b hi hj hbi hbj=>?_,fun i ob h=>?_⟩
 . rw[keepO k (B2 hk hS.size) (fun hb=>?_)]
   . exact hS.keep k hk hx
   . obtain⟨j,_,oj,q1,q2⟩:=hO k hb;rcases hS.fresh j oj k q1 q2 with g|g
     . exact hx g
     . omega
 . rcases hF i ob h with⟨g1,g2⟩|g
   . obtain⟨b,c,n,k,q1,q2,q3⟩:=hS.cT i ob g1;refine⟨b,c,n,k,hν _ _ q1,?_,q3.mono hν le fun j b' c' n' hj hb=>?_⟩
     . cases b with
       |none=>cases k<;>exact q2
       |some b=>exact q2.same fun k' hk'=>by cases hk';exact keepO b q2.lt (old i ob g1 g2 b (.inl (ep q1)))
     . have e:=(hS.parts i ob g1).2.2 j hj;subst e;exact hT j ob b' g1 g2 (Ns hj (ep hb))
   . exact hobs _ g
 . rcases hF i ob h with⟨g1,g2⟩|g
   . exact hS.fresh i ob b g1 ((owb' i ob b g1 g2).1 hb)
   . rcases newb _ g b hb with g3|g3
     . obtain⟨j,_,oj,q1,q2⟩:=hO b g3;exact hS.fresh j oj b q1 q2
     . exact .inr (bO hS.size g3)
 . have mix:∀i j oi oj,oF i=some oi->i∉T->(j,oj)∈new->fK ν' i oi b->fK ν' j oj b->False:=by
    intro i j oi oj h1 h2 h3 h4 h5;have h4:=(owb' i oi b h1 h2).1 h4;rcases newb _ h3 b h5 with g|g
    . exact old i oi h1 h2 b h4 g
    . have:=ltO i oi b h1 h4;omega
   rcases hF i oi hi with⟨g1,g2⟩|g<;>rcases hF j oj hj with⟨g1',g2'⟩|g'
   . exact hS.gG i j oi oj b g1 g1' ((owb' i oi b g1 g2).1 hbi) ((owb' j oj b g1' g2').1 hbj)
   . exact(mix i j oi oj g1 g2 g' hbi hbj).elim
   . exact(mix j i oj oi g1' g2' g hbj hbi).elim
   . exact hD _ g _ g' b hbi hbj
 . rcases hF i ob h with⟨g1,g2⟩|g
   . obtain⟨p1,p2,p3⟩:=hS.parts i ob g1;refine⟨fun t ht=>?_,fun b t hb ht=>?_,p3⟩
     . rw[tdn' i ob g1]at ht;obtain⟨e1,e2⟩:=hT i ob t g1 g2 ht;obtain⟨q1,q2⟩:=p1 t ht;rw[e1,e2];exact⟨D7 q1 fun b hb=>keepO b (yR q1 hb) (old i ob g1 g2 b (.inr ⟨t,ht,hb⟩)),q2⟩
     . rw[tdn' i ob g1]at ht;rw[(hT i ob t g1 g2 ht).1];exact p2 b t (by rw[<-blk' i ob g1];exact hb) ht
   . exact hP _ g
theorem cI.go(hS:cI X w0 H0 ν oF w){T:List Nat}{O O':List (Option Nat)}{C':List cW}{new:List (Nat×Ob)}(hO:∀b,some b∈O->∃i∈T,∃ob,oF i=some ob/\dt ν i=some b)
 (hL:Go.X.Loc O [] w w' O' C')(hν:eR ν ν')(hO':Os ν' new=O')(hnd:(new.map (·.1)).Nodup)(hF:∀i ob,oF' i=some ob->(oF i=some ob/\i∉T)\/(i,ob)∈new)
 (hR:(∀κ,Le (HF X w0 H0 ν oF w κ) (HF X w0 H0 ν' oF' w' κ))->∀x∈new,∃b c n k,ν' x.1=some (b,c,n)/\dC w' b k/\x.2.R ν' (HF X w0 H0 ν' oF' w') c n k)(hN:∀x∈new,x.2.tid=none)(hT:ν'.tl=ν.tl/\ν'.tc=ν.tc):
 cI X w0 H0 ν' oF' w'/\∀κ,Le (HF X w0 H0 ν oF w κ) (HF X w0 H0 ν' oF' w' κ):=
 hS.goT (T:=T) (new:=new) (fun b hb=>by obtain⟨i,h1,ob,h2,h3⟩:=hO b hb;exact⟨i,h1,ob,h2,.inl h3⟩) hL hν
  (fun x hx b hb=>by rw[<-hO'];exact dz.2 ⟨x,hx,(pZ (hN x hx)).1 hb⟩)
  (fun x hx y hy b hb hb'=>Kb (by rw[hO'];exact hL.gG) hnd x hx y hy b ((pZ (hN x hx)).1 hb) ((pZ (hN y hy)).1 hb'))
  hF (fun _ _ t _ _ _=>by rw[hT.1,hT.2];exact⟨rfl,rfl⟩) (fun x hx=>And.intro (fun t ht=>absurd ht (by rw[uN (hN x hx)];simp)) (And.intro (fun b t _ ht=>absurd ht (by rw[uN (hN x hx)];simp)) (fun j hj=>absurd hj (by rw[hN x hx];simp)))) hR
theorem cI.same(hS:cI X w0 H0 ν oF w)(h1:w'.os=w.os)(h2:w'.tape=w.tape)(h3:w'.output=w.output)(h4:w'.heap=w.heap):cI X w0 H0 ν oF w'/\HF X w0 H0 ν oF w'=HF X w0 H0 ν oF w:=by
 have e:HF X w0 H0 ν oF w'=HF X w0 H0 ν oF w:=by funext κ b;unfold HF;rw[h4]
 refine⟨⟨h1.trans hS.os,h2.trans hS.tape,h3.trans hS.output,by rw[h4];exact hS.size,fun k hk hx=>by rw[h4];exact hS.keep k hk hx,hS.h0,hS.mw,hS.oB,fun i ob h=>?_,hS.fresh,hS.gG,fun i ob h=>⟨fun t ht=>⟨D7 ((hS.parts i ob h).1 t ht).1 fun b _=>by rw[h4],((hS.parts i ob h).1 t ht).2⟩,(hS.parts i ob h).2⟩⟩,e⟩;obtain⟨b,c,n,k,q1,q2,q3⟩:=hS.cT i ob h;exact⟨b,c,n,k,q1,q2.same fun k _=>by rw[h4],by rw[e];exact q3⟩
end
open Go Go.RowKit Go.X
variable [eW]
structure dF (P:Program)where
 t:TypeId
 d:TypeDesc
 sz:Nat
 pY:Nat
 z:Value
 hd:P.underlying t=some d
 ti:TI P t sz pY z
def cE{P:Program}:List (dF P)->Nat->Option (dF P)
 |[],_=>none
 |x::r,t=>bif Nat.beq x.t t then some x else cE r t
theorem Bl{P:Program}:∀{l:List (dF P)} {t:Nat} {x:dF P},cE l t=some x->x.t=t
 |[],_,_,h=>by cases h
 |y::r,t,x,h=>by
  unfold cE at h;cases hb:Nat.beq y.t t with
  |true=>rw[hb]at h;simp only[cond_true]at h;cases h;exact dI hb
  |false=>rw[hb]at h;simp only[cond_false]at h;exact Bl h
def bN(L:SS):Operand->Option Sv
 |.tmp t=>aQ L.bP t
 |.const (.agg cs)=>match fb cs.toList with
  |true=>some (.s (.agg (cs.toList.map .v)))
  |false=>none
 |.const c=>match one c with
  |true=>some (.s (.lf (.v c)))
  |false=>none
 |.func f=>some (.s (.lf (.v (.func (.func f) #[] #[]))))
 |.global _=>none
theorem qu{ν:Nu}{H:Bool->Hp}:∀{l:List Value},X.fb l=true->cS ν H (l.map .v) l
 |[],_=>rfl
 |a::l,h=>by
  simp only[X.fb,fI]at h;exact⟨a,l,rfl,⟨rfl,h.1⟩,qu h.2⟩
theorem db{ν:Nu}{H:Bool->Hp}{L:SS}{e:Env}(hs:di ν H (aQ L.bP) e){x:Operand}{sv:Sv}(h:bN L x=some sv):sv.R ν H (ev e x):=by
 cases x with
 |tmp t=>exact hs t sv h
 |const c=>
  cases c with
  |agg cs=>
   simp only[bN]at h;split at h
   . cases h;exact⟨cs.toList,by simp[ev],qu (by assumption)⟩
   . cases h
  |_=>
   simp only[bN]at h;split at h
   . cases h;exact⟨rfl,by assumption⟩
   . cases h
 |global g=>cases h
 |func f=>cases h;exact⟨rfl,rfl⟩
def lv:Option Sv->Option Value
 |some (.s (.lf (.v x)))=>some x
 |_=>none
theorem eJ{ν:Nu}{H:Bool->Hp}{L:SS}{e:Env}(hs:di ν H (aQ L.bP) e){x:Operand}{v:Value}(h:lv (bN L x)=some v):ev e x=v/\one v=true:=by
 unfold lv at h;split at h
 . rename_i y hy;cases h;exact db hs hy
 . cases h
def eE(v:Value):Option Sv:=some (.s (.lf (.v v)))
def kb:IntKind->IntKind->Bool
 |.i8,.i8|.i16,.i16|.i32,.i32|.i64,.i64|.u8,.u8|.u16,.u16|.u32,.u32|.u64,.u64=>true
 |_,_=>false
theorem kb_ok{a b:IntKind}(h:kb a b=true):a=b:=by cases a<;>cases b<;>first|rfl|cases h
def bop{P:Program}(tb:List (dF P))(t:TypeId)(op:BinOp):Value->Value->Option Value
 |.int k x,.int k' y=>match kb k k' with
  |false=>none
  |true=>match op with
   |.add=>some (.int k (k.wrap (x+y)))
   |.sub=>some (.int k (k.wrap (x-y)))
   |.mul=>some (.int k (k.wrap (x*y)))
   |.and=>some (.int k (qN k x y))
   |.or=>some (.int k (jA k x y))
   |.xor=>some (.int k (Bq k x y))
   |.andNot=>some (.int k (Ct k x y))
   |.lss=>some (.bool (decide (x<y)))
   |.leq=>some (.bool (decide (x<=y)))
   |.gtr=>some (.bool (decide (x>y)))
   |.geq=>some (.bool (decide (x≥y)))
   |.eql=>some (.bool (decide (x=y)))
   |.neq=>some (.bool (decide (x≠y)))
   |_=>none
 |.bool x,.bool y=>match cE tb t with
  |some T=>match T.d with
   |.bool=>match op with
    |.eql=>some (.bool (x==y))
    |.neq=>some (.bool (!(x==y)))
    |_=>none
   |_=>none
  |none=>none
 |.string ⟨⟨x⟩⟩,.string ⟨⟨y⟩⟩=>match op with
  |.eql=>some (.bool (decide (x=y)))
  |.neq=>some (.bool (decide (x≠y)))
  |_=>none
 |_,_=>none
section
variable {P:Program} {tb:List (dF P)} {ty:TypeId} {ρ:Operand->Value} {w:World} {R:Value->World->Prop}
theorem Ta{t u:TypeId}{op:BinOp}{x y:Operand}{a b v:Value}(h:bop tb t op a b=some v)(hx:ρ x=a)(hy:ρ y=b)(hr:one v=true->R v w):aF P (.binOp op t x y u) ty ρ w R:=by
 unfold bop at h;split at h
 . split at h
   . cases h
   . rename_i k x' k' y' hk;obtain rfl:=kb_ok hk;split at h<;>first|cases h|skip
     . exact aF.add hx hy rfl (hr rfl)
     . exact aF.sub hx hy rfl (hr rfl)
     . exact aF.mul hx hy rfl (hr rfl)
     . exact aF.iand hx hy (hr rfl)
     . exact aF.ior hx hy (hr rfl)
     . exact aF.ixor hx hy (hr rfl)
     . exact aF.OW hx hy (hr rfl)
     . exact aF.lss _ hx hy nq (hr rfl)
     . exact aF.leq _ hx hy nq (hr rfl)
     . exact aF.gtr _ hx hy nq (hr rfl)
     . exact aF.geq _ hx hy nq (hr rfl)
     . exact aF.eql _ hx hy nq (hr rfl)
     . exact aF.neq _ hx hy nq (hr rfl)
 . split at h
   . split at h
     . rename_i T hT _ hd;have h1:P.underlying t=some .bool:=by rw[<-Bl hT,T.hd,hd]
       split at h<;>first|cases h|skip
       . exact aF.PM h1 hx hy (hr rfl)
       . exact aF.Nw h1 hx hy (hr rfl)
     . cases h
   . cases h
 . split at h<;>first|cases h|skip
   . exact aF.sEql hx hy (hr rfl)
   . exact aF.sNeq hx hy (hr rfl)
 . cases h
def uop(op:UnOp):Value->Option Value
 |.bool x=>match op with
  |.not=>some (.bool (!x))
  |_=>none
 |.int k x=>match op with
  |.neg=>some (.int k (k.wrap (0-x)))
  |.xor=>some (.int k (bnot k x))
  |_=>none
 |_=>none
theorem UQ{t:TypeId}{op:UnOp}{x:Operand}{a v:Value}(h:uop op a=some v)(hx:ρ x=a)(hr:one v=true->R v w):aF P (.unOp op t x) ty ρ w R:=by
 unfold uop at h;split at h
 . split at h
   . cases h;exact aF.not hx (hr rfl)
   . cases h
 . split at h
   . cases h;exact aF.neg hx rfl (hr rfl)
   . cases h;exact aF.inot hx (hr rfl)
   . cases h
 . cases h
end
def kP:S1->List Lf
 |.lf l=>[l]
 |.agg l=>l
theorem sx{ν:Nu}{H:Bool->Hp}:∀{s:S1} {v:Value},s.R ν H v->∃vs,v.cells=vs.toArray/\cS ν H (kP s) vs
 |.lf l,v,h=>⟨[v],P9 (Lf.R.one h),v,[],rfl,h,rfl⟩
 |.agg l,v,⟨vs,h1,h2⟩=>⟨vs,by rw[h1];rfl,h2⟩
def sW(g:Bool)(sz:Nat)(l:List Lf)(off:Nat):Option S1:=match g with
 |true=>match Nat.beq ((l.drop off).take sz).length sz with
  |true=>some (.agg ((l.drop off).take sz))
  |false=>none
 |false=>match l[off]?with
  |some x=>some (.lf x)
  |none=>none
structure Ef:Type 1 where
 n:Nat
 up:List (Nat×Option Ob)
 sl:List (Nat×Option Sv)
abbrev Ef.z:Ef:=⟨0,[],[]⟩
abbrev newB(L:SS)(l:List Lf):Ef×Option Sv:=(⟨1,[(L.nx,some (.box l))],[]⟩,some (.s (.lf (.ptr L.nx 0))))
def pls{P:Program}(tb:List (dF P)):List Field->Option (List (Nat×Nat))
 |[]=>some []
 |f::r=>match cE tb f.type with
  |some F=>match pls tb r with
   |some y=>some ((f.offset,F.sz)::y)
   |none=>none
  |none=>none
def zX(L:SS)(pl:List (Nat×Nat)):List (Nat×Operand)->List Lf->Option (List Lf)
 |[],l=>some l
 |(i,x)::r,l=>match bN L x with
  |some (.s s)=>match pl[i]?with
   |some (off,size)=>match Nat.beq (kP s).length size&&Nat.ble (off+(kP s).length) l.length with
    |true=>zX L pl r (uT l off (kP s))
    |false=>none
   |none=>none
  |_=>none
def arC(L:SS)(sz:Nat):List (Nat×Operand)->Option (List Lf)
 |[]=>some []
 |(_,x)::r=>match bN L x with
  |some (.s s)=>match Nat.beq (kP s).length sz with
   |true=>match arC L sz r with
    |some y=>some (kP s++y)
    |none=>none
   |false=>none
  |_=>none
def BM:Nat->List (Nat×Operand)->Bool
 |_,[]=>true
 |i,(j,_)::r=>Nat.beq j i&&BM (i+1) r
def au{P:Program}(tb:List (dF P))(L:SS):Op->Option (Ef×Option Sv)
 |.move x=>match bN L x with
  |some s=>some (Ef.z,some s)
  |none=>none
 |.assign x=>match bN L x with
  |some s=>some (Ef.z,some s)
  |none=>none
 |.pick c a b=>match lv (bN L c)with
  |some (.bool true)=>match bN L a with
   |some s=>some (Ef.z,some s)
   |none=>none
  |some (.bool false)=>match bN L b with
   |some s=>some (Ef.z,some s)
   |none=>none
  |_=>none
 |.binOp op t x y _=>match lv (bN L x)with
  |some a=>match lv (bN L y)with
   |some b=>match bop tb t op a b with
    |some v=>some (Ef.z,eE v)
    |none=>none
   |none=>none
  |none=>none
 |.unOp op _ x=>match lv (bN L x)with
  |some a=>match uop op a with
   |some v=>some (Ef.z,eE v)
   |none=>none
  |none=>none
 |.extract x i=>match bN L x with
  |some (.fC l)=>match l[i]?with
   |some s=>some (Ef.z,some (.s s))
   |none=>none
  |_=>none
 |.fieldAddr s x i=>match cE tb s with
  |some T=>match T.d with
   |.struct fs=>match fs[i]?with
    |some f=>match cE tb f.type with
     |some F=>match Nat.beq F.sz 0 with
      |true=>none
      |false=>match bN L x with
       |some (.s (.lf (.ptr j off)))=>some (Ef.z,some (.s (.lf (.ptr j (off+f.offset)))))
       |some (.pr κ c off)=>some (Ef.z,some (.pr κ c (off+f.offset)))
       |some (.pw j r xs a ix off)=>some (Ef.z,some (.pw j r xs a ix (off+f.offset)))
       |some (.pa j r κ xs a ix off)=>some (Ef.z,some (.pa j r κ xs a ix (off+f.offset)))
       |_=>none
     |none=>none
    |none=>none
   |_=>none
  |none=>none
 |.indexAddr t x y=>match cE tb t with
  |some T=>match T.d with
   |.array n el=>match cE tb el with
    |some E=>match lv (bN L y)with
     |some (.int _ (.ofNat i))=>match Nat.blt i n with
      |true=>match bN L x with
       |some (.s (.lf (.ptr j off)))=>some (Ef.z,some (.s (.lf (.ptr j (off+i*E.sz)))))
       |some (.pr κ c off)=>some (Ef.z,some (.pr κ c (off+i*E.sz)))
       |some (.pw j r xs a ix off)=>some (Ef.z,some (.pw j r xs a ix (off+i*E.sz)))
       |_=>none
      |false=>none
     |_=>none
    |none=>none
   |_=>none
  |none=>none
 |.build t parts=>match cE tb t with
  |some T=>match T.d with
   |.struct fs=>match pls tb fs.toList with
    |some pl=>match fb T.z.cells.toList with
     |true=>match zX L pl parts.toList (T.z.cells.toList.map .v)with
      |some l=>some (Ef.z,some (.s (.agg l)))
      |none=>none
     |false=>none
    |none=>none
   |.array n el=>match cE tb el with
    |some E=>match Nat.beq T.z.cells.size (n*E.sz)with
     |true=>match parts.toList with
      |[]=>match fb T.z.cells.toList with
       |true=>some (Ef.z,some (.s (.agg (T.z.cells.toList.map .v))))
       |false=>none
      |p::ps=>match BM 0 (p::ps)&&Nat.beq (ps.length+1) n with
       |true=>match arC L E.sz (p::ps)with
        |some l=>some (Ef.z,some (.s (.agg l)))
        |none=>none
       |false=>none
     |false=>none
    |none=>none
   |_=>none
  |none=>none
 |.nilCheck x=>match bN L x with
  |some (.s (.lf (.ptr j off)))=>some (Ef.z,some (.s (.lf (.ptr j off))))
  |some (.pr κ c off)=>some (Ef.z,some (.pr κ c off))
  |_=>none
 |.field t x i=>match cE tb t with
  |some T=>match T.d with
   |.struct fs=>match fs[i]?with
    |some f=>match cE tb f.type with
     |some F=>match bN L x with
      |some (.s (.agg l))=>match sW (iG F.d) F.sz l f.offset with
       |some s=>some (Ef.z,some (.s s))
       |none=>none
      |_=>none
     |none=>none
    |none=>none
   |_=>none
  |none=>none
 |.load t x=>match cE tb t with
  |some T=>match bN L x with
   |some (.s (.lf (.ptr j off)))=>match aQ L.bC j with
    |some (.box l)=>match sW (iG T.d) T.sz l off with
     |some s=>some (Ef.z,some (.s s))
     |none=>none
    |_=>none
   |some (.pr κ c off)=>match sW (iG T.d) T.sz c off with
    |some s=>some (Ef.z,some (.s s))
    |none=>none
   |_=>none
  |none=>none
 |.store t x y=>match cE tb t with
  |some T=>match bN L x with
   |some (.s (.lf (.ptr j off)))=>match bN L y with
    |some (.s s)=>match aQ L.bC j with
     |some (.box l)=>match Nat.beq (kP s).length T.sz&&Nat.ble (off+(kP s).length) l.length with
      |true=>some (⟨0,[(j,some (.box (uT l off (kP s))))],[]⟩,none)
      |false=>none
     |_=>none
    |_=>none
   |_=>none
  |none=>none
 |.alloc t=>match cE tb t with
  |some T=>match fb T.z.cells.toList with
   |true=>some (newB L (T.z.cells.toList.map .v))
   |false=>none
  |none=>none
 |.box _ x=>match bN L x with
  |some (.s s)=>some (newB L (kP s))
  |_=>none
 |.convert s t x=>match cE tb s with
  |some S=>match cE tb t with
   |some T=>match T.d with
    |.int k'=>match lv (bN L x)with
     |some (.int _ z)=>some (Ef.z,eE (.int k' (k'.wrap z)))
     |_=>none
    |_=>none
   |none=>none
  |none=>none
 |.call c=>match c.callee with
  |.builtin .len=>match c.args.toList with
   |[x]=>match c.argTypes.toList with
    |[t]=>match cE tb t with
     |some T=>match T.d with
      |.slice _=>match bN L x with
       |some (.s (.lf (.ro _ _ xs)))=>some (Ef.z,eE (.int .i64 (xs.length:Int)))
       |some (.s (.lf (.ap _ _ _ xs)))=>some (Ef.z,eE (.int .i64 (xs.length:Int)))
       |some (.s (.lf (.cp _ _ xs)))=>some (Ef.z,eE (.int .i64 (xs.length:Int)))
       |some (.s (.lf (.own i)))=>match aQ L.bC i with
        |some (.row _ _ xs)=>some (Ef.z,eE (.int .i64 (xs.length:Int)))
        |_=>none
       |some (.s (.lf (.v (.slice none 0 0))))=>some (Ef.z,eE (.int .i64 0))
       |some (.s (.lf (.sg _ _ lo hi)))=>some (Ef.z,eE (.int .i64 (hi-lo)))
       |_=>none
      |.string=>match lv (bN L x)with
       |some (.string ⟨⟨l⟩⟩)=>some (Ef.z,eE (.int .i64 (l.length:Int)))
       |_=>none
      |.map _ _=>match bN L x with
       |some (.s (.lf (.mp i)))=>match aQ L.bC i with
        |some (.map _ _ _ m)=>some (Ef.z,eE (.int .i64 (m.length:Int)))
        |_=>none
       |_=>none
      |_=>none
     |none=>none
    |_=>none
   |_=>none
  |.builtin .min=>match c.args.toList with
   |[x,y]=>match lv (bN L x)with
    |some (.int k a)=>match lv (bN L y)with
     |some (.int _ b)=>some (Ef.z,eE (.int k (xP a b)))
     |_=>none
    |_=>none
   |_=>none
  |.builtin .max=>match c.args.toList with
   |[x,y]=>match lv (bN L x)with
    |some (.int k a)=>match lv (bN L y)with
     |some (.int _ b)=>some (Ef.z,eE (.int k (imax a b)))
     |_=>none
    |_=>none
   |_=>none
  |_=>none
 |_=>none
open Go Go.RowKit Go.X
variable [eW]
def iz(a n:Nat)(ν ν':Nu):Prop:=∀k,(k<a\/a+n<=k)->ν' k=ν k
structure LT (P:Program)(L:SS)(op:Op)(ty:TypeId)(ef:Ef)(sv:Option Sv):Prop where
 ok:∀(X:Nat->Prop) (w0:World) (H0:Bool->Hp) (ν:Nu) (oF:OF) (e:Env) (w:World),(∀i ob,aQ L.bC i=some ob->oF i=some ob)->(∀k,L.nx<=k->k<L.nx+ef.n->ν k=none)->cI X w0 H0 ν oF w->di ν (HF X w0 H0 ν oF w) (aQ L.bP) e->
  aF P op ty (ev e) w fun v w'=>∃ν',iz L.nx ef.n ν ν'/\cI X w0 H0 ν' (bJ ef.up oF) w'/\(∀κ,Le (HF X w0 H0 ν oF w κ) (HF X w0 H0 ν' (bJ ef.up oF) w' κ))/\di ν' (HF X w0 H0 ν' (bJ ef.up oF) w') (aQ ef.sl) e/\svR ν' (HF X w0 H0 ν' (bJ ef.up oF) w') sv v
def iX(ν:Nu)(i:Nat)(x:Option Nat×Nat×Nat):Nu:=⟨fun k=>bif Nat.beq k i then some x else ν k,ν.tl,ν.tc⟩
theorem lh{ν:Nu}{i:Nat}{x:Option Nat×Nat×Nat}:iX ν i x i=some x:=by simp[iX]
theorem Ah{ν:Nu}{i k:Nat}{x:Option Nat×Nat×Nat}(h:k≠i):iX ν i x k=ν k:=by
 show(bif Nat.beq k i then some x else ν.f k)=ν.f k;have:Nat.beq k i=false:=by
  cases hb:Nat.beq k i with
  |false=>rfl
  |true=>exact absurd (dI hb) h
 rw[this];rfl
theorem wB{ν:Nu}{i:Nat}{x:Option Nat×Nat×Nat}(h:ν i=none):eR ν (iX ν i x):=fun k y hk=>by
 have:k≠i:=by rintro rfl;rw[h]at hk;cases hk
 rw[Ah this];exact hk
theorem oS{ν:Nu}{i:Nat}{x:Option Nat×Nat×Nat}:iz i 1 ν (iX ν i x):=fun k hk=>Ah (by omega)
theorem iz.refl{a n:Nat}{ν:Nu}:iz a n ν ν:=fun _ _=>rfl
theorem iz.le{a n:Nat}{ν ν':Nu}(h:iz a n ν ν')(hn:∀k,a<=k->k<a+n->ν k=none):eR ν ν':=fun k x hk=>by
 rcases cw k a with h1|h1
 . rw[h k (.inl h1)];exact hk
 . rcases cw k (a+n)with h2|h2
   . rw[hn k h1 h2]at hk;cases hk
   . rw[h k (.inr h2)];exact hk
section
variable {X:Nat->Prop} {w0 w w':World} {H0:Bool->Hp} {ν:Nu} {oF:OF} {b b':Option Nat} {c n c' n' j nx:Nat} {k k':cW} {ob ob0:Ob}
theorem jr(h:dC w b k):Go.X.Loc [b] [] w w [b] [k]:=Loc.begin ⟨h,trivial⟩ (by cases b with|none=>exact trivial|some b=>exact⟨by simp,trivial⟩)
theorem nI:Go.X.Loc [] [] w w [] []:=Loc.Ur w
theorem cI.new(hS:cI X w0 H0 ν oF w)(htid:ob.tid=none)(hn:ν nx=none)(hL:Go.X.Loc [] [] w w' [b] [k])(hR:∀H',(∀κ,Le (HF X w0 H0 ν oF w κ) (H' κ))->ob.R (iX ν nx (b,c,n)) H' c n k):
 cI X w0 H0 (iX ν nx (b,c,n)) (bJ [(nx,some ob)] oF) w'/\∀κ,Le (HF X w0 H0 ν oF w κ) (HF X w0 H0 (iX ν nx (b,c,n)) (bJ [(nx,some ob)] oF) w' κ):=
 hS.go (T:=[]) (O:=[]) (new:=[(nx,ob)]) (fun b hb=>by cases hb) hL (wB hn) (by show[dt _ nx]=[b];rw[ep lh]) (by simp)
  (fun i o h=>by
   rcases jI h with h|⟨h,_⟩
   . simp only[cP,np,tm]at h;obtain⟨rfl,rfl⟩:=h;exact .inr (by simp)
   . exact .inl ⟨h,by simp⟩)
  (fun hle x hx=>by simp only[cP]at hx;subst hx;exact⟨b,c,n,k,lh,hL.own.1,hR _ hle⟩) (fun x hx=>by simp only[cP]at hx;subst hx;exact htid) ⟨rfl,rfl⟩
theorem cI.mod(hS:cI X w0 H0 ν oF w)(htid:ob.tid=none)(ho:oF j=some ob0)(hj:ν j=some (b,c,n))(hL:Go.X.Loc [b] [] w w' [b] [k])(hR:∀H',(∀κ,Le (HF X w0 H0 ν oF w κ) (H' κ))->ob.R ν H' c n k):
 cI X w0 H0 ν (bJ [(j,some ob)] oF) w'/\∀κ,Le (HF X w0 H0 ν oF w κ) (HF X w0 H0 ν (bJ [(j,some ob)] oF) w' κ):=
 hS.go (T:=[j]) (O:=[b]) (new:=[(j,ob)]) (fun b' hb=>by simp only[cP]at hb;exact⟨j,by simp,ob0,ho,by rw[ep hj,hb]⟩) hL (eR.refl ν) (by show[dt ν j]=[b];rw[ep hj]) (by simp)
  (fun i o h=>by
   rcases jI h with h|⟨h,h2⟩
   . simp only[cP,np,tm]at h;obtain⟨rfl,rfl⟩:=h;exact .inr (by simp)
   . refine .inl ⟨h,fun hm=>?_⟩;simp only[cP]at hm;subst hm;simp[cr]at h2)
  (fun hle x hx=>by simp only[cP]at hx;subst hx;exact⟨b,c,n,k,hj,hL.own.1,hR _ hle⟩) (fun x hx=>by simp only[cP]at hx;subst hx;exact htid) ⟨rfl,rfl⟩
theorem cI.dp(hS:cI X w0 H0 ν oF w)(htid:ob.tid=none)(ho:oF j=some ob0)(hj:ν j=some (b,c,n))(hn:ν nx=none)(hL:Go.X.Loc [b] [] w w' [b'] [k'])(hR:∀H',(∀κ,Le (HF X w0 H0 ν oF w κ) (H' κ))->ob.R (iX ν nx (b',c',n')) H' c' n' k'):
 cI X w0 H0 (iX ν nx (b',c',n')) (bJ [(nx,some ob),(j,none)] oF) w'/\∀κ,Le (HF X w0 H0 ν oF w κ) (HF X w0 H0 (iX ν nx (b',c',n')) (bJ [(nx,some ob),(j,none)] oF) w' κ):=
 hS.go (T:=[j]) (O:=[b]) (new:=[(nx,ob)]) (fun b' hb=>by simp only[cP]at hb;exact⟨j,by simp,ob0,ho,by rw[ep hj,hb]⟩) hL (wB hn) (by show[dt _ nx]=[b'];rw[ep lh]) (by simp)
  (fun i o h=>by
   rcases jI h with h|⟨h,h2⟩
   . simp only[eb,np,tm,MU,or_false,reduceCtorEq,and_false]at h;obtain⟨rfl,rfl⟩:=h;exact .inr (by simp)
   . refine .inl ⟨h,fun hm=>?_⟩;simp only[cP]at hm;subst hm;simp[cr]at h2)
  (fun hle x hx=>by simp only[cP]at hx;subst hx;exact⟨b',c',n',k',lh,hL.own.1,hR _ hle⟩) (fun x hx=>by simp only[cP]at hx;subst hx;exact htid) ⟨rfl,rfl⟩
end
section
variable {P:Program} {L:SS} {op:Op} {ty:TypeId}
theorem my{ν:Nu}{H:Bool->Hp}{e:Env}:di ν H (aQ []) e:=fun t sv h=>by cases h
theorem LT.look{sv:Sv}(h:∀(ν:Nu) (H:Bool->Hp) (e:Env) (w:World),(∀κ,Le (H κ) (view [] w))->Le (H true) (H false)->(∀i ob,aQ L.bC i=some ob->∃b c n k,ν i=some (b,c,n)/\dC w b k/\ob.R ν H c n k)->di ν H (aQ L.bP) e->aF P op ty (ev e) w fun v w'=>w'=w/\sv.R ν H v):LT P L op ty .z (some sv):=
 ⟨fun X w0 H0 ν oF e w ho _ hS hs=>(h ν _ e w hS.view hS.tf (fun i ob hi=>hS.cT i ob (ho i ob hi)) hs).mono (by rintro v w' ⟨rfl,hv⟩;exact⟨ν,iz.refl,hS,fun _=>Le.refl _,my,hv⟩)⟩
theorem LT.nw{sv:Sv}{ob:Ob}(h:∀(ν:Nu) (H:Bool->Hp) (e:Env) (w:World),(∀κ,Le (H κ) (view [] w))->Le (H true) (H false)->(∀i ob,aQ L.bC i=some ob->∃b c n k,ν i=some (b,c,n)/\dC w b k/\ob.R ν H c n k)->di ν H (aQ L.bP) e->
 aF P op ty (ev e) w fun v w'=>∃b c n k,Go.X.Loc [] [] w w' [b] [k]/\(∀ν' H',eR ν ν'->(∀κ,Le (H κ) (H' κ))->ob.R ν' H' c n k)/\∀ν' H',eR ν ν'->(∀κ,Le (H κ) (H' κ))->ν' L.nx=some (b,c,n)->sv.R ν' H' v)(htid:ob.tid=none:=by rfl):LT P L op ty ⟨1,[(L.nx,some ob)],[]⟩ (some sv):=
 ⟨fun X w0 H0 ν oF e w ho hn hS hs=>(h ν _ e w hS.view hS.tf (fun i ob hi=>hS.cT i ob (ho i ob hi)) hs).mono (by
  rintro v w' ⟨b,c,n,k,h1,h2,h3⟩;have hx:=hn L.nx (bK _) (by show L.nx<L.nx+1;omega);have hle:=wB (x:=(b,c,n)) hx;obtain⟨g1,g2⟩:=hS.new (ob:=ob) htid hx h1 (fun H' hH=>h2 _ H' hle hH);exact⟨_,oS,g1,g2,my,h3 _ _ hle g2 lh⟩)⟩
theorem LT.md{j:Nat}{ob0 ob:Ob}(ho:aQ L.bC j=some ob0)(h:∀(ν:Nu) (H:Bool->Hp) (e:Env) (w:World) (b:Option Nat) (c n:Nat) (k0:cW),(∀κ,Le (H κ) (view [] w))->Le (H true) (H false)->(∀i ob,aQ L.bC i=some ob->∃b c n k,ν i=some (b,c,n)/\dC w b k/\ob.R ν H c n k)->di ν H (aQ L.bP) e->ν j=some (b,c,n)->dC w b k0->ob0.R ν H c n k0->
 aF P op ty (ev e) w fun v w'=>∃k,Go.X.Loc [b] [] w w' [b] [k]/\∀H',(∀κ,Le (H κ) (H' κ))->ob.R ν H' c n k)(htid:ob.tid=none:=by rfl):LT P L op ty ⟨0,[(j,some ob)],[]⟩ none:=
 ⟨fun X w0 H0 ν oF e w hO hn hS hs=>by
  obtain⟨b,c,n,k0,q1,q2,q3⟩:=hS.cT j ob0 (hO j ob0 ho);refine(h ν _ e w b c n k0 hS.view hS.tf (fun i ob hi=>hS.cT i ob (hO i ob hi)) hs q1 q2 q3).mono ?_;rintro v w' ⟨k,h1,h2⟩;obtain⟨g1,g2⟩:=hS.mod (ob:=ob) htid (hO j ob0 ho) q1 h1 (fun H' hH=>h2 H' hH);exact⟨ν,iz.refl,g1,g2,my,trivial⟩⟩
theorem LT.rp{sv:Sv}{j:Nat}{ob0 ob:Ob}(ho:aQ L.bC j=some ob0)(h:∀(ν:Nu) (H:Bool->Hp) (e:Env) (w:World) (b:Option Nat) (c n:Nat) (k0:cW),(∀κ,Le (H κ) (view [] w))->Le (H true) (H false)->(∀i ob,aQ L.bC i=some ob->∃b c n k,ν i=some (b,c,n)/\dC w b k/\ob.R ν H c n k)->di ν H (aQ L.bP) e->ν j=some (b,c,n)->dC w b k0->ob0.R ν H c n k0->
 aF P op ty (ev e) w fun v w'=>∃b' c' n' k',Go.X.Loc [b] [] w w' [b'] [k']/\(∀ν' H',eR ν ν'->(∀κ,Le (H κ) (H' κ))->ob.R ν' H' c' n' k')/\∀ν' H',eR ν ν'->(∀κ,Le (H κ) (H' κ))->ν' L.nx=some (b',c',n')->sv.R ν' H' v)(htid:ob.tid=none:=by rfl):LT P L op ty ⟨1,[(L.nx,some ob),(j,none)],[]⟩ (some sv):=
 ⟨fun X w0 H0 ν oF e w hO hn hS hs=>by
  obtain⟨b,c,n,k0,q1,q2,q3⟩:=hS.cT j ob0 (hO j ob0 ho);refine(h ν _ e w b c n k0 hS.view hS.tf (fun i ob hi=>hS.cT i ob (hO i ob hi)) hs q1 q2 q3).mono ?_;rintro v w' ⟨b',c',n',k',h1,h2,h3⟩;have hx:=hn L.nx (bK _) (by show L.nx<L.nx+1;omega);have hle:=wB (x:=(b',c',n')) hx;obtain⟨g1,g2⟩:=hS.dp (ob:=ob) htid (hO j ob0 ho) q1 hx h1 (fun H' hH=>h2 _ H' hle hH);exact⟨_,oS,g1,g2,my,h3 _ _ hle g2 lh⟩⟩
end
end Go.Q

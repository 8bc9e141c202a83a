/- Plain theorems and definitions of this seat, several texts in one. -/
import Derived.Test.YtipdkfmhfakbnaaGreatDoorAc
import Derived.RangeFuncNested
import Derived.RangeFuncLeaves
import Derived.TacticsIn
import Derived.LoopNIn
set_option linter.unusedVariables false
set_option linter.unusedSimpArgs false
set_option linter.unusedSectionVars false
namespace Go.X
open Go Go.RowKit
def oe(rd:Option Nat):Fence:={fn:=fun _=>True,depth:=none,alive:=false,round:=rd}
theorem Hi{rd:Option Nat}{m:Nat}{P:Program}{o:Oper}{a:Act}{w:World}{K:Act->World->Prop}{Q:Exit->Act->World->Prop}{R:Value->World->Prop}
 (hd:∀c,o.op≠.defer c)(h:aF P o.op o.type (ev (cL a)) w R)(hk:∀v w',R v w'->K (a.put o.dst v) w'):o.wpIn (oe rd) m P a w K Q:=by
 refine⟨fun _ _=>trivial,?_⟩;rw[Oper.semAt_eq _ _ _ hd];unfold aF at h;rw[C8,<-sM];generalize(execOp (ev (cL a)) (cY o.op o.type)).run P w=r at*;cases r with
 |ok n w'=>
  cases n<;>simp only[upon,Oper.uponIn]at h⊢<;>first|exact hk _ _ h|exact h.elim|skip
  . exact⟨fun hh=>(by cases hh),CallsIn.mono (callsIn_wide.2 h:CallsIn Fence.wide (m-1) P _ _ _ _) fun e w'' he=>by cases e<;>first|exact hk _ _ he|exact he.elim⟩
  . refine⟨fun hh=>(by cases hh),fun c cs _=>?_⟩;obtain⟨v,w'',r1,r2⟩:=h c cs;exact⟨v,w'',hk _ _ r1,stepsIn_wide.2 r2⟩
 |halt x w'=>cases x<;>simp only[upon]at h
def Cw(rd:Option Nat)(ds:List Deferred)(P:Program)(n:Nat)(c:Code)(Q:Exit->Env->World->Prop)(e:Env)(w:World):Prop:= ∀(m:Nat) (a:Act),a.tmps.size=n->a.defers=ds->cL a=e->c.wpIn (oe rd) m P (fun x a' w'=>a'.tmps.size=n/\a'.defers=ds/\Q x (cL a') w') a w
section
variable {rd:Option Nat} {ds:List Deferred} {P:Program} {n:Nat} {Q Q':Exit->Env->World->Prop} {e:Env} {w:World}
theorem Cw.mono{c:Code}(h:Cw rd ds P n c Q e w)(hq:∀x e w,Q x e w->Q' x e w):Cw rd ds P n c Q' e w:=
 fun m a h1 h2 h3=>wpIn_mono (h m a h1 h2 h3) fun x a' w' g=>⟨g.1,g.2.1,hq _ _ _ g.2.2⟩
theorem Cw.skip(h:Q .normal e w):Cw rd ds P n .skip Q e w:=fun m a h1 h2 h3=>wpIn_skip ⟨h1,h2,h3▸h⟩
theorem Cw.ret(h:Q .ret e w):Cw rd ds P n .ret Q e w:=fun m a h1 h2 h3=>wpIn_ret ⟨h1,h2,h3▸h⟩
def Fg(K:Env->World->Prop)(Q:Exit->Env->World->Prop):Exit->Env->World->Prop
 |.normal=>K
 |x=>Q x
theorem Cw.seq{x y:Code}{K:Env->World->Prop}(h:Cw rd ds P n x (Fg K Q) e w)(h2:∀e w,K e w->Cw rd ds P n y Q e w):Cw rd ds P n (.seq x y) Q e w:=by
 intro m a g1 g2 g3;refine wpIn_seq (wpIn_mono (h m a g1 g2 g3) ?_);rintro x a' w' ⟨k1,k2,k3⟩;cases x with
 |normal=>exact h2 _ _ k3 m a' k1 k2 rfl
 |_=>exact⟨k1,k2,k3⟩
theorem Cw.cond{c:Operand}{x y:Code}{b:Bool}(hc:ev e c=.bool b)(h:Cw rd ds P n (bif b then x else y) Q e w):Cw rd ds P n (.cond c x y) Q e w:=by
 intro m a g1 g2 g3;have:=h m a g1 g2 g3;cases b
 . exact wpIn_cond_false (by rw[<-sM,g3];exact hc) this
 . exact wpIn_cond_true (by rw[<-sM,g3];exact hc) this
theorem Cw.block{id:Nat}{c:Code}(h:Cw rd ds P n c Q e w)(hx:∀j e w,¬Q (.exit j) e w):Cw rd ds P n (.block id c) Q e w:=by
 intro m a g1 g2 g3;refine wpIn_block (wpIn_mono (h m a g1 g2 g3) ?_);rintro x a' w' ⟨k1,k2,k3⟩;cases x with
 |exit j=>exact absurd k3 (hx j _ _)
 |_=>exact⟨k1,k2,k3⟩
def ua:List Oper->Bool
 |[]=>true
 |o::r=>(match o.op with|.defer _=>false|_=>true)&&ua r
theorem HD{l:List Oper}(h:ua l=true):∀o,o∈l->∀c,o.op≠.defer c:=by
 induction l with
 |nil=>intro o ho;cases ho
 |cons x r ih=>
  simp only[ua,fG]at h;intro o ho c;cases ho with
  |head=>have h1:=h.1;intro hc;rw[hc]at h1;cases h1
  |tail _ hm=>exact ih h.2 o hm c
theorem Qg{all:List Oper}(hall:∀o,o∈all->∀d,o.dst=some d->d<n)(hnd:∀o,o∈all->∀c,o.op≠.defer c){m:Nat}{K:Env->World->Prop}{Q':Exit->Act->World->Prop}
 (hK:∀a w,a.tmps.size=n->a.defers=ds->K (cL a) w->Q' .normal a w):
 ∀(l:List Oper),(∀o,o∈l->o∈all)->∀(a:Act) (w:World),a.tmps.size=n->a.defers=ds->Rl P all l K (cL a) w->wpListIn (oe rd) m P all.toArray Q' l a w:=by
 intro l
 induction l with
 |nil=>intro _ a w h1 h2 h;exact hK a w h1 h2 h
 |cons o r ih=>
  intro hsub a w h1 h2 h;have hin:=hsub o cK;have hd:∀d,o.dst=some d->d<n:=hall o hin;have hall':∀o,o∈all->∀d,o.dst=some d->d<a.tmps.size:=by rw[h1];exact hall
  refine wpListIn_step fun K' hK'=>?_;rw[DH hall' o];simp only[Rl]at h;cases hw:iG all o (cL a)with
  |true=>
   rw[hw]at h;rw[if_pos rfl];refine Hi (hnd o hin) h fun v w' hv=>hK' _ _ ?_;refine ih (fun o ho=>hsub o (cG _ ho)) _ _ (by rw[pK];exact h1) (by rw[p8];exact h2) ?_;rw[uI a h1 hd];exact hv
  |false=>
   rw[hw]at h;rw[if_neg (by simp)];refine⟨fun _ _=>trivial,hK' _ _ ?_⟩;refine ih (fun o ho=>hsub o (cG _ ho)) _ _ (by rw[pK];exact h1) (by rw[p8];exact h2) ?_;rw[uI a h1 hd];exact h
theorem Cw.region{id:Nat}{l:List Oper}{K:Env->World->Prop}(h:Rl P l l K e w)(hK:∀e w,K e w->Q .normal e w)(hok:l5 n l=true:=by rfl)(hnd:ua l=true:=by rfl):Cw rd ds P n (.region id l.toArray false) Q e w:=by
 intro m a g1 g2 g3;subst g3;exact wpIn_region_lit (Qg (BI hok) (HD hnd) (K:=K) (fun a' w' k1 k2 k3=>⟨k1,k2,hK _ _ k3⟩) l (fun _ h=>h) a w g1 g2 h)
theorem Cw.Ld{id:Nat}{c:Code}(h:Cw rd ds P n c (fun x=>match x with|.exit j=>if j=id then Q .normal else Q (.exit j)|x=>Q x) e w):Cw rd ds P n (.block id c) Q e w:=by
 intro m a g1 g2 g3;refine wpIn_block (wpIn_mono (h m a g1 g2 g3) ?_);rintro x a' w' ⟨k1,k2,k3⟩;cases x with
 |exit j=>
  simp only[Exit.inBlock];by_cases hj:j=id
  . rw[if_pos hj];simp only[if_pos hj]at k3;exact⟨k1,k2,k3⟩
  . rw[if_neg hj];simp only[if_neg hj]at k3;exact⟨k1,k2,k3⟩
 |_=>exact⟨k1,k2,k3⟩
theorem Cw.exit{id:Nat}(h:Q (.exit id) e w):Cw rd ds P n (.exit id) Q e w:=fun m a h1 h2 h3=>wpIn_exit ⟨h1,h2,h3▸h⟩
theorem Cw.loop{c:Code}(I:Nat->Env->World->Prop)(k:Nat)(h0:I k e w)(round:∀k e w,I k e w->Cw rd ds P n c (Fg (fun e w=>∃j,j<k/\I j e w) Q) e w):Cw rd ds P n (.loop c) Q e w:=by
 intro m a g1 g2 g3;have key:∀M k,k<=M->∀a w,a.tmps.size=n->a.defers=ds->I k (cL a) w->Code.roundsIn (oe rd) m P c (fun x a' w'=>a'.tmps.size=n/\a'.defers=ds/\Q x (cL a') w') (M+1) a w:=by
  intro M
  induction M with
  |zero=>
   intro k hk a w h1 h2 hI;refine wpIn_mono (round k _ _ hI m a h1 h2 rfl) ?_;rintro x a' w' ⟨k1,k2,k3⟩;cases x with
   |normal=>obtain⟨j,hj,_⟩:=k3;omega
   |_=>exact⟨k1,k2,k3⟩
  |succ M ih=>
   intro k hk a w h1 h2 hI;refine wpIn_mono (round k _ _ hI m a h1 h2 rfl) ?_;rintro x a' w' ⟨k1,k2,k3⟩;cases x with
   |normal=>obtain⟨j,hj,h⟩:=k3;exact ih j (by omega) a' w' k1 k2 h
   |_=>exact⟨k1,k2,k3⟩
 exact wpIn_loop_rounds (k+1) (key k k (bK _) a w g1 g2 (g3▸h0))
theorem ou{all r:List Oper}{o:Oper}{m:Nat}{Q':Exit->Act->World->Prop}{a:Act}(h1:a.tmps.size=n)(h2:a.defers=ds)
 (h:aF P o.op o.type (ev (cL a)) w fun v w'=>∀a':Act,a'.tmps.size=n->a'.defers=ds->cL a'=jF (cL a) o.dst v->wpListIn (oe rd) m P all.toArray Q' r a' w')(hg:o.guard=none:=by rfl)(hd:l5 n [o]=true:=by rfl)(hn:ua [o]=true:=by rfl):wpListIn (oe rd) m P all.toArray Q' (o::r) a w:=
 wpListIn_plain hg fun K hK=>Hi (HD hn o cK) h fun v w' hv=>hK _ _ (hv _ (by rw[pK];exact h1) (by rw[p8];exact h2) (uI a h1 (BI hd o cK) v))
theorem Ru{o:Oper}{m l:Nat}{a:Act}{g:Operand}{args:List Operand}{ats:Array TypeId}{az:List Value}{R:Ending->World->Prop}{K:Act->World->Prop}{Q':Exit->Act->World->Prop}
 (ho:o.op=.call {callee:=.value g,args:=args.toArray,argTypes:=ats})(hf:cL a=e)(hv:ev e g=.func (.yield l) #[] #[]) (ha:args.map (ev e)=az) (hy:YieldAt (oe rd) (m-1) P l az.toArray w R)
 (hR:∀x w',R x w'->∃v,x=.returned v/\K (a.put o.dst v) w'):o.wpIn (oe rd) m P a w K Q':=by
 obtain⟨fn,tmps,assign,body,h1,h2⟩:=hy;refine⟨fun _ _=>trivial,?_⟩;rw[Oper.semAt_eq _ _ _ (by rw[ho];intro c h;cases h),C8,<-sM,hf,ho];have hr:(execOp (ev e) (cY (.call {callee:=.value g,args:=args.toArray,argTypes:=ats}) o.type)).run P w=.ok (.round l fn tmps assign body) w:=by
  simp only[cY,execOp,resolve,hv];simp[Deferred.ofValue,invoke,ha,h1]
 rw[hr];refine⟨fun hh=>(by cases hh),RoundIn.mono h2 fun x w' hx=>?_⟩;obtain⟨v,rfl,hk⟩:=hR x w' hx;exact hk
theorem UH{k k' l:Nat}{az:Array Value}{R:Ending->World->Prop}(h:YieldAt Fence.wide k P l az w R):YieldAt (oe none) k' P l az w R:=by
 obtain⟨fn,tmps,assign,body,h1,h2,h3⟩:=h;exact⟨fn,tmps,assign,body,h1,h2,fun c cs _=>h3 c cs (room_wide _)⟩
theorem Jr{l:List Value}:cL {tmps:=l.toArray++Array.replicate (n-l.toArray.size) undef,defers:=ds}=kE l:=by
 funext i;simp only[cL,kE,MO,cy];by_cases hi:i<l.length
 . rw[U6 (by simpa using hi)];simp
 . rw[U7 (by simpa using hi),fP (by omega)];by_cases hj:i-l.toArray.size<n-l.toArray.size
   . rw[Ga (by simpa using hj)];simp
   . rw[B4 (by simpa using hj)]
theorem UT{f:FuncId}{fn:Func}{c:Code}{l:List Value}{m:Nat}{R:Ending->World->Prop}(hf:P.funcs[f]?=some fn)(hb:fn.body=some c)(hn:fn.ntmps=n)(hl:l.length<=n)
 (h:Cw none [] P n c (fun x e w'=>(x=.normal\/x=.ret)/\∀tmps:Array Value,(∀i,tmps.getD i undef=e i)->∃v,(results fn tmps).run P w'=.ok v w'/\R (.returned v) w') (kE l) w):CallsIn Fence.wide m P f l.toArray w R:=by
 subst hn;refine callsIn_of_wp hf hb trivial (wpIn_mono (h m _ (by simp;omega) rfl Jr) ?_);rintro x a' w' ⟨h1,h2,h3,h4⟩;obtain⟨v,hv,hR⟩:=h4 a'.tmps (fun _=>rfl);rcases h3 with rfl|rfl<;>exact⟨h2,v,hv,hR⟩
end
end Go.X
namespace Go.Q
open Go Go.RowKit Go.X
variable [eT]
def xC:Ob->Bool
 |.row .. =>true
 |.box .. =>true
 |.aG .. =>true
 |_=>false
theorem Il{ob:Ob}(h:xC ob=true){ν:Nu}{H:Bool->Hp}{c n:Nat}{k:cU}(hr:ob.R ν H c n k):∃l,k=.cells l:=by
 cases ob with
 |row r κ xs=>obtain⟨_,_,cs,sp,rfl,_⟩:=hr;exact⟨_,rfl⟩
 |box l=>obtain⟨vs,rfl,_⟩:=hr;exact⟨_,rfl⟩
 |aG r κ xs=>obtain⟨_,⟨_,cs,sp,rfl,_⟩|⟨_,rfl⟩⟩:=hr<;>exact⟨_,rfl⟩
 |map _ _ _ _=>cases h
 |deep _ _ _ _=>cases h
 |hd _ _ _ _ _ _=>cases h
theorem Fh{ob:Ob}(h:xC ob=true):ob.tid=none:=by cases ob<;>first|rfl|cases h
theorem cH.on{X:Nat->Prop}{w0 w w':World}{H0:Bool->Hp}{ν:Nu}{oF:OF}(hS:cH X w0 H0 ν oF w)(hp:∀i ob,oF i=some ob->xC ob=true)
 (h1:w'.os=w.os)(h2:w'.tape=w.tape)(h3:w'.output=w.output)(h4:w.heap.size<=w'.heap.size)(h5:∀k,k<w0.heap.size->¬X k->w'.heap[k]?=w.heap[k]?)(h6:∀(k:Nat) (o:Obj),kF (w.heap[k]?)=some o->w'.heap[k]?=some o):
 cH X w0 H0 ν oF w'/\∀κ,Le (HF X w0 H0 ν oF w κ) (HF X w0 H0 ν oF w' κ):=by
 have le:∀κ,Le (HF X w0 H0 ν oF w κ) (HF X w0 H0 ν oF w' κ):=fun κ b o h=>by
  rcases rL h with⟨g1,g2,g3⟩|⟨g1,g2,g3⟩
  . rw[nY g1 g2];exact g3
  . refine kY g1 g2 ?_;rw[h6 b o g3];have:=mU g3;rw[this]at g3;exact g3
 refine⟨⟨h1.trans hS.os,h2.trans hS.tape,h3.trans hS.output,bO hS.size h4,fun k hk hx=>(h5 k hk hx).trans (hS.keep k hk hx),hS.h0,hS.nc,hS.pv,fun i ob h=>?_,hS.fresh,hS.gB,fun i ob h=>⟨fun t ht=>?_,(hS.parts i ob h).2⟩⟩,le⟩
 . obtain⟨b,c,n,k,q1,q2,q3⟩:=hS.cS i ob h;obtain⟨l,rfl⟩:=Il (hp i ob h) q3;refine⟨b,c,n,_,q1,?_,q3.mono (eQ.refl ν) le fun j b c n hj _=>absurd hj (by rw[Fh (hp i ob h)];simp)⟩;cases b with
   |none=>exact q2
   |some b=>
    obtain⟨t,lo,hi,k1,k2,k3⟩:=q2;exact⟨t,lo,hi,h6 b _ (by rw[k1];rfl),k2,k3⟩
 . rw[vF (Fh (hp i ob h))]at ht;cases ht
end Go.Q
namespace Go.X
open Go Go.RowKit
def Aw(P:Program)(n:Nat)(c:Code)(QQ:Exit->Act->World->Prop)(e:Env)(w:World):Prop:=∀a:Act,a.tmps.size=n->a.defers=[]->cL a=e->c.wpIn Fence.wide 5 P QQ a w
section
variable {P:Program} {n:Nat} {QQ:Exit->Act->World->Prop} {e:Env} {w:World}
theorem Aw.EH{x y:Code}{k:List It}(h:cv P n (.code x::k) (fun _ _=>False) e w)(hx:∀ex e w,ex≠Exit.normal->¬jg P n k (fun _ _=>False) ex e w)(h2:∀e w,cv P n k (fun _ _=>False) e w->Aw P n y QQ e w):Aw P n (.seq x y) QQ e w:=by
 intro a g1 g2 g3;refine wpIn_seq (wpIn_mono (wpIn_wide.2 (h a g1 g2 g3)) ?_);rintro x a' w' ⟨k1,k2,k3⟩;cases x with
 |normal=>exact h2 _ _ k3 a' k1 k2 rfl
 |_=>exact absurd k3 (hx _ _ _ (by simp))
theorem Aw.seq3{x1 x2 x3 y:Code}{J:Env->World->Prop}(h:cv P n [.code x1,.code x2,.code x3,.back J] (fun _ _=>False) e w)(h2:∀e w,J e w->Aw P n y QQ e w):Aw P n (.seq x1 (.seq x2 (.seq x3 y))) QQ e w:=
 Aw.EH h (fun x e w hx h=>by cases x<;>first|exact hx rfl|exact h) fun _ _ g=>Aw.EH g (fun x e w hx h=>by cases x<;>first|exact hx rfl|exact h) fun _ _ g=>Aw.EH g (fun x e w hx h=>by cases x<;>first|exact hx rfl|exact h) h2
def rZ(D:Nat):Deferred:={target:=.collected D,args:=#[]}
theorem Qi{f:FuncId}{fn:Func}{c:Code}{l:List Value}{R:Ending->World->Prop}(hf:P.funcs[f]?=some fn)(hb:fn.body=some c)(hn:fn.ntmps=n)(hl:l.length<=n)
 (h:Aw P n c (fun x a' w'=>(x=.normal\/x=.ret)/\∃D,a'.defers=[rZ D]/\w'.heap[D]?=some (.deferred (some []))/\∃v,(results fn a'.tmps).run P (w'.putObj D (.deferred none))=.ok v (w'.putObj D (.deferred none))/\R (.returned v) (w'.putObj D (.deferred none))) (kE l) w):
 Calls P f l.toArray w R:=by
 subst hn;refine(callsIn_wide (n:=5)).1 (callsIn_of_wp_marks hf hb trivial (wpIn_mono (h _ (by simp;omega) rfl Jr) ?_));rintro x a' w' ⟨h1,D,h2,h3,v,hv,hR⟩;rcases h1 with rfl|rfl<;>(show LeavesInM _ _ _ _ _ _ a'.defers _ _;rw[h2];exact⟨by simp,.inl ⟨D,_,rfl,run_takeDeferred h3,v,hv,hR⟩⟩)
theorem SX{fn:Func}{rl:List ResultVar}{vs:List Value}{tmps:Array Value}(hr:fn.results=rl.toArray)(he:∀i,tmps.getD i undef=e i)(h1:ry P e w rl vs):(results fn tmps).run P w=.ok (jh vs) w:=by
 unfold results;rw[hr];simp only[MS,Sem.run_bind,Sem.run_map];rw[BJ he _ (fun _=>rfl) (fun _ _=>rfl) h1];simp only[Result.andThen_ok];cases vs with
 |nil=>rfl
 |cons v vs=>cases vs<;>simp[jh]
end
theorem HH{W W':World}(hc:∀(k:Nat) (o:Obj),Go.Q.kF (W.heap[k]?)=some o->W'.heap[k]?=some o){b o:Nat}{vs:List Value}(h:At (view [] W) b o vs):At (view [] W') b o vs:=by
 intro i hi;have h1:=h i hi;rw[bV hi]at h1⊢;unfold kX at h1⊢;cases hb:view [] W b with
 |none=>rw[hb]at h1;cases h1
 |some ob=>
  rw[hb]at h1;cases ob with
  |cells cs t fr=>
   have:=hc b _ (show Go.Q.kF (W.heap[b]?)=some (.cells cs t fr) by rw[Bj hb];rfl);rw[um this (by simp)];exact h1
  |_=>cases h1
end Go.X
namespace Go.Q
open Go Go.RowKit Go.X
variable [eT]
theorem vu{P:Program}{tb:List (dG P)}{F:Fx}{L:SS}(L':SS)(ren:List Nat){cS:List (Nat×Option Ob)}{bQ:List (Nat×Option Sv)}(hI:L'=⟨ren.length,cS,bQ⟩:=by rfl)(h1:kU (aQ L.bC) ren cS=some cS:=by rfl)(h2:fI ren=true:=by rfl)(h3:nJ L ren bQ=some bQ:=by rfl)(h4:n9 F.m ren=true:=by rfl):
 tO tb F (fun e w=>St F L' e w) L:=⟨fun e w hs=>by rw[hI];exact hs.oX ren h1 h2 h3 h4⟩
theorem xe{P:Program}{tb:List (dG P)}{F:Fx}{ops:List Oper}{L:SS}{J:Env->World->Prop}{rd:Option Nat}{ds:List Deferred}{i:Nat}{Q:Exit->Env->World->Prop}{e:Env}{w:World}
 (h:Gr tb F ops ops [.back J] L)(hs:St F L e w)(hJ:∀e w,J e w->Q .normal e w)(hok:l5 F.n ops=true:=by rfl)(hnd:ua ops=true:=by rfl):Cw rd ds P F.n (.region i ops.toArray false) Q e w:=
 Cw.region ((Gr.ok h).ok e w hs) hJ hok hnd
theorem P9{ν ν':Nu}{oF oF':OF}(hp:∀i ob,oF' i=some ob->xC ob=true/\∃ob0,oF i=some ob0)(hν:∀k,ν' k=ν k){b:Nat}(h:Ow ν' oF' b):Ow ν oF b:=by
 obtain⟨i,ob,h1,h2⟩:=h;obtain⟨h3,ob0,h4⟩:=hp i ob h1;refine⟨i,ob0,h4,.inl ?_⟩;have:=(pT (Fh h3)).1 h2;unfold du at this⊢;rw[<-hν i];exact this
end Go.Q

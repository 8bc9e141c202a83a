/- Plain theorems and definitions of this seat, several texts in one. -/
import Derived.Test.YtipdkfmhfakbnaaGreatDoorAf
set_option linter.unusedVariables false
set_option linter.unusedSimpArgs false
set_option linter.unusedSectionVars false
namespace Go.X
open Go Go.RowKit
def Aw(P:Program)(n:Nat)(c:Code)(QQ:Exit->Act->World->Prop)(e:Env)(w:World):Prop:=∀a:Act,a.tmps.size=n->a.defers=[]->cJ a=e->c.wpIn Fence.wide 5 P QQ a w
section
variable {P:Program} {n:Nat} {QQ:Exit->Act->World->Prop} {e:Env} {w:World}
theorem Aw.D1{x y:Code}{k:List It}(h:ct P n (.code x::k) (fun _ _=>False) e w)(hx:∀ex e w,ex≠Exit.normal->¬jc P n k (fun _ _=>False) ex e w)(h2:∀e w,ct P n k (fun _ _=>False) e w->Aw P n y QQ e w):Aw P n (.seq x y) QQ e w:=by
 intro a g1 g2 g3;refine wpIn_seq (wpIn_mono (wpIn_wide.2 (h a g1 g2 g3)) ?_);rintro x a' w' ⟨k1,k2,k3⟩;cases x with
 |normal=>exact h2 _ _ k3 a' k1 k2 rfl
 |_=>exact absurd k3 (hx _ _ _ (by simp))
theorem Aw.seq3{x1 x2 x3 y:Code}{J:Env->World->Prop}(h:ct P n [.code x1,.code x2,.code x3,.back J] (fun _ _=>False) e w)(h2:∀e w,J e w->Aw P n y QQ e w):Aw P n (.seq x1 (.seq x2 (.seq x3 y))) QQ e w:=
 Aw.D1 h (fun x e w hx h=>by cases x<;>first|exact hx rfl|exact h) fun _ _ g=>Aw.D1 g (fun x e w hx h=>by cases x<;>first|exact hx rfl|exact h) fun _ _ g=>Aw.D1 g (fun x e w hx h=>by cases x<;>first|exact hx rfl|exact h) h2
def rM(D:Nat):Deferred:={target:=.collected D,args:=#[]}
theorem QB{f:FuncId}{fn:Func}{c:Code}{l:List Value}{R:Ending->World->Prop}(hf:P.funcs[f]?=some fn)(hb:fn.body=some c)(hn:fn.ntmps=n)(hl:l.length<=n)
 (h:Aw P n c (fun x a' w'=>(x=.normal\/x=.ret)/\∃D,a'.defers=[rM D]/\w'.heap[D]?=some (.deferred (some []))/\∃v,(results fn a'.tmps).run P (w'.putObj D (.deferred none))=.ok v (w'.putObj D (.deferred none))/\R (.returned v) (w'.putObj D (.deferred none))) (kv l) w):
 Calls P f l.toArray w R:=by
 subst hn;refine(callsIn_wide (n:=5)).1 (callsIn_of_wp_marks hf hb trivial (wpIn_mono (h _ (by simp;omega) rfl LL) ?_));rintro x a' w' ⟨h1,D,h2,h3,v,hv,hR⟩;rcases h1 with rfl|rfl<;>(show LeavesInM _ _ _ _ _ _ a'.defers _ _;rw[h2];exact⟨by simp,.inl ⟨D,_,rfl,run_takeDeferred h3,v,hv,hR⟩⟩)
theorem Uc{fn:Func}{rl:List ResultVar}{vs:List Value}{tmps:Array Value}(hr:fn.results=rl.toArray)(he:∀i,tmps.getD i undef=e i)(h1:qW P e w rl vs):(results fn tmps).run P w=.ok (je vs) w:=by
 unfold results;rw[hr];simp only[Mo,Sem.run_bind,Sem.run_map];rw[yL he _ (fun _=>rfl) (fun _ _=>rfl) h1];simp only[Result.andThen_ok];cases vs with
 |nil=>rfl
 |cons v vs=>cases vs<;>simp[je]
end
theorem HZ{W W':World}(hc:∀(k:Nat) (o:Obj),Go.Q.kC (W.heap[k]?)=some o->W'.heap[k]?=some o){b o:Nat}{vs:List Value}(h:At (view [] W) b o vs):At (view [] W') b o vs:=by
 intro i hi;have h1:=h i hi;rw[bV hi]at h1⊢;unfold kY at h1⊢;cases hb:view [] W b with
 |none=>rw[hb]at h1;cases h1
 |some ob=>
  rw[hb]at h1;cases ob with
  |cells cs t fr=>
   have:=hc b _ (show Go.Q.kC (W.heap[b]?)=some (.cells cs t fr) by rw[zq hb];rfl);rw[tp this (by simp)];exact h1
  |_=>cases h1
end Go.X
namespace Go.Q
open Go Go.RowKit Go.X
variable [eU]
theorem uy{P:Program}{tb:List (dE P)}{F:Fx}{L:SS}(L':SS)(ren:List Nat){cS:List (Nat×Option Ob)}{bQ:List (Nat×Option Sv)}(hI:L'=⟨ren.length,cS,bQ⟩:=by rfl)(h1:ld (aQ L.bC) ren cS=some cS:=by rfl)(h2:fG ren=true:=by rfl)(h3:nA L ren bQ=some bQ:=by rfl)(h4:nB F.m ren=true:=by rfl):
 ve tb F (fun e w=>St F L' e w) L:=⟨fun e w hs=>by rw[hI];exact hs.oy ren h1 h2 h3 h4⟩
theorem wi{P:Program}{tb:List (dE P)}{F:Fx}{ops:List Oper}{L:SS}{J:Env->World->Prop}{rd:Option Nat}{ds:List Deferred}{i:Nat}{Q:Exit->Env->World->Prop}{e:Env}{w:World}
 (h:Gr tb F ops ops [.back J] L)(hs:St F L e w)(hJ:∀e w,J e w->Q .normal e w)(hok:lJ F.n ops=true:=by rfl)(hnd:uE ops=true:=by rfl):Cw rd ds P F.n (.region i ops.toArray false) Q e w:=
 Cw.region ((Gr.ok h).ok e w hs) hJ hok hnd
theorem Pn{ν ν':Nu}{oF oF':OF}(hp:∀i ob,oF' i=some ob->wX ob=true/\∃ob0,oF i=some ob0)(hν:∀k,ν' k=ν k){b:Nat}(h:Ow ν' oF' b):Ow ν oF b:=by
 obtain⟨i,ob,h1,h2⟩:=h;obtain⟨h3,ob0,h4⟩:=hp i ob h1;refine⟨i,ob0,h4,.inl ?_⟩;have:=(pP (Ft h3)).1 h2;unfold dp at this⊢;rw[<-hν i];exact this
end Go.Q

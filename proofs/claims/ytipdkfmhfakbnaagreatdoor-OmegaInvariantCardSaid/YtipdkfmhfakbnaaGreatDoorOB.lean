/- (*state).back: the values of the coordinates are chosen, those that were eliminated last first; its body holds a loop over slices.Backward. -/
import Derived.Test.YtipdkfmhfakbnaaGreatDoorBK
import Derived.Test.YtipdkfmhfakbnaaGreatDoorAf
import Derived.Test.YtipdkfmhfakbnaaGreatDoorAg
import Derived.Test.YtipdkfmhfakbnaaGreatDoorSW
set_option linter.unusedVariables false
set_option linter.unusedSimpArgs false
set_option linter.unusedSectionVars false
set_option maxRecDepth 100000
set_option maxHeartbeats 4000000
namespace Go.Proofs.YtipdkfmhfakbnaaGreatDoor.OB
open Go Go.RowKit Go.X Go.Q Go.D Go.Proofs.YtipdkfmhfakbnaaGreatDoor.TB Go.Proofs.YtipdkfmhfakbnaaGreatDoor.BK Go.Proofs.YtipdkfmhfakbnaaGreatDoor.SW
theorem ti97:TI Tryz.prog 97 1 8 (.pointer none):=TI.mk (by kernel_rfl)
abbrev rY:List (dF Tryz.prog):=⟨97,_,_,_,_,Tryz.underlying97,ti97⟩::tb
abbrev SB(s:aR)(κ:Bool):List Lf:=[(lI .i64 s.n),(.ro aE false s.known),(.ro aJ false s.steps),(.ro (aV aA) false s.u),(.ro (aD .i64) κ s.status),(.ro aA false s.value),(.ro aH false s.items),(.ro aM false s.stack)]
abbrev OZ:List Lf:=[(lI .i64 0),lN,lN,lN,(lB false),lN,lN,(lI .i64 0)]
theorem en106:Go.X.Enters Tryz.prog 106:=⟨Tryz.f106,Tryz.func106,by kernel_rfl,by kernel_rfl⟩
abbrev LA(s:aR):SS:=cH 8 [some (.box (SB s true)),none,none,none,none,none,none,none] [vp 0 0]
abbrev LY(s:aR)(o:List Lf)(y:List aB):SS:=cH 12 [some (.box (SB s false)),none,none,none,none,none,none,none,some (.box [(.ptr 0 0)]),some (.box o),some (.box [(.own 11)]),some (.row aA false y)] [vp 1 8,vp 2 9,vp 3 10]
abbrev FX(X:Nat->Prop)(w:World)(H:Bool->Hp)(ν:Nu):Fx:=⟨66,fun _ _=>False,X,w,H,8,ν⟩
noncomputable def A3:Code:=match Tryz.f106.body with|some (.seq _ (.seq _ (.seq _ c)))=>c|_=>.skip
noncomputable def cRf:Code:=match A3 with|.seq (.seq _ (.block _ c)) _=>c|_=>.skip
noncomputable def cAs:Code:=match cRf with|.rangeFunc _ _ a _=>a|_=>.skip
noncomputable def LG:Code:=match cRf with|.rangeFunc _ _ _ b=>b|_=>.skip
noncomputable def cEnd:Code:=match A3 with|.seq _ c=>c|_=>.skip
def QQ(X:Nat->Prop)(w:World)(H:Bool->Hp)(ν:Nu)(r:bX):Exit->Act->World->Prop:=fun x a' w'=>(x=.normal\/x=.ret)/\∃D,a'.defers=[rH D]/\w'.heap[D]?=some (.deferred (some []))/\∃v,(results Tryz.f106 a'.tmps).run Tryz.prog (w'.putObj D (.deferred none))=.ok v (w'.putObj D (.deferred none))/\∃vs,Ending.returned v=.returned (js vs)/\xH X w H ν 8 [] [sA fw false r] vs (w'.putObj D (.deferred none))
def jW(X:Nat->Prop)(w:World)(H:Bool->Hp)(ν:Nu)(Hf:Bool->Hp)(B:Nat)(eA:Env)(L:SS)(W:World):Prop:= ∃ν',(∀k,12<=k->ν' k=none)/\(∀k,k<8->ν' k=ν k)/\cI X w H ν' (aQ L.bC) W/\di ν' (HF X w H ν' (aQ L.bC) W) (aQ L.bP) eA/\(∀κ,Le (Hf κ) (HF X w H ν' (aQ L.bC) W κ))/\∀b,Ow ν' (aQ L.bC) b->b<B
theorem BT{s:aR}{o:List Lf}{y:List aB}:∀i ob,aQ (LY s o y).bC i=some ob->xa ob=true:=by
 intro i ob h;rcases i with _|_|_|_|_|_|_|_|_|_|_|_|i<;>first|(cases h;rfl)|cases h
theorem slLY{s:aR}{o:List Lf}{y:List aB}{ν:Nu}{H:Bool->Hp}{e e':Env}(h:di ν H (aQ (LY s o y).bP) e)(h1:e' 1=e 1)(h2:e' 2=e 2)(h3:e' 3=e 3):di ν H (aQ (LY s o y).bP) e':=by
 intro t sv ht;rcases t with _|_|_|_|t
 . cases ht
 . rw[h1];exact h _ _ ht
 . rw[h2];exact h _ _ ht
 . rw[h3];exact h _ _ ht
 . cases ht
theorem jW.on{X:Nat->Prop}{w:World}{H:Bool->Hp}{ν:Nu}{Hf:Bool->Hp}{B:Nat}{eA:Env}{s:aR}{o:List Lf}{y:List aB}{W W':World}(h:jW X w H ν Hf B eA (LY s o y) W)
 (h1:W'.os=W.os)(h2:W'.tape=W.tape)(h3:W'.output=W.output)(h4:W.heap.size<=W'.heap.size)(h5:∀k,k<w.heap.size->W'.heap[k]?=W.heap[k]?)(h6:∀(k:Nat) (o:Obj),kI (W.heap[k]?)=some o->W'.heap[k]?=some o):jW X w H ν Hf B eA (LY s o y) W':=by
 obtain⟨ν',g1,g2,g3,g4,g5,g6⟩:=h;obtain⟨k1,k2⟩:=g3.on BT h1 h2 h3 h4 (fun k hk _=>h5 k hk) h6;exact⟨ν',g1,g2,k1,g4.mono (eR.refl _) k2,fun κ=>(g5 κ).trans (k2 κ),g6⟩
theorem DR{W:World}{l:Nat}{ob:Obj}(hl:W.heap[l]?=some ob)(hc:ob.isCells=false)(o':Obj):∀(k:Nat) (o:Obj),kI (W.heap[k]?)=some o->(W.putObj l o').heap[k]?=some o:=by
 intro k o h;by_cases e:k=l
 . subst e;rw[hl]at h;cases ob<;>first|(simp[Obj.isCells]at hc;done)|(cases h;done)
 . rw[World.putObj_heap_other e];exact mr h
abbrev jy:List Nat:=[0,8,9,10,11]
abbrev jK(s:aR)(o:List Lf)(y:List aB):List Ob:=[.box (SB s false),.box [.ptr 0 0],.box o,.box [.own 4],.row aA false y]
noncomputable abbrev FR(X:Nat->Prop)(w:World)(H:Bool->Hp)(ν':Nu)(L:SS)(W:World):Fx:=⟨66,fun _ _=>False,Xc ν' jy,W,Hc (some false) (HF X w H ν' (aQ L.bC) W) (Xc ν' jy) W,5,dV ν' jy⟩
theorem xG{s:aR}{y:List aB}:iZ (some false) (aQ (LY s OZ y).bC) jy jy (jK s OZ y)=some (jK s OZ y):=by rfl
theorem GO{X:Nat->Prop}{w:World}{H:Bool->Hp}{ν':Nu}{eA:Env}{s:aR}{y:List aB}{W:World}(hS:cI X w H ν' (aQ (LY s OZ y).bC) W)(hs:di ν' (HF X w H ν' (aQ (LY s OZ y).bC) W) (aQ (LY s OZ y).bP) eA){e':Env}(h1:e' 1=eA 1)(h2:e' 2=eA 2)(h3:e' 3=eA 3)
 (ex:List (Nat×Option Sv))(hex:di (dV ν' jy) (HF (Xc ν' jy) W (Hc (some false) (HF X w H ν' (aQ (LY s OZ y).bC) W) (Xc ν' jy) W) (dV ν' jy) (aQ (eu 0 (jK s OZ y))) W) (aQ ex) e'):
 St (FR X w H ν' (LY s OZ y) W) ⟨5,eu 0 (jK s OZ y),ex++[vp 1 1,vp 2 2,vp 3 3]⟩ e' W:=by
 have hin:=hS.AX (md:=some false) (is:=jy) rfl xG;refine⟨dV ν' jy,fun k hk=>by rw[qe,fQ (by simpa using hk)];rfl,bK _,fun _ _=>rfl,hin,?_⟩;rw[show aQ (ex++[vp 1 1,vp 2 2,vp 3 3])=bJ ex (aQ [vp 1 1,vp 2 2,vp 3 3]) from by funext t;exact qK _ _ _];refine di.ap ?_ hex;intro t sv ht;rcases t with _|_|_|_|t
 . cases ht
 . cases ht;obtain⟨b,c,q1,q2⟩:=hs 1 _ rfl;exact⟨b,c,q1,h1.trans q2⟩
 . cases ht;obtain⟨b,c,q1,q2⟩:=hs 2 _ rfl;exact⟨b,c,q1,h2.trans q2⟩
 . cases ht;obtain⟨b,c,q1,q2⟩:=hs 3 _ rfl;exact⟨b,c,q1,h3.trans q2⟩
 . cases ht
theorem D6{X:Nat->Prop}{w:World}{H:Bool->Hp}{ν ν':Nu}{Hf:Bool->Hp}{B:Nat}{eA e'':Env}{s:aR}{y y':List aB}{o:List Lf}{W W':World}(n1:∀k,12<=k->ν' k=none)(p1:∀k,k<8->ν' k=ν k)(hS:cI X w H ν' (aQ (LY s OZ y).bC) W)(hs:di ν' (HF X w H ν' (aQ (LY s OZ y).bC) W) (aQ (LY s OZ y).bP) eA)
 (hf:∀κ,Le (Hf κ) (HF X w H ν' (aQ (LY s OZ y).bC) W κ))(hb:∀b,Ow ν' (aQ (LY s OZ y).bC) b->b<B){sl:List (Nat×Option Sv)}(h:St (FR X w H ν' (LY s OZ y) W) ⟨5,eu 0 (jK s o y'),sl⟩ e'' W')
 (h1:nY (some false) 5 (eu 0 (jK s o y'))=true:=by rfl)(ho:o.map (ri (some false) jy 12)=o:=by rfl):
 jW X w H ν Hf B eA (LY s o y') W'/\W.heap.size<=W'.heap.size/\∀(k:Nat) (ob:Obj),W.heap[k]?=some ob->ob.isCells=false->W'.heap[k]?=some ob:=by
 obtain⟨ν'',n2,_,p2,S2,_⟩:=h;obtain⟨ν2,r1,r2,r3,_,_⟩:=BI (some false) jy 0 12 (e:=eA) (rs:=[]) (vs:=[]) (out:=eu 0 (jK s o y')) hS (sE xG) rfl h1 rfl rfl (fun k hk hk'=>by omega) (fun k hk=>p2 k hk) S2 rfl;have hE:bJ (eZ (some false) jy 12 (eu 0 (jK s o y'))++gW jy) (aQ (LY s OZ y).bC)=aQ (LY s o y').bC:=by
  funext t;rcases t with _|_|_|_|_|_|_|_|_|_|_|_|t<;>first|rfl|(show some (Ob.box (o.map (ri (some false) jy 12)))=some (Ob.box o);rw[ho])
 rw[hE]at r2 r3;have hν:∀k,ν2 k=ν' k:=fun k=>r1 k (by omega);refine⟨⟨ν2,fun k hk=>(hν k).trans (n1 k hk),fun k hk=>(hν k).trans (p1 k hk),r2,hs.mono (fun i x hx=>(hν i).trans hx) r3,fun κ=>(hf κ).trans (r3 κ),fun b hb'=>hb b (Sj (fun i ob hi=>⟨BT i ob hi,?_⟩) hν hb')⟩,S2.size,fun k ob hk hc=>?_⟩
 . rcases i with _|_|_|_|_|_|_|_|_|_|_|_|i<;>first|exact⟨_,rfl⟩|cases hi
 . refine(S2.keep k (kq hk) ?_).trans hk;rintro⟨i,hi,hbk⟩;obtain⟨oi,hoi⟩:=sE (xG (s:=s) (y:=y)) i hi;obtain⟨b,c,n,kk,q1,q2,q3⟩:=hS.cT i oi hoi;obtain⟨l,rfl⟩:=Lr (BT i oi hoi) q3;rw[ep q1]at hbk;subst hbk;obtain⟨t,lo,hi',k1,_⟩:=q2;rw[k1]at hk;cases hk;cases hc
theorem ID{X:Nat->Prop}{w:World}{H:Bool->Hp}{ν:Nu}{r:bX}{Hf:Bool->Hp}{B:Nat}{eA:Env}{s:aR}{o:List Lf}{y:List aB}{W:World}{D:Nat}{ac:Act}(hS:jW X w H ν Hf B eA (LY s o y) W)(hB:w.heap.size<=B)(hD:B<=D)(hK:W.heap[D]?=some (.deferred (some [])))
 (h2:ac.defers=[rH D])(h3:cN ac=eA)(hr:uj rY ⟨66,QR Tryz.prog [.cell 2 75] X w H ν 8 [] [sA fw false r],X,w,H,8,ν⟩ (LY s o y)):QQ X w H ν r .ret ac W:=by
 have hS':=hS.on (W':=W.putObj D (.deferred none)) rfl rfl rfl (by simp) (fun k hk=>World.putObj_heap_other (by omega)) (DR hK rfl _);obtain⟨ν',g1,g2,g3,g4,g5,g6⟩:=hS';obtain⟨vs,r1,r2⟩:=hr.ok eA (W.putObj D (.deferred none)) ⟨ν',g1,(by show 8<=12;omega),g2,g3,g4⟩;exact⟨.inr rfl,D,h2,hK,js vs,TL rfl (fun i=>by rw[<-h3];rfl) r1,vs,rfl,r2⟩
theorem env_c{X:Nat->Prop}{w:World}{H:Bool->Hp}{ν':Nu}{eA e'':Env}{s:aR}{y y':List aB}{o:List Lf}{W W':World}(hs:di ν' (HF X w H ν' (aQ (LY s OZ y).bC) W) (aQ (LY s OZ y).bP) eA)(h:St (FR X w H ν' (LY s OZ y) W) ⟨5,eu 0 (jK s o y'),[vp 1 1,vp 2 2,vp 3 3]⟩ e'' W'):
 e'' 1=eA 1/\e'' 2=eA 2/\e'' 3=eA 3:=by
 obtain⟨ν'',n2,_,p2,S2,s2⟩:=h;have key:∀(t i j:Nat),(∃b c,ν'' i=some (some b,c)/\e'' t=.pointer (some ⟨b,0,none⟩))->ν'' i=ν' j->(∃b c,ν' j=some (some b,c)/\eA t=.pointer (some ⟨b,0,none⟩))->e'' t=eA t:=by
  rintro t i j ⟨b,c,q1,q2⟩ hij ⟨b',c',q3,q4⟩;rw[hij,q3]at q1;cases q1;rw[q2,q4]
 exact⟨key 1 1 8 (s2 1 _ rfl) (p2 1 (by show 1<5;omega)) (hs 1 _ rfl),key 2 2 9 (s2 2 _ rfl) (p2 2 (by show 2<5;omega)) (hs 2 _ rfl),key 3 3 10 (s2 3 _ rfl) (p2 3 (by show 3<5;omega)) (hs 3 _ rfl)⟩
theorem end_c(N:Nat)(s:aR)(y xr:List aB)(hx:qz N s y=some xr){X:Nat->Prop}{w:World}{H:Bool->Hp}{ν:Nu}{Hf:Bool->Hp}{B:Nat}{eA:Env}{W:World}{D:Nat}(hS:jW X w H ν Hf B eA (LY s OZ y) W)(hB:w.heap.size<=B)(hD:B<=D)(hK:W.heap[D]?=some (.deferred (some [])))
 (ac:Act)(h1:ac.tmps.size=66)(h2:ac.defers=[rH D])(h3:cN ac=eA):cEnd.wpIn Fence.wide 5 Tryz.prog (QQ X w H ν (bX.mk 0 xr (Proof.mk [] [] (aB.mk false []) []) 0)) ac W:=by
 obtain⟨ν',n1,p1,S1,s1,f1,b1⟩:=hS;have hL:=GO S1 s1 (e':=eA) rfl rfl rfl [] (fun t sv ht=>by cases ht);have main:Cw none [rH D] Tryz.prog 66 cEnd (fun x e W'=>x=.ret/\St (FR X w H ν' (LY s OZ y) W) ⟨5,eu 0 (jK s [lI .i64 0,.ro aA true xr,lN,lN,lB false,lN,lN,lI .i64 0] y),[vp 1 1,vp 2 2,vp 3 3]⟩ e W') eA W:=by
  refine Cw.seq (K:=fun e W'=>St (FR X w H ν' (LY s OZ y) W) ⟨5,eu 0 (jK s [lI .i64 0,.ro aA true xr,lN,lN,lB false,lN,lN,lI .i64 0] y),[vp 1 1,vp 2 2,vp 3 3]⟩ e W') ?_ (fun e W' h=>Cw.ret ⟨rfl,h⟩);refine xN (F:=FR X w H ν' (LY s OZ y) W) (tb:=rY) ?_ hL (fun e w h=>h);refine eV (some false) [0,4] (bq hx) (R5 N _ _) fun x' h=>?_;cases h;exact tO _ [0,1,2,3,4]
 refine wpIn_mono (main 5 ac h1 h2 h3) ?_;rintro x a' W' ⟨k1,k2,rfl,k4⟩;obtain⟨v1,v2,v3⟩:=env_c s1 k4;obtain⟨⟨ν2,g1,g2,g3,g4,g5,g6⟩,q1,q2⟩:=D6 n1 p1 S1 s1 f1 b1 k4;exact ID (eA:=cN a') (Hf:=Hf) (B:=B) ⟨ν2,g1,g2,g3,slLY g4 v1 v2 v3,g5,g6⟩ hB hD (q2 D _ hK rfl) k2 rfl (rt [0,1,2,3,4,5,6,7])
theorem EO{N:Nat}{s:aR}:∀{l1 l2:List dK} {y y':List aB},ij N s l1 y=some (.inl y')->ij N s (l1++l2) y=ij N s l2 y'
 |[],_,_,_,h=>by cases h;rfl
 |e::l1,l2,y,y',h=>by
  simp only[ij,B4]at h⊢;obtain⟨⟨n,ok⟩,h1,h2⟩:=bind_some h;rw[h1];show(if ok=true then _ else _)=_;cases ok with
  |false=>cases h2
  |true=>
   have h2:(dw y e.v n).bind (ij N s l1)=some (.inl y'):=h2;obtain⟨z,h3,h4⟩:=bind_some h2;rw[h3];exact EO h4
theorem Jf{N:Nat}{s:aR}:∀{l1 l2:List dK} {y:List aB} {v:Int},ij N s l1 y=some (.inr v)->ij N s (l1++l2) y=some (.inr v)
 |[],_,_,_,h=>by cases h
 |e::l1,l2,y,v,h=>by
  simp only[ij,B4]at h⊢;obtain⟨⟨n,ok⟩,h1,h2⟩:=bind_some h;rw[h1];show(if ok=true then _ else _)=_;cases ok with
  |false=>exact h2
  |true=>
   have h2:(dw y e.v n).bind (ij N s l1)=some (.inr v):=h2;obtain⟨z,h3,h4⟩:=bind_some h2;rw[h3];exact Jf h4
theorem Dq(l:List dK):∀(k:Nat) (h:k<=l.length),(rest l.length k h).map (fun k=>l[k])=(l.take k).reverse
 |0,_=>by simp[rest]
 |k+1,h=>by
  have hk:k<l.length:=h;rw[rest,jN,Dq l k (B7 hk),pQ hk,Nb];rfl
theorem Pn{H:Hp}{b:Nat}{vs:List Value}{t:TypeId}{fr:Nat×Nat}(h:H b=some (.cells vs.toArray t fr)):At H b 0 vs:=by
 intro i hi;simp[kR,h]
theorem Hx{X:Nat->Prop}{w:World}{H:Bool->Hp}{ν:Nu}{Hf:Bool->Hp}{B:Nat}{eA:Env}{s:aR}{o:List Lf}{y:List aB}(hB:w.heap.size<=B){W W':World}{row:Option Nat}(h:jW X w H ν Hf B eA (LY s o y) W)(hg:W.grownBy W' row)(hr:∀r,row=some r->B<=r/\∃o:Obj,W.heap[r]?=some o/\o.isCells=false):jW X w H ν Hf B eA (LY s o y) W':=by
 have hlt:∀k,k<w.heap.size->k<W.heap.size:=fun k hk=>by obtain⟨_,_,_,h3,_⟩:=h;exact B2 hk h3.size
 refine h.on hg.os hg.tape hg.output hg.size (fun k hk=>hg.block k (hlt k hk) (fun e=>by have:=(hr k e.symm).1;omega)) (fun k o ho=>(hg.block k (kq (mr ho)) (fun e=>?_)).trans (mr ho));obtain⟨_,o',h1,h2⟩:=hr k e.symm;rw[h1]at ho;cases o'<;>first|(simp[Obj.isCells]at h2;done)|(cases ho;done)
theorem Q7(N:Nat)(s:aR)(y:List aB)(hlen:s.stack.length<=9223372036854775807)(hok:nQ N s s.stack.length y=true){res:List aB⊕Int}(hres:ij N s s.stack.reverse y=some res){X:Nat->Prop}{w:World}{H:Bool->Hp}{ν:Nu}{e2:Env}{W:World}{Bs:Nat}{a:Option Addr}{cap:Nat}
    {Hf:Bool->Hp}(hS:jW X w H ν Hf W.heap.size e2 (LY s OZ y) W)(h42:e2 42=.func (.func 158) #[] #[.pointer (some ⟨Bs,0,none⟩)]) (hBs:At (Hf false) Bs 0 [.slice a s.stack.length cap]) (hst:∀k:Fin s.stack.length,∃b o vs,a=some ⟨b,o,none⟩/\At (Hf false) b (o+k*3) vs/\aM.R (Hf false) vs s.stack[k])
    {m:Nat} (hm:2<=m) (ac:Act) (h1:ac.tmps.size=66) (h2:ac.defers=[]) (h3:cN ac=e2) {QR':Exit->Act->World->Prop}
    (hQ:∀D W',(W.heap.size<=D)->W'.heap[D]?=some (.deferred (some []))->(match(motive:=List aB⊕Int->Prop) res with|.inl y'=>jW X w H ν Hf W.heap.size e2 (LY s OZ y') W'->QR' .normal {ac with defers:=[rH D]} W'|.inr v=>∀y',jW X w H ν Hf W.heap.size e2 (LY s [(lI .i64 2),lN,lN,lN,(lB false),lN,lN,(lI .i64 v)] y') W'->QR' .ret {ac with defers:=[rH D]} W')):
    (Code.rangeFunc (.tmp 42) #[43,44] cAs LG).wpIn Fence.wide m Tryz.prog QR' ac W:=by
  have hBw:w.heap.size<=W.heap.size:=by obtain⟨_,_,_,h3,_⟩:=hS;exact h3.size
  have hst':∀k:Fin s.stack.length,∃vs,(∃b o,a=some ⟨b,o,none⟩/\At (Hf false) b (o+k*3) vs)/\aM.R (Hf false) vs s.stack[k]:=fun k=>by obtain⟨b,o,vs,q1,q2,q3⟩:=hst k;exact⟨vs,⟨b,o,q1,q2⟩,q3⟩
  obtain⟨vsf,hvs⟩:∃vsf:Fin s.stack.length->List Value,∀k:Fin s.stack.length,(∃b o,a=some ⟨b,o,none⟩/\At (Hf false) b (o+k*3) (vsf k))/\aM.R (Hf false) (vsf k) s.stack[k]:=⟨fun k=>Classical.choose (hst' k),fun k=>yA (hst' k)⟩;have fP:∀{o:List Lf} {y':List aB} {W':World},jW X w H ν Hf W.heap.size e2 (LY s o y') W'->BK.Good a cap vsf Bs W':=fun h=>by
    obtain⟨ν',_,_,g3,_,g5,_⟩:=h;have le:=(g5 false).trans (g3.view false);exact⟨hBs.mono le,fun k=>by obtain⟨⟨b,o,q1,q2⟩,_⟩:=hvs k;exact⟨b,o,q1,q2.mono le⟩⟩
  have hseq:=Rt a cap vsf Bs (fun k=>aM.len _ _ _ (hvs k).2) hlen (m-1) (by omega) W (fP hS);refine wpIn_rangeFunc_ownH (F:=Fence.wide) (n:=m) rfl (by omega) (gf:=158) (lb:=#[.pointer (some ⟨Bs,0,none⟩)]) (by rw[<-sU,h3];exact h42) trivial (fun args w=>F1 ⟨Tryz.f158,Tryz.func158,by kernel_rfl,by kernel_rfl⟩ args) hseq (fun h k g=>k (h g)) ?_ (Below.refl _ _) (fun x=>rfl)
    (fun(pre:List (Fin s.stack.length)) W'=>∃y',ij N s (pre.map fun k=>s.stack[k]) y=some (.inl y')/\nQ N s (s.stack.length-pre.length) y'=true/\jW X w H ν Hf W.heap.size e2 (LY s OZ y') W'/\W.heap.size<=W'.heap.size)
    (fun c (pre:List (Fin s.stack.length)) W'=>c=.ret/\∃v,ij N s (pre.map fun k=>s.stack[k]) y=some (.inr v)/\∃y',jW X w H ν Hf W.heap.size e2 (LY s [(lI .i64 2),lN,lN,lN,(lB false),lN,lN,(lI .i64 v)] y') W')
    ?_ ?_ ⟨y,rfl,hok,hS,bK _⟩
    (fun(x:Fin s.stack.length) a' W'=>a'.tmps.size=66/\a'.defers=[]/\cN a' 1=e2 1/\cN a' 2=e2 2/\cN a' 3=e2 3/\∃Bx t fr,W.heap.size<=Bx/\cN a' 6=.pointer (some ⟨Bx,0,none⟩)/\W'.heap[Bx]?=some (.cells (vsf x).toArray t fr))
    ?_ ?assign ?body ?done ?stop
  . intro W' l o o' hl hl' hc _ g;exact⟨HN (DR hl' hc o') g.1,fun k=>by obtain⟨b,o,q1,q2⟩:=g.2 k;exact⟨b,o,q1,HN (DR hl' hc _) q2⟩⟩
  . rintro pre W1 W2 row ⟨y',q1,q2,q3,q4⟩ hg hr;exact⟨y',q1,q2,Hx hBw q3 hg hr,bO q4 hg.size⟩
  . rintro c pre W1 W2 row ⟨hc,v,q1,y',q2⟩ hg hr;exact⟨hc,v,q1,y',Hx hBw q2 hg hr⟩
  . rintro x a' _ W1 W2 row ⟨z1,z2,z3,z4,z5,Bx,t,fr,z6,z7,z8⟩ hg hr;refine⟨z1,z2,z3,z4,z5,Bx,t,fr,z6,z7,(hg.block Bx (kq z8) (fun e=>?_)).trans z8⟩;obtain⟨_,o',k1,k2⟩:=hr Bx e.symm;rw[k1]at z8;cases z8;cases k2
  case assign=>
    intro l pre x W1 K hI hK;obtain⟨y',q1,q2,q3,q4⟩:=hI;have hz:(#[43,44].zip #[Value.int .i64 ((x.1:Nat):Int),.agg (vsf x).toArray]).foldl (fun t (p,v)=>t.setIfInBounds p v) ac.tmps=(ac.tmps.setIfInBounds 43 (.int .i64 ((x.1:Nat):Int))).setIfInBounds 44 (.agg (vsf x).toArray):=by simp
    rw[hz];show cAs.wpIn (nF (some l)) (m-1-1) Tryz.prog (Exit.then K fun _ _ _=>False) {tmps:=(ac.tmps.setIfInBounds 43 (.int .i64 ((x.1:Nat):Int))).setIfInBounds 44 (.agg (vsf x).toArray),defers:=[]} W1;have b3:cN {tmps:=(ac.tmps.setIfInBounds 43 (.int .i64 ((x.1:Nat):Int))).setIfInBounds 44 (.agg (vsf x).toArray),defers:=[]}=cK (cK e2 43 (.int .i64 ((x.1:Nat):Int))) 44 (.agg (vsf x).toArray):=
      (uf (ac.put (some 43) (.int .i64 ((x.1:Nat):Int))) (n:=66) (by rw[oH];exact h1) (by omega) (.agg (vsf x).toArray)).trans (by rw[uf ac h1 (by omega),h3])
    generalize hT:(ac.tmps.setIfInBounds 43 (.int .i64 ((x.1:Nat):Int))).setIfInBounds 44 (.agg (vsf x).toArray)=T at b3⊢;have b1:T.size=66:=by rw[<-hT];simpa using h1
    have hl3:(vsf x).length=3:=aM.len _ _ _ (hvs x).2;refine wpIn_region_lit ?_;refine nG (rd:=some l) (n:=66) b1 rfl (aF.alloc wc rfl (nI (w:=W1)) fun b w1 hL1 _ a2 c1 c2 c3=>?_);refine nG (rd:=some l) (n:=66) c1 c2 (aF.store (v:=.agg (vsf x).toArray) (vs:=vsf x) wc (by rw[c3];rfl) (by rw[c3];show cN _ 44=_;rw[b3];rfl) rfl hl3 (aM.one _ _ _ (hvs x).2) hL1 0 rfl rfl (by rw[hl3];exact bK _) fun w2 hL2 _ a3 d1 d2 d3=>?_);have hput:putAt [Value.int .i64 0,.slice none 0 0,.bool false] 0 (vsf x)=vsf x:=by rw[wG _ _ _ (by rw[hl3];exact bK _),hl3];simp
    have hS3:jW X w H ν Hf W.heap.size e2 (LY s OZ y') w2:=q3.on hL2.os hL2.tape hL2.output hL2.size (fun k hk=>hL2.keep k (by omega) (by simp)) (fun k o ho=>(hL2.keep k (kq (mr ho)) (by simp)).trans (mr ho));have hown:dC w2 (some b) (.cells (vsf x)):=by
      have:=hL2.own.1;rw[show putAt _ 0 (vsf x)=vsf x from hput]at this;exact this
    obtain⟨t,lo,hi,k1,_,_⟩:=hown;have hbf:W1.heap.size<=b:=by
      rcases hL2.fresh b (by simp)with h|h
      . cases h
      . exact h
    have he:cN a3=cK (cK (cK e2 43 (.int .i64 ((x.1:Nat):Int))) 44 (.agg (vsf x).toArray)) 6 (.pointer (some ⟨b,0,none⟩)):=by rw[d3,<-b3];exact c3
    exact hK a3 w2 ⟨hL2.size,fun k o _ hk _=>(hL2.keep k (kq hk) (by simp)).trans hk⟩ (fun _=>fP hS3) ⟨y',q1,q2,hS3,bO q4 hL2.size⟩ ⟨d1,d2,by rw[he];rfl,by rw[he];rfl,by rw[he];rfl,b,t,(lo,hi),by omega,by rw[he];rfl,k1⟩
  case body=>
    rintro l pre x a' W1 hl ⟨rr,hrr⟩ ⟨y',q1,q2,q3,q4⟩ ⟨z1,z2,z3,z4,z5,Bx,t,fr,z6,z7,z8⟩ hlt;have hR:=(hvs x).2;have hmem:s.stack[x]∈s.stack:=cX _;have hpm:(pre++[x]).map (fun k:Fin s.stack.length=>s.stack[k])=pre.map (fun k:Fin s.stack.length=>s.stack[k])++[s.stack[x]]:=by simp
    generalize s.stack[x]=el at hR hmem hpm;obtain⟨k,hk⟩:∃k,s.stack.length-pre.length=k+1:=⟨s.stack.length-pre.length-1,by omega⟩;rw[hk]at q2;have q2:=tg.1 (show(s.stack.all _)=true from q2) el hmem;cases hb:nA N s el y' with
    |none=>rw[hb]at q2;cases q2
    |some nb=>
    obtain⟨nv,ok⟩:=nb;rw[hb]at q2;obtain⟨ν',n1,p1,S1,s1,f1,b1⟩:=q3;have hnx:¬Xc ν' jy Bx:=fun h=>by
      have:=b1 Bx (AL (sE (xG (s:=s) (y:=y'))) h);omega
    have hL:=GO S1 s1 z3 z4 z5 [(6,some (.pr false (aO.cl aM false el) 0))] (by
      intro t' sv ht;have ht:(bif Nat.beq t' 6 then some (Sv.pr false (aO.cl aM false el) 0)else none)=some sv:=ht;cases h6:Nat.beq t' 6 with
      |false=>rw[h6]at ht;cases ht
      |true=>
        rw[h6]at ht;cases ht;obtain rfl:=dI h6;refine⟨Bx,0,vsf x,z7,Pn (t:=t) (fr:=fr) ?_,aO.op (aM.mono _ _ _ _ ((f1 false).trans (qx (md:=some false) S1 (sE (xG (s:=s) (y:=y'))) false)) hR)⟩;refine(nz (kq z8) hnx).trans ?_;exact k9 (.inr (by omega)) (fun h=>by have:=b1 Bx h;omega) (by rw[z8];rfl))
    have main:Cw (some l) [] Tryz.prog 66 LG (fun x=>match x with
        |.normal=>fun e W2=>ok=true/\∃y'',dw y' el.v nv=some y''/\St (FR X w H ν' (LY s OZ y') W1) ⟨5,eu 0 (jK s OZ y''),[vp 1 1,vp 2 2,vp 3 3]⟩ e W2
        |.ret=>fun e W2=>ok=false/\St (FR X w H ν' (LY s OZ y') W1) ⟨5,eu 0 (jK s [(lI .i64 2),lN,lN,lN,(lB false),lN,lN,(lI .i64 el.v)] y'),[vp 1 1,vp 2 2,vp 3 3]⟩ e W2
        |_=>fun _ _=>False) (cN a') W1:=by
      refine Cw.block ?_ (fun j e w h=>h);refine Cw.seq (K:=fun e W2=>St (FR X w H ν' (LY s OZ y') W1) ⟨6,eu 0 (jK s OZ y'++[.box (aO.cl aA true nv)]),[vp 1 1,vp 2 2,vp 3 3,(6,some (.pr false (aO.cl aM false el) 0)),vp 7 5,vb 8 ok]⟩ e W2) ?_ ?_
      . refine xN (F:=FR X w H ν' (LY s OZ y') W1) (tb:=rY) ?_ hL (fun e w h=>h);refine eV (some false) [0,4] (bq hb) (S5 N _ _ _) fun r' h=>?_;cases h;exact tO _ [0,1,2,3,4,5]
      rintro e3 W3 g3;refine Cw.seq (K:=fun e W2=>ok=true/\St (FR X w H ν' (LY s OZ y') W1) ⟨6,eu 0 (jK s OZ y'++[.box (aO.cl aA true nv)]),[vp 1 1,vp 2 2,vp 3 3,(6,some (.pr false (aO.cl aM false el) 0)),vp 7 5,vb 53 (!ok)]⟩ e W2) ?_ ?_
      . refine Cw.seq (K:=fun e W2=>St (FR X w H ν' (LY s OZ y') W1) ⟨6,eu 0 (jK s OZ y'++[.box (aO.cl aA true nv)]),[vp 1 1,vp 2 2,vp 3 3,(6,some (.pr false (aO.cl aM false el) 0)),vp 7 5,vb 53 (!ok)]⟩ e W2) ?_ ?_
        . refine xN (F:=FR X w H ν' (LY s OZ y') W1) (tb:=rY) ?_ g3 (fun e w h=>h);exact tO _ [0,1,2,3,4,5]
        . rintro e4 W4 g4;have hc:e4 53=.bool (!ok):=by obtain⟨_,_,_,_,_,ss⟩:=g4;exact(ss 53 _ rfl).1
          refine Cw.cond hc ?_;cases ok with
          |true=>exact Cw.skip ⟨rfl,g4⟩
          |false=>
            refine Cw.seq (K:=fun e W2=>St (FR X w H ν' (LY s OZ y') W1) ⟨5,eu 0 (jK s [(lI .i64 2),lN,lN,lN,(lB false),lN,lN,(lI .i64 el.v)] y'),[vp 1 1,vp 2 2,vp 3 3]⟩ e W2) ?_ (fun e W2 h=>Cw.ret ⟨rfl,h⟩);refine xN (F:=FR X w H ν' (LY s OZ y') W1) (tb:=rY) ?_ g4 (fun e w h=>h);exact tO _ [0,1,2,3,4]
      . rintro e4 W4 ⟨hok1,g4⟩;subst hok1;have q2:(match dw y' el.v nv with|none=>false|some y=>nQ N s k y)=true:=q2;cases hup:dw y' el.v nv with
        |none=>rw[hup]at q2;cases q2
        |some y''=>
        obtain⟨z,hz⟩:∃z,idx y' el.v=some z:=by
          obtain⟨n,r1,r2,_⟩:=DC hup;exact⟨_,by rw[r1];exact O3 r2⟩
        refine xN (F:=FR X w H ν' (LY s OZ y') W1) (tb:=rY) ?_ g4 (fun e w h=>⟨rfl,y'',rfl,h⟩);refine cy (bq hz) fun z' h=>?_;refine dW false (bq hup) fun y3 h=>?_;cases h;exact tO _ [0,1,2,3,4]
    refine wpIn_mono (main (m-1-1) a' z1 z2 rfl) ?_;rintro ex a'' W2 ⟨k1,k2,k3⟩;cases ex<;>first|exact k3.elim|skip
    . obtain⟨rfl,y'',hup,g⟩:=k3;obtain⟨hS2,hsz,hkeep⟩:=D6 n1 p1 S1 s1 f1 b1 g;refine⟨⟨hsz,fun k o _ hk hc=>hkeep k o hk hc⟩,fun _=>fP hS2,y'',?_,?_,hS2,bO q4 hsz⟩
      . rw[hpm,EO q1];simp[ij,hb,hup]
      . have q2:(match dw y' el.v nv with|none=>false|some y=>nQ N s k y)=true:=q2;rw[hup]at q2;rw[show s.stack.length-(pre++[x]).length=k by simp;omega];exact q2
    . obtain⟨rfl,g⟩:=k3;obtain⟨hS2,hsz,hkeep⟩:=D6 n1 p1 S1 s1 f1 b1 g;refine⟨⟨hsz,fun k o _ hk hc=>hkeep k o hk hc⟩,rfl,el.v,?_,y',hS2⟩;rw[hpm,EO q1];simp[ij,hb]
  case done=>
    rintro D xs W' hD rfl ⟨y',q1,q2,q3,q4⟩ hK;rw[Dq s.stack _ (bK _),tq]at q1;rw[hres]at q1;cases q1;have:=hQ D W' hD hK q3;rw[h2];exact this
  case stop=>
    rintro D c pre W' hD ⟨r',hr'⟩ ⟨rfl,v,q1,y',q2⟩ hK;have e:ij N s s.stack.reverse y=some (.inr v):=by
      rw[<-tq (l:=s.stack),<-Dq s.stack _ (bK _),<-hr',jg];exact Jf q1
    rw[hres]at e;cases e;have:=hQ D W' hD hK y' q2;rw[h2];exact wpIn_ret this
theorem OY(N:Nat)(s:aR)(r:bX)(y:List aB)(h:(if s.stack.length<=9223372036854775807/\nQ N s s.stack.length y=true then
 (ij N s s.stack.reverse y).bind fun
 |.inr v=>some (bX.mk 2 [] (Proof.mk [] [] (aB.mk false []) []) v)
 |.inl y=>(qz N s y).bind fun x=>some (bX.mk 0 x (Proof.mk [] [] (aB.mk false []) []) 0)
 else none)=some r){X:Nat->Prop}{w:World}{H:Bool->Hp}{ν:Nu}{e1:Env}{w1:World}(g1:St (FX X w H ν) (LY s OZ y) e1 w1):Aw Tryz.prog 66 A3 (QQ X w H ν r) e1 w1:=by
 split at h
 rotate_left
 . cases h
 rename_i hg;obtain⟨hlen,hok⟩:=hg;obtain⟨res,hres,h⟩:=bind_some h;obtain⟨ν1,n1,m1,p1,hS,hs⟩:=g1;obtain⟨bb0,c0,n0,k0,q0,qc0,vs0,rfl,lf0⟩:=hS.cT 0 _ rfl;obtain⟨a0,_,rfl,h0,a1,_,rfl,hh1,a2,_,rfl,hh2,a3,_,rfl,hh3,a4,_,rfl,hh4,a5,_,rfl,hh5,a6,_,rfl,hh6,a7,_,rfl,hh7,rfl⟩:=lf0;obtain⟨bb8,c8,n8,k8,q8,qc8,vs8,rfl,v8,_,rfl,⟨b0,cc0,q0',rfl⟩,rfl⟩:=hS.cT 8 _ rfl;rw[q0]at q0';cases q0';obtain⟨b8,cc8,q8',e11⟩:=hs 1 _ rfl;rw[q8]at q8';cases q8';have at0:=px (H:=view [] w1) qc0 (fun o ho=>uY ho (by simp));have at8:=px (H:=view [] w1) qc8 (fun o ho=>uY ho (by simp));obtain⟨a,cap,rfl,hst⟩:∃a cap,a7=.slice a s.stack.length cap/\∀k:Fin s.stack.length,∃b o vs,a=some ⟨b,o,none⟩/\At (HF X w H ν1 (aQ (LY s OZ y).bC) w1 false) b (o+k*3) vs/\aM.R (HF X w H ν1 (aQ (LY s OZ y).bC) w1 false) vs s.stack[k]:=by
  rcases(hh7:Rs aM _ a7 s.stack)with⟨⟨oa,rfl⟩,hn⟩|⟨b,o,cap,rfl,_,hxs⟩
  . exact⟨oa,0,by rw[hn];rfl,fun⟨k,hk⟩=>absurd (show k<0 by rw[hn]at hk;exact hk) (MY _)⟩
  . refine⟨_,cap,rfl,fun k=>?_⟩;obtain⟨vs,_,hA,hR⟩:=hxs k.1 s.stack[k] (bV k.2);exact⟨b,o,vs,rfl,hA,hR⟩
 intro ac ga gb gc
 let w2:=w1.alloc (.cells #[.slice a s.stack.length cap] 103)
 have r8:Cw none [] Tryz.prog 66 (match A3 with|.seq (.seq c _) _=>c|_=>.skip) (DJ (fun e' w'=>w'=w2/\e' 42=.func (.func 158) #[] #[.pointer (some ⟨w1.heap.size,0,none⟩)]/\e' 1=e1 1/\e' 2=e1 2/\e' 3=e1 3) fun _ _ _=>False) e1 w1:=by
  refine Cw.region (K:=fun e' w'=>w'=w2/\e' 42=.func (.func 158) #[] #[.pointer (some ⟨w1.heap.size,0,none⟩)]/\e' 1=e1 1/\e' 2=e1 2/\e' 3=e1 3) ?_ (fun e w h=>h);refine Rl.op (aF.wA (A:=[]) Tryz.underlying97 rfl e11 (at8.get 0 rfl) ?_);refine Rl.op (aF.nilCheck rfl ?_);refine Rl.op (aF.fieldAddr Tryz.underlying105 rfl Ls rfl rfl rfl ?_);refine Rl.op (aF.wA (A:=[]) Tryz.underlying103 rfl rfl (at0.get 7 rfl) ?_);refine Rl.op (aF.IZ (l:=[.slice a s.stack.length cap]) ⟨Tryz.f131,Tryz.func131,by kernel_rfl,by kernel_rfl⟩ rfl rfl (backward a _ cap w1) ?_);rintro e w' ⟨rfl,rfl⟩;exact⟨_,rfl,rfl,rfl,rfl,rfl,rfl⟩
 refine wpIn_seq (wpIn_seq (wpIn_mono (r8 5 ac ga gb gc) ?_));rintro x a' w' ⟨k1,k2,k3⟩;cases x<;>first|exact k3.elim|skip
 obtain⟨rfl,e42,ee1,ee2,ee3⟩:=k3;have hsz:w2.heap.size=w1.heap.size+1:=by simp[w2]
 have hcel:∀(k:Nat) (o:Obj),kI (w1.heap[k]?)=some o->w2.heap[k]?=some o:=fun k o ho=>(Below.heap_alloc w1 _ k (kq (mr ho))).trans (mr ho);obtain⟨S2,le2⟩:=hS.on (w':=w2) BT rfl rfl rfl (by omega) (fun k hk _=>Below.heap_alloc w1 _ k (by have:=hS.size;omega)) hcel;have hS2:jW X w H ν (HF X w H ν1 (aQ (LY s OZ y).bC) w2) w2.heap.size (cN a') (LY s OZ y) w2:=⟨ν1,n1,p1,S2,slLY (hs.mono (eR.refl _) le2) ee1 ee2 ee3,fun κ=>Le.refl _,fun b hb=>by obtain⟨i,ob,q1,q2⟩:=hb;exact S2.ltO q1 q2⟩;have hBw:w.heap.size<=w2.heap.size:=by have:w.heap.size<=w1.heap.size:=hS.size;omega
 refine wpIn_block (Q7 N s y hlen hok hres hS2 e42 (px (oe w1 _ _) fun o ho=>k9 (.inr hS.size) (fun hw=>by obtain⟨i,ob,q1,q2⟩:=hw;exact absurd (hS.ltO q1 q2) (Nat.lt_irrefl _)) (vn (oe w1 _ _) ho)) (fun k=>by obtain⟨b,o,vs,q1,q2,q3⟩:=hst k;exact⟨b,o,vs,q1,q2.mono (le2 false),aM.mono _ _ _ _ (le2 false) q3⟩) (m:=5) (by omega) a' k1 k2 rfl ?_);intro D W' hD hK;cases res with
 |inl y'=>
  intro hS3;obtain⟨xr,hx,h⟩:=bind_some h;cases h;exact end_c N s y' xr hx hS3 hBw hD hK _ k1 rfl rfl
 |inr v=>
  intro y' hS3;cases h;exact ID hS3 hBw hD hK rfl rfl (rt [0,1,2,3,4,5,6,7])
theorem Ud(N:Nat)(s:aR)(r:bX)(h:rk N s=some r):Cx Tryz.prog 106 [.lf (.ptr 0 0)] [.box [(lI .i64 s.n),.ap 1 aE false s.known,.ap 2 aJ false s.steps,.own 3,.own 4,.own 5,.own 6,.ap 7 aM false s.stack],.aG aE false s.known,.aG aJ false s.steps,.row (aV aA) false s.u,.row (aD .i64) true s.status,.row aA false s.value,.row aH false s.items,.aG aM false s.stack] [] [sA fw false r]:=by
 unfold rk at h;obtain⟨x1,hmk,h⟩:=bind_some h;obtain⟨y,hl,h⟩:=bind_some h;refine⟨en106,fun X w H ν l hν hS hl'=>?_⟩;have h0:St (FX X w H ν) ⟨8,eu 0 [.box [(lI .i64 s.n),.ap 1 aE false s.known,.ap 2 aJ false s.steps,.own 3,.own 4,.own 5,.own 6,.ap 7 aM false s.stack],.aG aE false s.known,.aG aJ false s.steps,.row (aV aA) false s.u,.row (aD .i64) true s.status,.row aA false s.value,.row aH false s.items,.aG aM false s.stack],o7 0 [.lf (.ptr 0 0)]⟩ (kJ l) w:=
  ⟨ν,hν,bK _,fun _ _=>rfl,hS,Bv 0 hl' (fun i v hi=>by rw[eK];simp[kJ,hi])⟩
 have hA:St (FX X w H ν) (LA s) (kJ l) w:=St.pA (Vw.st (.comp (fa 0 1) (.comp (fa 0 2) (.comp (dE 3 [] [0]) (.comp (dE 4 [] [0]) (.comp (dE 5 [] [0]) (.comp (dE 6 [] [0]) (fa 0 7))))))) h0) [0,1,2,3,4,5,6,7] rfl rfl rfl rfl;refine Qi (n:=66) Tryz.func106 rfl rfl (by rw[hl'.length];decide) ?_;refine Aw.seq3 (J:=fun e w'=>St (FX X w H ν) (LY s OZ y) e w') ?pre fun e1 w1 g1=>?_
 case pre=>
  refine(Gs.ok (F:=FX X w H ν) (tb:=rY) (L:=LA s) ?_).ok _ _ hA;refine gP aA (bq hmk) fun x1' h=>?_;cases h;refine bk ?_;refine lp (fun⟨y21,x22⟩=>cH 12 [some (.box [(lI .i64 s.n),(.ro aE false s.known),(.ro aJ false s.steps),(.ro (aV aA) false s.u),(.ro (aD .i64) true s.status),(.ro aA false s.value),(.ro aH false s.items),(.ro aM false s.stack)]),none,none,none,none,none,none,none,some (.box [(.ptr 0 0)]),some (.box [(lI .i64 0),lN,lN,lN,(lB false),lN,lN,(lI .i64 0)]),some (.box [(.own 11)]),some (.row aA false y21)] [vp 0 0,vp 1 8,vp 2 9,vp 3 10,vi 15 (List.length x1:Int),vi 16 x22]) hl [0,1,2,3,4,5,6,7,8,9,11,10] ?_;rintro⟨y21,x22⟩ oo h hd48;rw[By]at h;refine cd h (fun hc51 h=>?_) (fun hc51 h=>?_)
  ·
   refine jn (fun x=>x) (fun y58=>cH 12 [some (.box [(lI .i64 s.n),(.ro aE false s.known),(.ro aJ false s.steps),(.ro (aV aA) false s.u),(.ro (aD .i64) true s.status),(.ro aA false s.value),(.ro aH false s.items),(.ro aM false s.stack)]),none,none,none,none,none,none,none,some (.box [(.ptr 0 0)]),some (.box [(lI .i64 0),lN,lN,lN,(lB false),lN,lN,(lI .i64 0)]),some (.box [(.own 11)]),some (.row aA false y58)] [vp 0 0,vp 1 8,vp 2 9,vp 3 10,vi 15 (List.length x1:Int),vi 16 x22]) h (fun s59 h g60=>?_) ?_
   ·
    refine bk ?_;refine bF h fun x61 h=>?_;refine cd h (fun hc62 h=>?_) (fun hc62 h=>?_)
    ·
     refine dr mixed ?_;refine bF h fun x63 h=>?_;refine cy h fun x64 h=>?_;refine dW false h fun x65 h=>?_;refine dk ?_;cases h;exact bj _ [0,1,2,3,4,5,6,7,8,9,10,11]
    ·
     cases h;exact bj _ [0,1,2,3,4,5,6,7,8,9,10,11]
   ·
    intro y58 h
    try dsimp only at h
    cases h;exact bl [0,1,2,3,4,5,6,7,8,9,10,11]
  ·
   cases h;cases hd48 _ rfl;exact tO _ [0,1,2,3,4,5,6,7,8,9,10,11]
 clear hA h0 hl hmk;exact OY N s r y h g1
end Go.Proofs.YtipdkfmhfakbnaaGreatDoor.OB

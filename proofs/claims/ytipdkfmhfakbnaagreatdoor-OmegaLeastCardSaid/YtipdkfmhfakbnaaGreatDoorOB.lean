/- (*state).back: the values of the coordinates are chosen, those that were eliminated last first; its body holds a loop over slices.Backward. -/
import Derived.Test.YtipdkfmhfakbnaaGreatDoorBK
import Derived.Test.YtipdkfmhfakbnaaGreatDoorAf
import Derived.Test.YtipdkfmhfakbnaaGreatDoorAg
import Derived.Test.YtipdkfmhfakbnaaGreatDoorSW
set_option linter.unusedVariables false
set_option linter.unusedSimpArgs false
set_option linter.unusedSectionVars false
set_option maxRecDepth 100000
set_option maxHeartbeats 4000000
namespace Go.Proofs.YtipdkfmhfakbnaaGreatDoor.OB
open Go Go.RowKit Go.X Go.Q Go.D Go.Proofs.YtipdkfmhfakbnaaGreatDoor.TB Go.Proofs.YtipdkfmhfakbnaaGreatDoor.BK Go.Proofs.YtipdkfmhfakbnaaGreatDoor.SW
theorem ti97:TI Tryz.prog 97 1 8 (.pointer none):=TI.mk (by kernel_rfl)
abbrev se:List (dU Tryz.prog):=⟨97,_,_,_,_,Tryz.underlying97,ti97⟩::tb
abbrev SB(s:aS)(κ:Bool):List Lf:=[(lI .i64 s.n),(.ro aR false s.aA),(.ro bC false s.aU),(.ro (bN aD) false s.u),(.ro (aF .i64) κ s.aN),(.ro aD false s.value),(.ro aP false s.aB),(.ro bH false s.aK)]
abbrev OZ:List Lf:=[(lI .i64 0),lN,lN,lN,(lB false),lN,lN,(lI .i64 0)]
theorem en106:Go.X.Enters Tryz.prog 106:=⟨Tryz.f106,Tryz.func106,by kernel_rfl,by kernel_rfl⟩
abbrev LA(s:aS):SS:=cW 8 [some (.box (SB s true)),none,none,none,none,none,none,none] [vp 0 0]
abbrev LY(s:aS)(o:List Lf)(y:List aC):SS:=cW 12 [some (.box (SB s false)),none,none,none,none,none,none,none,some (.box [(.ptr 0 0)]),some (.box o),some (.box [(.own 11)]),some (.row aD false y)] [vp 1 8,vp 2 9,vp 3 10]
abbrev FX(X:Nat->Prop)(w:World)(H:Bool->Hp)(ν:Nu):Fx:=⟨66,λ_ _=>False,X,w,H,8,ν⟩
noncomputable def Ca:Code:=match Tryz.f106.body with|some (.seq _ (.seq _ (.seq _ c)))=>c|_=>.skip
noncomputable def cRf:Code:=match Ca with|.seq (.seq _ (.block _ c)) _=>c|_=>.skip
noncomputable def cAs:Code:=match cRf with|.rangeFunc _ _ a _=>a|_=>.skip
noncomputable def Lt:Code:=match cRf with|.rangeFunc _ _ _ b=>b|_=>.skip
noncomputable def cEnd:Code:=match Ca with|.seq _ c=>c|_=>.skip
def QQ(X:Nat->Prop)(w:World)(H:Bool->Hp)(ν:Nu)(r:cz):Exit->Act->World->Prop:=λx a' w'=>(x=.normal\/x=.ret)/\∃D,a'.defers=[sb D]/\w'.heap[D]?=some (.deferred (some []))/\∃v,(results Tryz.f106 a'.tmps).run Tryz.prog (w'.putObj D (.deferred none))=.ok v (w'.putObj D (.deferred none))/\∃vs,Ending.returned v=.returned (jC vs)/\yX X w H ν 8 [] [sA fK false r] vs (w'.putObj D (.deferred none))
def km(X:Nat->Prop)(w:World)(H:Bool->Hp)(ν:Nu)(Hf:Bool->Hp)(B:Nat)(eA:Env)(L:SS)(W:World):Prop:= ∃ν',(∀k,12<=k->ν' k=none)/\(∀k,k<8->ν' k=ν k)/\cY X w H ν' (aT L.bI) W/\dI ν' (HF X w H ν' (aT L.bI) W) (aT L.bX) eA/\(∀κ,Le (Hf κ) (HF X w H ν' (aT L.bI) W κ))/\∀b,Ow ν' (aT L.bI) b->b<B
theorem Bg{s:aS}{o:List Lf}{y:List aC}:∀i ob,aT (LY s o y).bI i=some ob->xX ob=true:=by
 intro i ob h;rcases i with _|_|_|_|_|_|_|_|_|_|_|_|i<;>first|(cases h;rfl)|cases h
theorem slLY{s:aS}{o:List Lf}{y:List aC}{ν:Nu}{H:Bool->Hp}{e e':Env}(h:dI ν H (aT (LY s o y).bX) e)(h1:e' 1=e 1)(h2:e' 2=e 2)(h3:e' 3=e 3):dI ν H (aT (LY s o y).bX) e':=by
 intro t sv ht;rcases t with _|_|_|_|t
 . cases ht
 . rw[h1];exact h _ _ ht
 . rw[h2];exact h _ _ ht
 . rw[h3];exact h _ _ ht
 . cases ht
theorem km.on{X:Nat->Prop}{w:World}{H:Bool->Hp}{ν:Nu}{Hf:Bool->Hp}{B:Nat}{eA:Env}{s:aS}{o:List Lf}{y:List aC}{W W':World}(h:km X w H ν Hf B eA (LY s o y) W)
 (h1:W'.os=W.os)(h2:W'.tape=W.tape)(h3:W'.output=W.output)(h4:W.heap.size<=W'.heap.size)(h5:∀k,k<w.heap.size->W'.heap[k]?=W.heap[k]?)(h6:∀(k:Nat) (o:Obj),kY (W.heap[k]?)=some o->W'.heap[k]?=some o):km X w H ν Hf B eA (LY s o y) W':=by
 obtain⟨ν',g1,g2,g3,g4,g5,g6⟩:=h;obtain⟨k1,k2⟩:=g3.on Bg h1 h2 h3 h4 (λk hk _=>h5 k hk) h6;exact⟨ν',g1,g2,k1,g4.mono (fk.refl _) k2,λκ=>(g5 κ).trans (k2 κ),g6⟩
theorem Fe{W:World}{l:Nat}{ob:Obj}(hl:W.heap[l]?=some ob)(hc:ob.isCells=false)(o':Obj):∀(k:Nat) (o:Obj),kY (W.heap[k]?)=some o->(W.putObj l o').heap[k]?=some o:=by
 intro k o h;by_cases e:k=l
 . subst e;rw[hl]at h;cases ob<;>first|(simp[Obj.isCells]at hc;done)|(cases h;done)
 . rw[World.putObj_heap_other e];exact mZ h
abbrev jU:List Nat:=[0,8,9,10,11]
abbrev j6(s:aS)(o:List Lf)(y:List aC):List Ob:=[.box (SB s false),.box [.ptr 0 0],.box o,.box [.own 4],.row aD false y]
noncomputable abbrev FR(X:Nat->Prop)(w:World)(H:Bool->Hp)(ν':Nu)(L:SS)(W:World):Fx:=⟨66,λ_ _=>False,Xc ν' jU,W,Hc (some false) (HF X w H ν' (aT L.bI) W) (Xc ν' jU) W,5,ez ν' jU⟩
theorem yg{s:aS}{y:List aC}:jw (some false) (aT (LY s OZ y).bI) jU jU (j6 s OZ y)=some (j6 s OZ y):=by rfl
theorem I0{X:Nat->Prop}{w:World}{H:Bool->Hp}{ν':Nu}{eA:Env}{s:aS}{y:List aC}{W:World}(hS:cY X w H ν' (aT (LY s OZ y).bI) W)(hs:dI ν' (HF X w H ν' (aT (LY s OZ y).bI) W) (aT (LY s OZ y).bX) eA){e':Env}(h1:e' 1=eA 1)(h2:e' 2=eA 2)(h3:e' 3=eA 3)
 (ex:List (Nat×Option Sv))(hex:dI (ez ν' jU) (HF (Xc ν' jU) W (Hc (some false) (HF X w H ν' (aT (LY s OZ y).bI) W) (Xc ν' jU) W) (ez ν' jU) (aT (eQ 0 (j6 s OZ y))) W) (aT ex) e'):
 St (FR X w H ν' (LY s OZ y) W) ⟨5,eQ 0 (j6 s OZ y),ex++[vp 1 1,vp 2 2,vp 3 3]⟩ e' W:=by
 have hin:=hS.Ax (md:=some false) (is:=jU) rfl yg;refine⟨ez ν' jU,λk hk=>by rw[qI,gr (by simpa using hk)];rfl,bO _,λ_ _=>rfl,hin,?_⟩;rw[show aT (ex++[vp 1 1,vp 2 2,vp 3 3])=bQ ex (aT [vp 1 1,vp 2 2,vp 3 3]) from by funext t;exact qK _ _ _];refine dI.ap ?_ hex;intro t sv ht;rcases t with _|_|_|_|t
 . cases ht
 . cases ht;obtain⟨b,c,q1,q2⟩:=hs 1 _ rfl;exact⟨b,c,q1,h1.trans q2⟩
 . cases ht;obtain⟨b,c,q1,q2⟩:=hs 2 _ rfl;exact⟨b,c,q1,h2.trans q2⟩
 . cases ht;obtain⟨b,c,q1,q2⟩:=hs 3 _ rfl;exact⟨b,c,q1,h3.trans q2⟩
 . cases ht
theorem D2{X:Nat->Prop}{w:World}{H:Bool->Hp}{ν ν':Nu}{Hf:Bool->Hp}{B:Nat}{eA e'':Env}{s:aS}{y y':List aC}{o:List Lf}{W W':World}(n1:∀k,12<=k->ν' k=none)(p1:∀k,k<8->ν' k=ν k)(hS:cY X w H ν' (aT (LY s OZ y).bI) W)(hs:dI ν' (HF X w H ν' (aT (LY s OZ y).bI) W) (aT (LY s OZ y).bX) eA)
 (hf:∀κ,Le (Hf κ) (HF X w H ν' (aT (LY s OZ y).bI) W κ))(hb:∀b,Ow ν' (aT (LY s OZ y).bI) b->b<B){sl:List (Nat×Option Sv)}(h:St (FR X w H ν' (LY s OZ y) W) ⟨5,eQ 0 (j6 s o y'),sl⟩ e'' W')
 (h1:oC (some false) 5 (eQ 0 (j6 s o y'))=true:=by rfl)(ho:o.map (tW (some false) jU 12)=o:=by rfl):
 km X w H ν Hf B eA (LY s o y') W'/\W.heap.size<=W'.heap.size/\∀(k:Nat) (ob:Obj),W.heap[k]?=some ob->ob.isCells=false->W'.heap[k]?=some ob:=by
 obtain⟨ν'',n2,_,p2,S2,_⟩:=h;obtain⟨ν2,r1,r2,r3,_,_⟩:=Cg (some false) jU 0 12 (e:=eA) (rs:=[]) (vs:=[]) (out:=eQ 0 (j6 s o y')) hS (sU yg) rfl h1 rfl rfl (λk hk hk'=>by omega) (λk hk=>p2 k hk) S2 rfl;have hE:bQ (fw (some false) jU 12 (eQ 0 (j6 s o y'))++iz jU) (aT (LY s OZ y).bI)=aT (LY s o y').bI:=by
  funext t;rcases t with _|_|_|_|_|_|_|_|_|_|_|_|t<;>first|rfl|(show some (Ob.box (o.map (tW (some false) jU 12)))=some (Ob.box o);rw[ho])
 rw[hE]at r2 r3;have hν:∀k,ν2 k=ν' k:=λk=>r1 k (by omega);refine⟨⟨ν2,λk hk=>(hν k).trans (n1 k hk),λk hk=>(hν k).trans (p1 k hk),r2,hs.mono (λi x hx=>(hν i).trans hx) r3,λκ=>(hf κ).trans (r3 κ),λb hb'=>hb b (Sa (λi ob hi=>⟨Bg i ob hi,?_⟩) hν hb')⟩,S2.size,λk ob hk hc=>?_⟩
 . rcases i with _|_|_|_|_|_|_|_|_|_|_|_|i<;>first|exact⟨_,rfl⟩|cases hi
 . refine(S2.keep k (kK hk) ?_).trans hk;rintro⟨i,hi,hbk⟩;obtain⟨oi,hoi⟩:=sU (yg (s:=s) (y:=y)) i hi;obtain⟨b,c,n,kk,q1,q2,q3⟩:=hS.de i oi hoi;obtain⟨l,rfl⟩:=MA (Bg i oi hoi) q3;rw[eT q1]at hbk;subst hbk;obtain⟨t,lo,hi',k1,_⟩:=q2;rw[k1]at hk;cases hk;cases hc
theorem Lb{X:Nat->Prop}{w:World}{H:Bool->Hp}{ν:Nu}{r:cz}{Hf:Bool->Hp}{B:Nat}{eA:Env}{s:aS}{o:List Lf}{y:List aC}{W:World}{D:Nat}{ac:Act}(hS:km X w H ν Hf B eA (LY s o y) W)(hB:w.heap.size<=B)(hD:B<=D)(hK:W.heap[D]?=some (.deferred (some [])))
 (h2:ac.defers=[sb D])(h3:db ac=eA)(hr:uD se ⟨66,QR Tryz.prog [.cell 2 75] X w H ν 8 [] [sA fK false r],X,w,H,8,ν⟩ (LY s o y)):QQ X w H ν r .ret ac W:=by
 have hS':=hS.on (W':=W.putObj D (.deferred none)) rfl rfl rfl (by simp) (λk hk=>World.putObj_heap_other (by omega)) (Fe hK rfl _);obtain⟨ν',g1,g2,g3,g4,g5,g6⟩:=hS';obtain⟨vs,r1,r2⟩:=hr.ok eA (W.putObj D (.deferred none)) ⟨ν',g1,(by show 8<=12;omega),g2,g3,g4⟩;exact⟨.inr rfl,D,h2,hK,jC vs,R9 rfl (λi=>by rw[<-h3];rfl) r1,vs,rfl,r2⟩
theorem env_c{X:Nat->Prop}{w:World}{H:Bool->Hp}{ν':Nu}{eA e'':Env}{s:aS}{y y':List aC}{o:List Lf}{W W':World}(hs:dI ν' (HF X w H ν' (aT (LY s OZ y).bI) W) (aT (LY s OZ y).bX) eA)(h:St (FR X w H ν' (LY s OZ y) W) ⟨5,eQ 0 (j6 s o y'),[vp 1 1,vp 2 2,vp 3 3]⟩ e'' W'):
 e'' 1=eA 1/\e'' 2=eA 2/\e'' 3=eA 3:=by
 obtain⟨ν'',n2,_,p2,S2,s2⟩:=h;have key:∀(t i j:Nat),(∃b c,ν'' i=some (some b,c)/\e'' t=.pointer (some ⟨b,0,none⟩))->ν'' i=ν' j->(∃b c,ν' j=some (some b,c)/\eA t=.pointer (some ⟨b,0,none⟩))->e'' t=eA t:=by
  rintro t i j ⟨b,c,q1,q2⟩ hij ⟨b',c',q3,q4⟩;rw[hij,q3]at q1;cases q1;rw[q2,q4]
 exact⟨key 1 1 8 (s2 1 _ rfl) (p2 1 (by show 1<5;omega)) (hs 1 _ rfl),key 2 2 9 (s2 2 _ rfl) (p2 2 (by show 2<5;omega)) (hs 2 _ rfl),key 3 3 10 (s2 3 _ rfl) (p2 3 (by show 3<5;omega)) (hs 3 _ rfl)⟩
theorem end_c(N:Nat)(s:aS)(y xr:List aC)(hx:qJ N s y=some xr){X:Nat->Prop}{w:World}{H:Bool->Hp}{ν:Nu}{Hf:Bool->Hp}{B:Nat}{eA:Env}{W:World}{D:Nat}(hS:km X w H ν Hf B eA (LY s OZ y) W)(hB:w.heap.size<=B)(hD:B<=D)(hK:W.heap[D]?=some (.deferred (some [])))
 (ac:Act)(h1:ac.tmps.size=66)(h2:ac.defers=[sb D])(h3:db ac=eA):cEnd.wpIn Fence.wide 5 Tryz.prog (QQ X w H ν (cz.mk 0 xr (Proof.mk [] [] (aC.mk false []) []) 0)) ac W:=by
 obtain⟨ν',n1,p1,S1,s1,f1,b1⟩:=hS;have hL:=I0 S1 s1 (e':=eA) rfl rfl rfl [] (λt sv ht=>by cases ht);have main:Cw none [sb D] Tryz.prog 66 cEnd (λx e W'=>x=.ret/\St (FR X w H ν' (LY s OZ y) W) ⟨5,eQ 0 (j6 s [lI .i64 0,.ro aD true xr,lN,lN,lB false,lN,lN,lI .i64 0] y),[vp 1 1,vp 2 2,vp 3 3]⟩ e W') eA W:=by
  refine Cw.seq (K:=λe W'=>St (FR X w H ν' (LY s OZ y) W) ⟨5,eQ 0 (j6 s [lI .i64 0,.ro aD true xr,lN,lN,lB false,lN,lN,lI .i64 0] y),[vp 1 1,vp 2 2,vp 3 3]⟩ e W') ?_ (λe W' h=>Cw.ret ⟨rfl,h⟩);refine xo (F:=FR X w H ν' (LY s OZ y) W) (tb:=se) ?_ hL (λe w h=>h);refine fp (some false) [0,4] (bq hx) (Sy N _ _) λx' h=>?_;cases h;exact vN _ [0,1,2,3,4]
 refine wpIn_mono (main 5 ac h1 h2 h3) ?_;rintro x a' W' ⟨k1,k2,rfl,k4⟩;obtain⟨v1,v2,v3⟩:=env_c s1 k4;obtain⟨⟨ν2,g1,g2,g3,g4,g5,g6⟩,q1,q2⟩:=D2 n1 p1 S1 s1 f1 b1 k4;exact Lb (eA:=db a') (Hf:=Hf) (B:=B) ⟨ν2,g1,g2,g3,slLY g4 v1 v2 v3,g5,g6⟩ hB hD (q2 D _ hK rfl) k2 rfl (rt [0,1,2,3,4,5,6,7])
theorem Fj{N:Nat}{s:aS}:∀{l1 l2:List dW} {y y':List aC},iD N s l1 y=some (.inl y')->iD N s (l1++l2) y=iD N s l2 y'
 |[],_,_,_,h=>by cases h;rfl
 |e::l1,l2,y,y',h=>by
  simp only[iD,CZ]at h⊢;obtain⟨⟨n,ok⟩,h1,h2⟩:=bind_some h;rw[h1];show(if ok=true then _ else _)=_;cases ok with
  |false=>cases h2
  |true=>
   have h2:(dM y e.v n).bind (iD N s l1)=some (.inl y'):=h2;obtain⟨z,h3,h4⟩:=bind_some h2;rw[h3];exact Fj h4
theorem Mh{N:Nat}{s:aS}:∀{l1 l2:List dW} {y:List aC} {v:Int},iD N s l1 y=some (.inr v)->iD N s (l1++l2) y=some (.inr v)
 |[],_,_,_,h=>by cases h
 |e::l1,l2,y,v,h=>by
  simp only[iD,CZ]at h⊢;obtain⟨⟨n,ok⟩,h1,h2⟩:=bind_some h;rw[h1];show(if ok=true then _ else _)=_;cases ok with
  |false=>exact h2
  |true=>
   have h2:(dM y e.v n).bind (iD N s l1)=some (.inr v):=h2;obtain⟨z,h3,h4⟩:=bind_some h2;rw[h3];exact Mh h4
theorem D9(l:List dW):∀(k:Nat) (h:k<=l.length),(rest l.length k h).map (λk=>l[k])=(l.take k).reverse
 |0,_=>by simp[rest]
 |k+1,h=>by
  have hk:k<l.length:=h;rw[rest,kz,D9 l k (C2 hk),qu hk,Oa];rfl
theorem T4{H:Hp}{b:Nat}{vs:List Value}{t:TypeId}{fr:Nat×Nat}(h:H b=some (.cells vs.toArray t fr)):At H b 0 vs:=by
 intro i hi;simp[lU,h]
theorem LK{X:Nat->Prop}{w:World}{H:Bool->Hp}{ν:Nu}{Hf:Bool->Hp}{B:Nat}{eA:Env}{s:aS}{o:List Lf}{y:List aC}(hB:w.heap.size<=B){W W':World}{row:Option Nat}(h:km X w H ν Hf B eA (LY s o y) W)(hg:W.grownBy W' row)(hr:∀r,row=some r->B<=r/\∃o:Obj,W.heap[r]?=some o/\o.isCells=false):km X w H ν Hf B eA (LY s o y) W':=by
 have hlt:∀k,k<w.heap.size->k<W.heap.size:=λk hk=>by obtain⟨_,_,_,h3,_⟩:=h;exact CW hk h3.size
 refine h.on hg.os hg.tape hg.output hg.size (λk hk=>hg.block k (hlt k hk) (λe=>by have:=(hr k e.symm).1;omega)) (λk o ho=>(hg.block k (kK (mZ ho)) (λe=>?_)).trans (mZ ho));obtain⟨_,o',h1,h2⟩:=hr k e.symm;rw[h1]at ho;cases o'<;>first|(simp[Obj.isCells]at h2;done)|(cases ho;done)
theorem Sq(N:Nat)(s:aS)(y:List aC)(hlen:s.aK.length<=9223372036854775807)(hok:oE N s s.aK.length y=true){res:List aC⊕Int}(hres:iD N s s.aK.reverse y=some res){X:Nat->Prop}{w:World}{H:Bool->Hp}{ν:Nu}{e2:Env}{W:World}{Bs:Nat}{a:Option Addr}{cap:Nat}
    {Hf:Bool->Hp}(hS:km X w H ν Hf W.heap.size e2 (LY s OZ y) W)(h42:e2 42=.func (.func 158) #[] #[.pointer (some ⟨Bs,0,none⟩)]) (hBs:At (Hf false) Bs 0 [.slice a s.aK.length cap]) (hst:∀k:Fin s.aK.length,∃b o vs,a=some ⟨b,o,none⟩/\At (Hf false) b (o+k*3) vs/\bH.R (Hf false) vs s.aK[k])
    {m:Nat} (hm:2<=m) (ac:Act) (h1:ac.tmps.size=66) (h2:ac.defers=[]) (h3:db ac=e2) {QR':Exit->Act->World->Prop}
    (hQ:∀D W',(W.heap.size<=D)->W'.heap[D]?=some (.deferred (some []))->(match(motive:=List aC⊕Int->Prop) res with|.inl y'=>km X w H ν Hf W.heap.size e2 (LY s OZ y') W'->QR' .normal {ac with defers:=[sb D]} W'|.inr v=>∀y',km X w H ν Hf W.heap.size e2 (LY s [(lI .i64 2),lN,lN,lN,(lB false),lN,lN,(lI .i64 v)] y') W'->QR' .ret {ac with defers:=[sb D]} W')):
    (Code.rangeFunc (.tmp 42) #[43,44] cAs Lt).wpIn Fence.wide m Tryz.prog QR' ac W:=by
  have hBw:w.heap.size<=W.heap.size:=by obtain⟨_,_,_,h3,_⟩:=hS;exact h3.size
  have hst':∀k:Fin s.aK.length,∃vs,(∃b o,a=some ⟨b,o,none⟩/\At (Hf false) b (o+k*3) vs)/\bH.R (Hf false) vs s.aK[k]:=λk=>by obtain⟨b,o,vs,q1,q2,q3⟩:=hst k;exact⟨vs,⟨b,o,q1,q2⟩,q3⟩
  obtain⟨vsf,hvs⟩:∃vsf:Fin s.aK.length->List Value,∀k:Fin s.aK.length,(∃b o,a=some ⟨b,o,none⟩/\At (Hf false) b (o+k*3) (vsf k))/\bH.R (Hf false) (vsf k) s.aK[k]:=⟨λk=>Classical.choose (hst' k),λk=>zq (hst' k)⟩;have gi:∀{o:List Lf} {y':List aC} {W':World},km X w H ν Hf W.heap.size e2 (LY s o y') W'->BK.Good a cap vsf Bs W':=λh=>by
    obtain⟨ν',_,_,g3,_,g5,_⟩:=h;have le:=(g5 false).trans (g3.view false);exact⟨hBs.mono le,λk=>by obtain⟨⟨b,o,q1,q2⟩,_⟩:=hvs k;exact⟨b,o,q1,q2.mono le⟩⟩
  have hseq:=R6 a cap vsf Bs (λk=>bH.len _ _ _ (hvs k).2) hlen (m-1) (by omega) W (gi hS);refine wpIn_rangeFunc_ownH (F:=Fence.wide) (n:=m) rfl (by omega) (gf:=158) (lb:=#[.pointer (some ⟨Bs,0,none⟩)]) (by rw[<-sf,h3];exact h42) trivial (λargs w=>GX ⟨Tryz.f158,Tryz.func158,by kernel_rfl,by kernel_rfl⟩ args) hseq (λh k g=>k (h g)) ?_ (Below.refl _ _) (λx=>rfl)
    (λ(pre:List (Fin s.aK.length)) W'=>∃y',iD N s (pre.map λk=>s.aK[k]) y=some (.inl y')/\oE N s (s.aK.length-pre.length) y'=true/\km X w H ν Hf W.heap.size e2 (LY s OZ y') W'/\W.heap.size<=W'.heap.size)
    (λc (pre:List (Fin s.aK.length)) W'=>c=.ret/\∃v,iD N s (pre.map λk=>s.aK[k]) y=some (.inr v)/\∃y',km X w H ν Hf W.heap.size e2 (LY s [(lI .i64 2),lN,lN,lN,(lB false),lN,lN,(lI .i64 v)] y') W')
    ?_ ?_ ⟨y,rfl,hok,hS,bO _⟩
    (λ(x:Fin s.aK.length) a' W'=>a'.tmps.size=66/\a'.defers=[]/\db a' 1=e2 1/\db a' 2=e2 2/\db a' 3=e2 3/\∃Bx t fr,W.heap.size<=Bx/\db a' 6=.pointer (some ⟨Bx,0,none⟩)/\W'.heap[Bx]?=some (.cells (vsf x).toArray t fr))
    ?_ ?assign ?body ?done ?stop
  . intro W' l o o' hl hl' hc _ g;exact⟨J9 (Fe hl' hc o') g.1,λk=>by obtain⟨b,o,q1,q2⟩:=g.2 k;exact⟨b,o,q1,J9 (Fe hl' hc _) q2⟩⟩
  . rintro pre W1 W2 row ⟨y',q1,q2,q3,q4⟩ hg hr;exact⟨y',q1,q2,LK hBw q3 hg hr,bU q4 hg.size⟩
  . rintro c pre W1 W2 row ⟨hc,v,q1,y',q2⟩ hg hr;exact⟨hc,v,q1,y',LK hBw q2 hg hr⟩
  . rintro x a' _ W1 W2 row ⟨z1,z2,z3,z4,z5,Bx,t,fr,z6,z7,z8⟩ hg hr;refine⟨z1,z2,z3,z4,z5,Bx,t,fr,z6,z7,(hg.block Bx (kK z8) (λe=>?_)).trans z8⟩;obtain⟨_,o',k1,k2⟩:=hr Bx e.symm;rw[k1]at z8;cases z8;cases k2
  case assign=>
    intro l pre x W1 K hI hK;obtain⟨y',q1,q2,q3,q4⟩:=hI;have hz:(#[43,44].zip #[Value.int .i64 ((x.1:Nat):Int),.agg (vsf x).toArray]).foldl (λt (p,v)=>t.setIfInBounds p v) ac.tmps=(ac.tmps.setIfInBounds 43 (.int .i64 ((x.1:Nat):Int))).setIfInBounds 44 (.agg (vsf x).toArray):=by simp
    rw[hz];show cAs.wpIn (oD (some l)) (m-1-1) Tryz.prog (Exit.then K λ_ _ _=>False) {tmps:=(ac.tmps.setIfInBounds 43 (.int .i64 ((x.1:Nat):Int))).setIfInBounds 44 (.agg (vsf x).toArray),defers:=[]} W1;have b3:db {tmps:=(ac.tmps.setIfInBounds 43 (.int .i64 ((x.1:Nat):Int))).setIfInBounds 44 (.agg (vsf x).toArray),defers:=[]}=cS (cS e2 43 (.int .i64 ((x.1:Nat):Int))) 44 (.agg (vsf x).toArray):=
      (vc (ac.put (some 43) (.int .i64 ((x.1:Nat):Int))) (n:=66) (by rw[pz];exact h1) (by omega) (.agg (vsf x).toArray)).trans (by rw[vc ac h1 (by omega),h3])
    generalize hT:(ac.tmps.setIfInBounds 43 (.int .i64 ((x.1:Nat):Int))).setIfInBounds 44 (.agg (vsf x).toArray)=T at b3⊢;have b1:T.size=66:=by rw[<-hT];simpa using h1
    have hl3:(vsf x).length=3:=bH.len _ _ _ (hvs x).2;refine wpIn_region_lit ?_;refine oH (rd:=some l) (n:=66) b1 rfl (aG.alloc wX rfl (oc (w:=W1)) λb w1 hL1 _ a2 c1 c2 c3=>?_);refine oH (rd:=some l) (n:=66) c1 c2 (aG.store (v:=.agg (vsf x).toArray) (vs:=vsf x) wX (by rw[c3];rfl) (by rw[c3];show db _ 44=_;rw[b3];rfl) rfl hl3 (bH.one _ _ _ (hvs x).2) hL1 0 rfl rfl (by rw[hl3];exact bO _) λw2 hL2 _ a3 d1 d2 d3=>?_);have hput:putAt [Value.int .i64 0,.slice none 0 0,.bool false] 0 (vsf x)=vsf x:=by rw[yS _ _ _ (by rw[hl3];exact bO _),hl3];simp
    have hS3:km X w H ν Hf W.heap.size e2 (LY s OZ y') w2:=q3.on hL2.os hL2.tape hL2.output hL2.size (λk hk=>hL2.keep k (by omega) (by simp)) (λk o ho=>(hL2.keep k (kK (mZ ho)) (by simp)).trans (mZ ho));have hown:dN w2 (some b) (.cells (vsf x)):=by
      have:=hL2.own.1;rw[show putAt _ 0 (vsf x)=vsf x from hput]at this;exact this
    obtain⟨t,lo,hi,k1,_,_⟩:=hown;have hbf:W1.heap.size<=b:=by
      rcases hL2.fresh b (by simp)with h|h
      . cases h
      . exact h
    have he:db a3=cS (cS (cS e2 43 (.int .i64 ((x.1:Nat):Int))) 44 (.agg (vsf x).toArray)) 6 (.pointer (some ⟨b,0,none⟩)):=by rw[d3,<-b3];exact c3
    exact hK a3 w2 ⟨hL2.size,λk o _ hk _=>(hL2.keep k (kK hk) (by simp)).trans hk⟩ (λ_=>gi hS3) ⟨y',q1,q2,hS3,bU q4 hL2.size⟩ ⟨d1,d2,by rw[he];rfl,by rw[he];rfl,by rw[he];rfl,b,t,(lo,hi),by omega,by rw[he];rfl,k1⟩
  case body=>
    rintro l pre x a' W1 hl ⟨rr,hrr⟩ ⟨y',q1,q2,q3,q4⟩ ⟨z1,z2,z3,z4,z5,Bx,t,fr,z6,z7,z8⟩ hlt;have hR:=(hvs x).2;have hmem:s.aK[x]∈s.aK:=dJ _;have hpm:(pre++[x]).map (λk:Fin s.aK.length=>s.aK[k])=pre.map (λk:Fin s.aK.length=>s.aK[k])++[s.aK[x]]:=by simp
    generalize s.aK[x]=el at hR hmem hpm;obtain⟨k,hk⟩:∃k,s.aK.length-pre.length=k+1:=⟨s.aK.length-pre.length-1,by omega⟩;rw[hk]at q2;have q2:=tY.1 (show(s.aK.all _)=true from q2) el hmem;cases hb:oB N s el y' with
    |none=>rw[hb]at q2;cases q2
    |some nb=>
    obtain⟨nv,ok⟩:=nb;rw[hb]at q2;obtain⟨ν',n1,p1,S1,s1,f1,b1⟩:=q3;have hnx:¬Xc ν' jU Bx:=λh=>by
      have:=b1 Bx (Ae (sU (yg (s:=s) (y:=y'))) h);omega
    have hL:=I0 S1 s1 z3 z4 z5 [(6,some (.pr false (aM.cl bH false el) 0))] (by
      intro t' sv ht;have ht:(bif Nat.beq t' 6 then some (Sv.pr false (aM.cl bH false el) 0)else none)=some sv:=ht;cases h6:Nat.beq t' 6 with
      |false=>rw[h6]at ht;cases ht
      |true=>
        rw[h6]at ht;cases ht;obtain rfl:=dV h6;refine⟨Bx,0,vsf x,z7,T4 (t:=t) (fr:=fr) ?_,aM.op (bH.mono _ _ _ _ ((f1 false).trans (re (md:=some false) S1 (sU (yg (s:=s) (y:=y'))) false)) hR)⟩;refine(om (kK z8) hnx).trans ?_;exact lL (.inr (by omega)) (λh=>by have:=b1 Bx h;omega) (by rw[z8];rfl))
    have main:Cw (some l) [] Tryz.prog 66 Lt (λx=>match x with
        |.normal=>λe W2=>ok=true/\∃y'',dM y' el.v nv=some y''/\St (FR X w H ν' (LY s OZ y') W1) ⟨5,eQ 0 (j6 s OZ y''),[vp 1 1,vp 2 2,vp 3 3]⟩ e W2
        |.ret=>λe W2=>ok=false/\St (FR X w H ν' (LY s OZ y') W1) ⟨5,eQ 0 (j6 s [(lI .i64 2),lN,lN,lN,(lB false),lN,lN,(lI .i64 el.v)] y'),[vp 1 1,vp 2 2,vp 3 3]⟩ e W2
        |_=>λ_ _=>False) (db a') W1:=by
      refine Cw.block ?_ (λj e w h=>h);refine Cw.seq (K:=λe W2=>St (FR X w H ν' (LY s OZ y') W1) ⟨6,eQ 0 (j6 s OZ y'++[.box (aM.cl aD true nv)]),[vp 1 1,vp 2 2,vp 3 3,(6,some (.pr false (aM.cl bH false el) 0)),vp 7 5,vb 8 ok]⟩ e W2) ?_ ?_
      . refine xo (F:=FR X w H ν' (LY s OZ y') W1) (tb:=se) ?_ hL (λe w h=>h);refine fp (some false) [0,4] (bq hb) (OU N _ _ _) λr' h=>?_;cases h;exact vN _ [0,1,2,3,4,5]
      rintro e3 W3 g3;refine Cw.seq (K:=λe W2=>ok=true/\St (FR X w H ν' (LY s OZ y') W1) ⟨6,eQ 0 (j6 s OZ y'++[.box (aM.cl aD true nv)]),[vp 1 1,vp 2 2,vp 3 3,(6,some (.pr false (aM.cl bH false el) 0)),vp 7 5,vb 53 (!ok)]⟩ e W2) ?_ ?_
      . refine Cw.seq (K:=λe W2=>St (FR X w H ν' (LY s OZ y') W1) ⟨6,eQ 0 (j6 s OZ y'++[.box (aM.cl aD true nv)]),[vp 1 1,vp 2 2,vp 3 3,(6,some (.pr false (aM.cl bH false el) 0)),vp 7 5,vb 53 (!ok)]⟩ e W2) ?_ ?_
        . refine xo (F:=FR X w H ν' (LY s OZ y') W1) (tb:=se) ?_ g3 (λe w h=>h);exact vN _ [0,1,2,3,4,5]
        . rintro e4 W4 g4;have hc:e4 53=.bool (!ok):=by obtain⟨_,_,_,_,_,ss⟩:=g4;exact(ss 53 _ rfl).1
          refine Cw.cond hc ?_;cases ok with
          |true=>exact Cw.skip ⟨rfl,g4⟩
          |false=>
            refine Cw.seq (K:=λe W2=>St (FR X w H ν' (LY s OZ y') W1) ⟨5,eQ 0 (j6 s [(lI .i64 2),lN,lN,lN,(lB false),lN,lN,(lI .i64 el.v)] y'),[vp 1 1,vp 2 2,vp 3 3]⟩ e W2) ?_ (λe W2 h=>Cw.ret ⟨rfl,h⟩);refine xo (F:=FR X w H ν' (LY s OZ y') W1) (tb:=se) ?_ g4 (λe w h=>h);exact vN _ [0,1,2,3,4]
      . rintro e4 W4 ⟨hok1,g4⟩;subst hok1;have q2:(match dM y' el.v nv with|none=>false|some y=>oE N s k y)=true:=q2;cases hup:dM y' el.v nv with
        |none=>rw[hup]at q2;cases q2
        |some y''=>
        obtain⟨z,hz⟩:∃z,idx y' el.v=some z:=by
          obtain⟨n,r1,r2,_⟩:=EB hup;exact⟨_,by rw[r1];exact Tl r2⟩
        refine xo (F:=FR X w H ν' (LY s OZ y') W1) (tb:=se) ?_ g4 (λe w h=>⟨rfl,y'',rfl,h⟩);refine cK (bq hz) λz' h=>?_;refine eH false (bq hup) λy3 h=>?_;cases h;exact vN _ [0,1,2,3,4]
    refine wpIn_mono (main (m-1-1) a' z1 z2 rfl) ?_;rintro ex a'' W2 ⟨k1,k2,k3⟩;cases ex<;>first|exact k3.elim|skip
    . obtain⟨rfl,y'',hup,g⟩:=k3;obtain⟨hS2,hsz,hkeep⟩:=D2 n1 p1 S1 s1 f1 b1 g;refine⟨⟨hsz,λk o _ hk hc=>hkeep k o hk hc⟩,λ_=>gi hS2,y'',?_,?_,hS2,bU q4 hsz⟩
      . rw[hpm,Fj q1];simp[iD,hb,hup]
      . have q2:(match dM y' el.v nv with|none=>false|some y=>oE N s k y)=true:=q2;rw[hup]at q2;rw[show s.aK.length-(pre++[x]).length=k by simp;omega];exact q2
    . obtain⟨rfl,g⟩:=k3;obtain⟨hS2,hsz,hkeep⟩:=D2 n1 p1 S1 s1 f1 b1 g;refine⟨⟨hsz,λk o _ hk hc=>hkeep k o hk hc⟩,rfl,el.v,?_,y',hS2⟩;rw[hpm,Fj q1];simp[iD,hb]
  case done=>
    rintro D xs W' hD rfl ⟨y',q1,q2,q3,q4⟩ hK;rw[D9 s.aK _ (bO _),uf]at q1;rw[hres]at q1;cases q1;have:=hQ D W' hD hK q3;rw[h2];exact this
  case stop=>
    rintro D c pre W' hD ⟨r',hr'⟩ ⟨rfl,v,q1,y',q2⟩ hK;have e:iD N s s.aK.reverse y=some (.inr v):=by
      rw[<-uf (l:=s.aK),<-D9 s.aK _ (bO _),<-hr',jP];exact Mh q1
    rw[hres]at e;cases e;have:=hQ D W' hD hK y' q2;rw[h2];exact wpIn_ret this
theorem VJ(N:Nat)(s:aS)(r:cz)(y:List aC)(h:(if s.aK.length<=9223372036854775807/\oE N s s.aK.length y=true then
 (iD N s s.aK.reverse y).bind λ
 |.inr v=>some (cz.mk 2 [] (Proof.mk [] [] (aC.mk false []) []) v)
 |.inl y=>(qJ N s y).bind λx=>some (cz.mk 0 x (Proof.mk [] [] (aC.mk false []) []) 0)
 else none)=some r){X:Nat->Prop}{w:World}{H:Bool->Hp}{ν:Nu}{e1:Env}{w1:World}(g1:St (FX X w H ν) (LY s OZ y) e1 w1):Aw Tryz.prog 66 Ca (QQ X w H ν r) e1 w1:=by
 split at h
 rotate_left
 . cases h
 rename_i hg;obtain⟨hlen,hok⟩:=hg;obtain⟨res,hres,h⟩:=bind_some h;obtain⟨ν1,n1,m1,p1,hS,hs⟩:=g1;obtain⟨bb0,c0,n0,k0,q0,qc0,vs0,rfl,lf0⟩:=hS.de 0 _ rfl;obtain⟨a0,_,rfl,h0,a1,_,rfl,hh1,a2,_,rfl,hh2,a3,_,rfl,hh3,a4,_,rfl,hh4,a5,_,rfl,hh5,a6,_,rfl,hh6,a7,_,rfl,hh7,rfl⟩:=lf0;obtain⟨bb8,c8,n8,k8,q8,qc8,vs8,rfl,v8,_,rfl,⟨b0,cc0,q0',rfl⟩,rfl⟩:=hS.de 8 _ rfl;rw[q0]at q0';cases q0';obtain⟨b8,cc8,q8',e11⟩:=hs 1 _ rfl;rw[q8]at q8';cases q8';have at0:=pO (H:=view [] w1) qc0 (λo ho=>vK ho (by simp));have at8:=pO (H:=view [] w1) qc8 (λo ho=>vK ho (by simp));obtain⟨a,cap,rfl,hst⟩:∃a cap,a7=.slice a s.aK.length cap/\∀k:Fin s.aK.length,∃b o vs,a=some ⟨b,o,none⟩/\At (HF X w H ν1 (aT (LY s OZ y).bI) w1 false) b (o+k*3) vs/\bH.R (HF X w H ν1 (aT (LY s OZ y).bI) w1 false) vs s.aK[k]:=by
  rcases(hh7:Rs bH _ a7 s.aK)with⟨⟨oa,rfl⟩,hn⟩|⟨b,o,cap,rfl,_,hxs⟩
  . exact⟨oa,0,by rw[hn];rfl,λ⟨k,hk⟩=>bV (show k<0 by rw[hn]at hk;exact hk) (NV _)⟩
  . refine⟨_,cap,rfl,λk=>?_⟩;obtain⟨vs,_,hA,hR⟩:=hxs k.1 s.aK[k] (cy k.2);exact⟨b,o,vs,rfl,hA,hR⟩
 intro ac ga gb gc
 let w2:=w1.alloc (.cells #[.slice a s.aK.length cap] 103)
 have r8:Cw none [] Tryz.prog 66 (match Ca with|.seq (.seq c _) _=>c|_=>.skip) (GF (λe' w'=>w'=w2/\e' 42=.func (.func 158) #[] #[.pointer (some ⟨w1.heap.size,0,none⟩)]/\e' 1=e1 1/\e' 2=e1 2/\e' 3=e1 3) λ_ _ _=>False) e1 w1:=by
  refine Cw.region (K:=λe' w'=>w'=w2/\e' 42=.func (.func 158) #[] #[.pointer (some ⟨w1.heap.size,0,none⟩)]/\e' 1=e1 1/\e' 2=e1 2/\e' 3=e1 3) ?_ (λe w h=>h);refine Rl.op (aG.zd (A:=[]) Tryz.underlying97 rfl e11 (at8.get 0 rfl) ?_);refine Rl.op (aG.nilCheck rfl ?_);refine Rl.op (aG.fieldAddr Tryz.underlying105 rfl Ig rfl rfl rfl ?_);refine Rl.op (aG.zd (A:=[]) Tryz.underlying103 rfl rfl (at0.get 7 rfl) ?_);refine Rl.op (aG.LO (l:=[.slice a s.aK.length cap]) ⟨Tryz.f131,Tryz.func131,by kernel_rfl,by kernel_rfl⟩ rfl rfl (backward a _ cap w1) ?_);rintro e w' ⟨rfl,rfl⟩;exact⟨_,rfl,rfl,rfl,rfl,rfl,rfl⟩
 refine wpIn_seq (wpIn_seq (wpIn_mono (r8 5 ac ga gb gc) ?_));rintro x a' w' ⟨k1,k2,k3⟩;cases x<;>first|exact k3.elim|skip
 obtain⟨rfl,e42,ee1,ee2,ee3⟩:=k3;have hsz:w2.heap.size=w1.heap.size+1:=by simp[w2]
 have hcel:∀(k:Nat) (o:Obj),kY (w1.heap[k]?)=some o->w2.heap[k]?=some o:=λk o ho=>(Below.heap_alloc w1 _ k (kK (mZ ho))).trans (mZ ho);obtain⟨S2,le2⟩:=hS.on (w':=w2) Bg rfl rfl rfl (by omega) (λk hk _=>Below.heap_alloc w1 _ k (by have:=hS.size;omega)) hcel;have hS2:km X w H ν (HF X w H ν1 (aT (LY s OZ y).bI) w2) w2.heap.size (db a') (LY s OZ y) w2:=⟨ν1,n1,p1,S2,slLY (hs.mono (fk.refl _) le2) ee1 ee2 ee3,λκ=>Le.refl _,λb hb=>by obtain⟨i,ob,q1,q2⟩:=hb;exact S2.ltO q1 q2⟩;have hBw:w.heap.size<=w2.heap.size:=by have:w.heap.size<=w1.heap.size:=hS.size;omega
 refine wpIn_block (Sq N s y hlen hok hres hS2 e42 (pO (oV w1 _ _) λo ho=>lL (.inr hS.size) (λhw=>by obtain⟨i,ob,q1,q2⟩:=hw;exact bV (hS.ltO q1 q2) (Nat.lt_irrefl _)) (uQ (oV w1 _ _) ho)) (λk=>by obtain⟨b,o,vs,q1,q2,q3⟩:=hst k;exact⟨b,o,vs,q1,q2.mono (le2 false),bH.mono _ _ _ _ (le2 false) q3⟩) (m:=5) (by omega) a' k1 k2 rfl ?_);intro D W' hD hK;cases res with
 |inl y'=>
  intro hS3;obtain⟨xr,hx,h⟩:=bind_some h;cases h;exact end_c N s y' xr hx hS3 hBw hD hK _ k1 rfl rfl
 |inr v=>
  intro y' hS3;cases h;exact Lb hS3 hBw hD hK rfl rfl (rt [0,1,2,3,4,5,6,7])
theorem Uz(N:Nat)(s:aS)(r:cz)(h:tN N s=some r):Cx Tryz.prog 106 [.lf (.ptr 0 0)] (zF s) [] [sA fK false r]:=by
 unfold tN at h;obtain⟨x1,hmk,h⟩:=bind_some h;obtain⟨y,hl,h⟩:=bind_some h;refine⟨en106,λX w H ν l hν hS hl'=>?_⟩;have h0:St (FX X w H ν) ⟨8,eQ 0 (zF s),pJ 0 [.lf (.ptr 0 0)]⟩ (kU l) w:=
  ⟨ν,hν,bO _,λ_ _=>rfl,hS,AT 0 hl' (λi v hi=>by rw[fb];simp[kU,hi])⟩
 have hA:St (FX X w H ν) (LA s) (kU l) w:=St.pq (Vw.st (.comp (fa 0 1) (.comp (fa 0 2) (.comp (dQ 3 [] [0]) (.comp (dQ 4 [] [0]) (.comp (dQ 5 [] [0]) (.comp (dQ 6 [] [0]) (fa 0 7))))))) h0) [0,1,2,3,4,5,6,7] rfl rfl rfl rfl;refine OE (n:=66) Tryz.func106 rfl rfl (by rw[hl'.length];decide) ?_;refine Aw.seq3 (J:=λe w'=>St (FX X w H ν) (LY s OZ y) e w') ?pre λe1 w1 g1=>?_
 case pre=>
  refine(Gs.ok (F:=FX X w H ν) (tb:=se) (L:=LA s) ?_).ok _ _ hA;refine ie aD (bq hmk) λx1' h=>?_;cases h;refine bk ?_;refine lp (λ⟨y21,x22⟩=>cW 12 [some (.box [(lI .i64 s.n),(.ro aR false s.aA),(.ro bC false s.aU),(.ro (bN aD) false s.u),(.ro (aF .i64) true s.aN),(.ro aD false s.value),(.ro aP false s.aB),(.ro bH false s.aK)]),none,none,none,none,none,none,none,some (.box [(.ptr 0 0)]),some (.box [(lI .i64 0),lN,lN,lN,(lB false),lN,lN,(lI .i64 0)]),some (.box [(.own 11)]),some (.row aD false y21)] [vp 0 0,vp 1 8,vp 2 9,vp 3 10,vi 15 (List.length x1:Int),vi 16 x22]) hl [0,1,2,3,4,5,6,7,8,9,11,10] ?_;rintro⟨y21,x22⟩ oo h hd48;rw[Bl]at h;refine cd h (λhc51 h=>?_) (λhc51 h=>?_)
  ·
   refine jn (λx=>x) (λy58=>cW 12 [some (.box [(lI .i64 s.n),(.ro aR false s.aA),(.ro bC false s.aU),(.ro (bN aD) false s.u),(.ro (aF .i64) true s.aN),(.ro aD false s.value),(.ro aP false s.aB),(.ro bH false s.aK)]),none,none,none,none,none,none,none,some (.box [(.ptr 0 0)]),some (.box [(lI .i64 0),lN,lN,lN,(lB false),lN,lN,(lI .i64 0)]),some (.box [(.own 11)]),some (.row aD false y58)] [vp 0 0,vp 1 8,vp 2 9,vp 3 10,vi 15 (List.length x1:Int),vi 16 x22]) h (λs59 h g60=>?_) ?_
   ·
    refine bk ?_;refine bR h λx61 h=>?_;refine cd h (λhc62 h=>?_) (λhc62 h=>?_)
    ·
     refine dr mixed ?_;refine bR h λx63 h=>?_;refine cK h λx64 h=>?_;refine eH false h λx65 h=>?_;refine dk ?_;cases h;exact bj _ [0,1,2,3,4,5,6,7,8,9,10,11]
    ·
     cases h;exact bj _ [0,1,2,3,4,5,6,7,8,9,10,11]
   ·
    intro y58 h
    try dsimp only at h
    cases h;exact bl [0,1,2,3,4,5,6,7,8,9,10,11]
  ·
   cases h;cases hd48 _ rfl;exact vN _ [0,1,2,3,4,5,6,7,8,9,10,11]
 clear hA h0 hl hmk;exact VJ N s r y h g1
end Go.Proofs.YtipdkfmhfakbnaaGreatDoor.OB

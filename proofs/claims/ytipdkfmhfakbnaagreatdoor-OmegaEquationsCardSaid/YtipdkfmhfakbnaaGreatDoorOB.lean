/- (*state).back: the values of the coordinates are chosen, those that were eliminated last first; its body holds a loop over slices.Backward. -/
import Derived.Test.YtipdkfmhfakbnaaGreatDoorBK
import Derived.Test.YtipdkfmhfakbnaaGreatDoorSW
set_option linter.unusedVariables false
set_option linter.unusedSimpArgs false
set_option maxRecDepth 100000
set_option maxHeartbeats 4000000
namespace Go.Proofs.YtipdkfmhfakbnaaGreatDoor.OB
open Go Go.RowKit Go.X Go.Q Go.D Go.Proofs.YtipdkfmhfakbnaaGreatDoor.TB Go.Proofs.YtipdkfmhfakbnaaGreatDoor.BK Go.Proofs.YtipdkfmhfakbnaaGreatDoor.SW
theorem ti97:TI aL 97 1 8 (.pointer none):=TI.mk (by kernel_rfl)
abbrev tv:List (dZ aL):=⟨97,_,_,_,_,Tryz.underlying97,ti97⟩::tb
abbrev SB(s:aS)(κ:Bool):List Lf:=[(lI .i64 s.n),(.ro aT false s.aA),(.ro bF false s.aV),(.ro bN false s.u),(.ro aY κ s.aM),(.ro aE false s.value),(.ro aP false s.aB),(.ro bH false s.aK)]
abbrev OZ:List Lf:=[(lI .i64 0),lN,lN,lN,(lB false),lN,lN,(lI .i64 0)]
theorem en106:Go.X.Enters aL 106:=⟨Tryz.f106,Tryz.func106,by kernel_rfl,by kernel_rfl⟩
abbrev LA(s:aS):SS:=cW 8 [some (.box (SB s true)),none,none,none,none,none,none,none] [vp 0 0]
abbrev LY(s:aS)(o:List Lf)(y:List aC):SS:=cW 12 [some (.box (SB s false)),none,none,none,none,none,none,none,some (.box [(.ptr 0 0)]),some (.box o),some (.box [(.own 11)]),some (.row aE false y)] [vp 1 8,vp 2 9,vp 3 10]
abbrev FX(X:Nat->Prop)(w:World)(H:Bool->Hp)(ν:Nu):Fx:=⟨66,λ_ _=>False,X,w,H,8,ν⟩
noncomputable def Cj:Code:=match Tryz.f106.body with|some (.seq _ (.seq _ (.seq _ c)))=>c|_=>.skip
noncomputable def cRf:Code:=match Cj with|.seq (.seq _ (.block _ c)) _=>c|_=>.skip
noncomputable def cAs:Code:=match cRf with|.rangeFunc _ _ a _=>a|_=>.skip
noncomputable def KL:Code:=match cRf with|.rangeFunc _ _ _ b=>b|_=>.skip
noncomputable def cEnd:Code:=match Cj with|.seq _ c=>c|_=>.skip
def QQ(X:Nat->Prop)(w:World)(H:Bool->Hp)(ν:Nu)(r:cD):Exit->Act->World->Prop:=λx a' w'=>(x=.normal\/x=.ret)/\∃D,a'.defers=[tg D]/\w'.heap[D]?=some (.deferred (some []))/\∃v,(results Tryz.f106 a'.tmps).run aL (w'.putObj D (.deferred none))=.ok v (w'.putObj D (.deferred none))/\∃vs,Ending.returned v=.returned (jW vs)/\zl X w H ν 8 [] [sA gk false r] vs (w'.putObj D (.deferred none))
def kN(X:Nat->Prop)(w:World)(H:Bool->Hp)(ν:Nu)(Hf:Bool->Hp)(B:Nat)(eA:Env)(L:SS)(W:World):Prop:= ∃ν',(∀k,12<=k->ν' k=none)/\(∀k,k<8->ν' k=ν k)/\de X w H ν' (aW L.bL) W/\dO ν' (HF X w H ν' (aW L.bL) W) (aW L.cv) eA/\(∀κ,Le (Hf κ) (HF X w H ν' (aW L.bL) W κ))/\∀b,Ow ν' (aW L.bL) b->b<B
theorem Be{s:aS}{o:List Lf}{y:List aC}:∀i ob,aW (LY s o y).bL i=some ob->yg ob=true:=by
 intro i ob h;rcases i with _|_|_|_|_|_|_|_|_|_|_|_|i<;>first|(cases h;rfl)|cases h
theorem slLY{s:aS}{o:List Lf}{y:List aC}{ν:Nu}{H:Bool->Hp}{e e':Env}(h:dO ν H (aW (LY s o y).cv) e)(h1:e' 1=e 1)(h2:e' 2=e 2)(h3:e' 3=e 3):dO ν H (aW (LY s o y).cv) e':=by
 intro t sv ht;rcases t with _|_|_|_|t
 . cases ht
 . rw[h1];exact h _ _ ht
 . rw[h2];exact h _ _ ht
 . rw[h3];exact h _ _ ht
 . cases ht
theorem kN.on{X:Nat->Prop}{w:World}{H:Bool->Hp}{ν:Nu}{Hf:Bool->Hp}{B:Nat}{eA:Env}{s:aS}{o:List Lf}{y:List aC}{W W':World}(h:kN X w H ν Hf B eA (LY s o y) W)
 (h1:W'.os=W.os)(h2:W'.tape=W.tape)(h3:W'.output=W.output)(h4:W.heap.size<=W'.heap.size)(h5:∀k,k<w.heap.size->W'.heap[k]?=W.heap[k]?)(h6:∀(k:Nat) (o:Obj),l6 (W.heap[k]?)=some o->W'.heap[k]?=some o):kN X w H ν Hf B eA (LY s o y) W':=by
 obtain⟨ν',g1,g2,g3,g4,g5,g6⟩:=h;obtain⟨k1,k2⟩:=g3.on Be h1 h2 h3 h4 (λk hk _=>h5 k hk) h6;exact⟨ν',g1,g2,k1,g4.mono (fu.refl _) k2,λκ=>(g5 κ).trans (k2 κ),g6⟩
theorem HA{W:World}{l:Nat}{ob:Obj}(hl:W.heap[l]?=some ob)(hc:ob.isCells=false)(o':Obj):∀(k:Nat) (o:Obj),l6 (W.heap[k]?)=some o->(W.putObj l o').heap[k]?=some o:=by
 intro k o h;by_cases e:k=l
 . subst e;rw[hl]at h;cases ob<;>first|(simp[Obj.isCells]at hc;done)|(cases h;done)
 . rw[World.putObj_heap_other e];exact nR h
abbrev kv:List Nat:=[0,8,9,10,11]
abbrev kx(s:aS)(o:List Lf)(y:List aC):List Ob:=[.box (SB s false),.box [.ptr 0 0],.box o,.box [.own 4],.row aE false y]
noncomputable abbrev FR(X:Nat->Prop)(w:World)(H:Bool->Hp)(ν':Nu)(L:SS)(W:World):Fx:=⟨66,λ_ _=>False,Xc ν' kv,W,Hc (some false) (HF X w H ν' (aW L.bL) W) (Xc ν' kv) W,5,eM ν' kv⟩
theorem yr{s:aS}{y:List aC}:jJ (some false) (aW (LY s OZ y).bL) kv kv (kx s OZ y)=some (kx s OZ y):=by rfl
theorem N7{X:Nat->Prop}{w:World}{H:Bool->Hp}{ν':Nu}{eA:Env}{s:aS}{y:List aC}{W:World}(hS:de X w H ν' (aW (LY s OZ y).bL) W)(hs:dO ν' (HF X w H ν' (aW (LY s OZ y).bL) W) (aW (LY s OZ y).cv) eA){e':Env}(h1:e' 1=eA 1)(h2:e' 2=eA 2)(h3:e' 3=eA 3)
 (ex:List (Nat×Option Sv))(hex:dO (eM ν' kv) (HF (Xc ν' kv) W (Hc (some false) (HF X w H ν' (aW (LY s OZ y).bL) W) (Xc ν' kv) W) (eM ν' kv) (aW (eZ 0 (kx s OZ y))) W) (aW ex) e'):
 St (FR X w H ν' (LY s OZ y) W) ⟨5,eZ 0 (kx s OZ y),ex++[vp 1 1,vp 2 2,vp 3 3]⟩ e' W:=by
 have hin:=hS.AL (md:=some false) (is:=kv) rfl yr;refine⟨eM ν' kv,λk hk=>by rw[qU,gm (by simpa using hk)];rfl,bQ _,λ_ _=>rfl,hin,?_⟩;rw[show aW (ex++[vp 1 1,vp 2 2,vp 3 3])=bS ex (aW [vp 1 1,vp 2 2,vp 3 3]) from by funext t;exact re _ _ _];refine dO.ap ?_ hex;intro t sv ht;rcases t with _|_|_|_|t
 . cases ht
 . cases ht;obtain⟨b,c,q1,q2⟩:=hs 1 _ rfl;exact⟨b,c,q1,h1.trans q2⟩
 . cases ht;obtain⟨b,c,q1,q2⟩:=hs 2 _ rfl;exact⟨b,c,q1,h2.trans q2⟩
 . cases ht;obtain⟨b,c,q1,q2⟩:=hs 3 _ rfl;exact⟨b,c,q1,h3.trans q2⟩
 . cases ht
theorem E3{X:Nat->Prop}{w:World}{H:Bool->Hp}{ν ν':Nu}{Hf:Bool->Hp}{B:Nat}{eA e'':Env}{s:aS}{y y':List aC}{o:List Lf}{W W':World}(n1:∀k,12<=k->ν' k=none)(p1:∀k,k<8->ν' k=ν k)(hS:de X w H ν' (aW (LY s OZ y).bL) W)(hs:dO ν' (HF X w H ν' (aW (LY s OZ y).bL) W) (aW (LY s OZ y).cv) eA)
 (hf:∀κ,Le (Hf κ) (HF X w H ν' (aW (LY s OZ y).bL) W κ))(hb:∀b,Ow ν' (aW (LY s OZ y).bL) b->b<B){sl:List (Nat×Option Sv)}(h:St (FR X w H ν' (LY s OZ y) W) ⟨5,eZ 0 (kx s o y'),sl⟩ e'' W')
 (h1:oI (some false) 5 (eZ 0 (kx s o y'))=true:=by rfl)(ho:o.map (ud (some false) kv 12)=o:=by rfl):
 kN X w H ν Hf B eA (LY s o y') W'/\W.heap.size<=W'.heap.size/\∀(k:Nat) (ob:Obj),W.heap[k]?=some ob->ob.isCells=false->W'.heap[k]?=some ob:=by
 obtain⟨ν'',n2,_,p2,S2,_⟩:=h;obtain⟨ν2,r1,r2,r3,_,_⟩:=AR (some false) kv 0 12 (e:=eA) (rs:=[]) (vs:=[]) (out:=eZ 0 (kx s o y')) hS (ui yr) rfl h1 rfl rfl (λk hk hk'=>by omega) (λk hk=>p2 k hk) S2 rfl;have hE:bS (fF (some false) kv 12 (eZ 0 (kx s o y'))++iN kv) (aW (LY s OZ y).bL)=aW (LY s o y').bL:=by
  funext t;rcases t with _|_|_|_|_|_|_|_|_|_|_|_|t<;>first|rfl|(show some (Ob.box (o.map (ud (some false) kv 12)))=some (Ob.box o);rw[ho])
 rw[hE]at r2 r3;have hν:∀k,ν2 k=ν' k:=λk=>r1 k (by omega);refine⟨⟨ν2,λk hk=>(hν k).trans (n1 k hk),λk hk=>(hν k).trans (p1 k hk),r2,hs.mono (λi x hx=>(hν i).trans hx) r3,λκ=>(hf κ).trans (r3 κ),λb hb'=>hb b (QO (λi ob hi=>⟨Be i ob hi,?_⟩) hν hb')⟩,S2.size,λk ob hk hc=>?_⟩
 . rcases i with _|_|_|_|_|_|_|_|_|_|_|_|i<;>first|exact⟨_,rfl⟩|cases hi
 . refine(S2.keep k (ld hk) ?_).trans hk;rintro⟨i,hi,hbk⟩;obtain⟨oi,hoi⟩:=ui (yr (s:=s) (y:=y)) i hi;obtain⟨b,c,n,kk,q1,q2,q3⟩:=hS.dD i oi hoi;obtain⟨l,rfl⟩:=Kf (Be i oi hoi) q3;rw[eV q1]at hbk;subst hbk;obtain⟨t,lo,hi',k1,_⟩:=q2;rw[k1]at hk;cases hk;cases hc
theorem MA{X:Nat->Prop}{w:World}{H:Bool->Hp}{ν:Nu}{r:cD}{Hf:Bool->Hp}{B:Nat}{eA:Env}{s:aS}{o:List Lf}{y:List aC}{W:World}{D:Nat}{ac:Act}(hS:kN X w H ν Hf B eA (LY s o y) W)(hB:w.heap.size<=B)(hD:B<=D)(hK:W.heap[D]?=some (.deferred (some [])))
 (h2:ac.defers=[tg D])(h3:dh ac=eA)(hr:vP tv ⟨66,QR aL [.cell 2 75] X w H ν 8 [] [sA gk false r],X,w,H,8,ν⟩ (LY s o y)):QQ X w H ν r .ret ac W:=by
 have hS':=hS.on (W':=W.putObj D (.deferred none)) rfl rfl rfl (by simp) (λk hk=>World.putObj_heap_other (by omega)) (HA hK rfl _);obtain⟨ν',g1,g2,g3,g4,g5,g6⟩:=hS';obtain⟨vs,r1,r2⟩:=hr.ok eA (W.putObj D (.deferred none)) ⟨ν',g1,(by show 8<=12;omega),g2,g3,g4⟩;exact⟨.inr rfl,D,h2,hK,jW vs,UL rfl (λi=>by rw[<-h3];rfl) r1,vs,rfl,r2⟩
theorem env_c{X:Nat->Prop}{w:World}{H:Bool->Hp}{ν':Nu}{eA e'':Env}{s:aS}{y y':List aC}{o:List Lf}{W W':World}(hs:dO ν' (HF X w H ν' (aW (LY s OZ y).bL) W) (aW (LY s OZ y).cv) eA)(h:St (FR X w H ν' (LY s OZ y) W) ⟨5,eZ 0 (kx s o y'),[vp 1 1,vp 2 2,vp 3 3]⟩ e'' W'):
 e'' 1=eA 1/\e'' 2=eA 2/\e'' 3=eA 3:=by
 obtain⟨ν'',n2,_,p2,S2,s2⟩:=h;have key:∀(t i j:Nat),(∃b c,ν'' i=some (some b,c)/\e'' t=.pointer (some ⟨b,0,none⟩))->ν'' i=ν' j->(∃b c,ν' j=some (some b,c)/\eA t=.pointer (some ⟨b,0,none⟩))->e'' t=eA t:=by
  rintro t i j ⟨b,c,q1,q2⟩ hij ⟨b',c',q3,q4⟩;rw[hij,q3]at q1;cases q1;rw[q2,q4]
 exact⟨key 1 1 8 (s2 1 _ rfl) (p2 1 (by show 1<5;omega)) (hs 1 _ rfl),key 2 2 9 (s2 2 _ rfl) (p2 2 (by show 2<5;omega)) (hs 2 _ rfl),key 3 3 10 (s2 3 _ rfl) (p2 3 (by show 3<5;omega)) (hs 3 _ rfl)⟩
theorem end_c(N:Nat)(s:aS)(y xr:List aC)(hx:mZ N s y=some xr){X:Nat->Prop}{w:World}{H:Bool->Hp}{ν:Nu}{Hf:Bool->Hp}{B:Nat}{eA:Env}{W:World}{D:Nat}(hS:kN X w H ν Hf B eA (LY s OZ y) W)(hB:w.heap.size<=B)(hD:B<=D)(hK:W.heap[D]?=some (.deferred (some [])))
 (ac:Act)(h1:ac.tmps.size=66)(h2:ac.defers=[tg D])(h3:dh ac=eA):cEnd.wpIn Fence.wide 5 aL (QQ X w H ν (cD.mk 0 xr (Proof.mk [] [] (aC.mk false []) []) 0)) ac W:=by
 obtain⟨ν',n1,p1,S1,s1,f1,b1⟩:=hS;have hL:=N7 S1 s1 (e':=eA) rfl rfl rfl [] (λt sv ht=>by cases ht);have main:Cw none [tg D] aL 66 cEnd (λx e W'=>x=.ret/\St (FR X w H ν' (LY s OZ y) W) ⟨5,eZ 0 (kx s [lI .i64 0,.ro aE true xr,lN,lN,lB false,lN,lN,lI .i64 0] y),[vp 1 1,vp 2 2,vp 3 3]⟩ e W') eA W:=by
  refine Cw.seq (K:=λe W'=>St (FR X w H ν' (LY s OZ y) W) ⟨5,eZ 0 (kx s [lI .i64 0,.ro aE true xr,lN,lN,lB false,lN,lN,lI .i64 0] y),[vp 1 1,vp 2 2,vp 3 3]⟩ e W') ?_ (λe W' h=>Cw.ret ⟨rfl,h⟩);refine zd (F:=FR X w H ν' (LY s OZ y) W) (tb:=tv) ?_ hL (λe w h=>h);refine fA (some false) [0,4] (bq hx) (Sz N _ _) λx' h=>?_;cases h;exact vU _ [0,1,2,3,4]
 refine wpIn_mono (main 5 ac h1 h2 h3) ?_;rintro x a' W' ⟨k1,k2,rfl,k4⟩;obtain⟨v1,v2,v3⟩:=env_c s1 k4;obtain⟨⟨ν2,g1,g2,g3,g4,g5,g6⟩,q1,q2⟩:=E3 n1 p1 S1 s1 f1 b1 k4;exact MA (eA:=dh a') (Hf:=Hf) (B:=B) ⟨ν2,g1,g2,g3,slLY g4 v1 v2 v3,g5,g6⟩ hB hD (q2 D _ hK rfl) k2 rfl (rt j8)
theorem Ia{N:Nat}{s:aS}:∀{l1 l2:List dW} {y y':List aC},iR N s l1 y=some (.inl y')->iR N s (l1++l2) y=iR N s l2 y'
 |[],_,_,_,h=>by cases h;rfl
 |e::l1,l2,y,y',h=>by
  simp only[iR,DP]at h⊢;obtain⟨⟨n,ok⟩,h1,h2⟩:=bind_some h;rw[h1];show(if ok=true then _ else _)=_;cases ok with
  |false=>cases h2
  |true=>
   have h2:(dw y e.v n).bind (iR N s l1)=some (.inl y'):=h2;obtain⟨z,h3,h4⟩:=bind_some h2;rw[h3];exact Ia h4
theorem Kg{N:Nat}{s:aS}:∀{l1 l2:List dW} {y:List aC} {v:Int},iR N s l1 y=some (.inr v)->iR N s (l1++l2) y=some (.inr v)
 |[],_,_,_,h=>by cases h
 |e::l1,l2,y,v,h=>by
  simp only[iR,DP]at h⊢;obtain⟨⟨n,ok⟩,h1,h2⟩:=bind_some h;rw[h1];show(if ok=true then _ else _)=_;cases ok with
  |false=>exact h2
  |true=>
   have h2:(dw y e.v n).bind (iR N s l1)=some (.inr v):=h2;obtain⟨z,h3,h4⟩:=bind_some h2;rw[h3];exact Kg h4
theorem Gj(l:List dW):∀(k:Nat) (h:k<=l.length),(rest l.length k h).map (λk=>l[k])=(l.take k).reverse
 |0,_=>by simp[rest]
 |k+1,h=>by
  have hk:k<l.length:=h;rw[rest,kZ,Gj l k (DT hk),pN hk,P6];rfl
theorem U2{H:Hp}{b:Nat}{vs:List Value}{t:TypeId}{fr:Nat×Nat}(h:H b=some (.cells vs.toArray t fr)):At H b 0 vs:=by
 intro i hi;simp[mw,h]
theorem Jn{X:Nat->Prop}{w:World}{H:Bool->Hp}{ν:Nu}{Hf:Bool->Hp}{B:Nat}{eA:Env}{s:aS}{o:List Lf}{y:List aC}(hB:w.heap.size<=B){W W':World}{row:Option Nat}(h:kN X w H ν Hf B eA (LY s o y) W)(hg:W.grownBy W' row)(hr:∀r,row=some r->B<=r/\∃o:Obj,W.heap[r]?=some o/\o.isCells=false):kN X w H ν Hf B eA (LY s o y) W':=by
 have hlt:∀k,k<w.heap.size->k<W.heap.size:=λk hk=>by obtain⟨_,_,_,h3,_⟩:=h;exact DL hk h3.size
 refine h.on hg.os hg.tape hg.output hg.size (λk hk=>hg.block k (hlt k hk) (λe=>by have:=(hr k e.symm).1;omega)) (λk o ho=>(hg.block k (ld (nR ho)) (λe=>?_)).trans (nR ho));obtain⟨_,o',h1,h2⟩:=hr k e.symm;rw[h1]at ho;cases o'<;>first|(simp[Obj.isCells]at h2;done)|(cases ho;done)
theorem Qu(N:Nat)(s:aS)(y:List aC)(hlen:s.aK.length<=9223372036854775807)(hok:oZ N s s.aK.length y=true){res:List aC⊕Int}(hres:iR N s s.aK.reverse y=some res){X:Nat->Prop}{w:World}{H:Bool->Hp}{ν:Nu}{e2:Env}{W:World}{Bs:Nat}{a:Option Addr}{cap:Nat}
    {Hf:Bool->Hp}(hS:kN X w H ν Hf W.heap.size e2 (LY s OZ y) W)(h42:e2 42=.func (.func 158) #[] #[.pointer (some ⟨Bs,0,none⟩)]) (hBs:At (Hf false) Bs 0 [.slice a s.aK.length cap]) (hst:∀k:Fin s.aK.length,∃b o vs,a=some ⟨b,o,none⟩/\At (Hf false) b (o+k*3) vs/\bH.R (Hf false) vs s.aK[k])
    {m:Nat} (hm:2<=m) (ac:Act) (h1:ac.tmps.size=66) (h2:ac.defers=[]) (h3:dh ac=e2) {QR':Exit->Act->World->Prop}
    (hQ:∀D W',(W.heap.size<=D)->W'.heap[D]?=some (.deferred (some []))->(match(motive:=List aC⊕Int->Prop) res with|.inl y'=>kN X w H ν Hf W.heap.size e2 (LY s OZ y') W'->QR' .normal {ac with defers:=[tg D]} W'|.inr v=>∀y',kN X w H ν Hf W.heap.size e2 (LY s [(lI .i64 2),lN,lN,lN,(lB false),lN,lN,(lI .i64 v)] y') W'->QR' .ret {ac with defers:=[tg D]} W')):
    (Code.rangeFunc (.tmp 42) #[43,44] cAs KL).wpIn Fence.wide m aL QR' ac W:=by
  have hBw:w.heap.size<=W.heap.size:=by obtain⟨_,_,_,h3,_⟩:=hS;exact h3.size
  have hst':∀k:Fin s.aK.length,∃vs,(∃b o,a=some ⟨b,o,none⟩/\At (Hf false) b (o+k*3) vs)/\bH.R (Hf false) vs s.aK[k]:=λk=>by obtain⟨b,o,vs,q1,q2,q3⟩:=hst k;exact⟨vs,⟨b,o,q1,q2⟩,q3⟩
  obtain⟨vsf,hvs⟩:∃vsf:Fin s.aK.length->List Value,∀k:Fin s.aK.length,(∃b o,a=some ⟨b,o,none⟩/\At (Hf false) b (o+k*3) (vsf k))/\bH.R (Hf false) (vsf k) s.aK[k]:=⟨λk=>Classical.choose (hst' k),λk=>Aj (hst' k)⟩;have gG:∀{o:List Lf} {y':List aC} {W':World},kN X w H ν Hf W.heap.size e2 (LY s o y') W'->BK.Good a cap vsf Bs W':=λh=>by
    obtain⟨ν',_,_,g3,_,g5,_⟩:=h;have le:=(g5 false).trans (g3.view false);exact⟨hBs.mono le,λk=>by obtain⟨⟨b,o,q1,q2⟩,_⟩:=hvs k;exact⟨b,o,q1,q2.mono le⟩⟩
  have hseq:=Sw a cap vsf Bs (λk=>bH.len _ _ _ (hvs k).2) hlen (m-1) (by omega) W (gG hS);refine wpIn_rangeFunc_ownH (F:=Fence.wide) (n:=m) rfl (by omega) (gf:=158) (lb:=#[.pointer (some ⟨Bs,0,none⟩)]) (by rw[<-tq,h3];exact h42) trivial (λargs w=>Fc ⟨Tryz.f158,Tryz.func158,by kernel_rfl,by kernel_rfl⟩ args) hseq (λh k g=>k (h g)) ?_ (Below.refl _ _) (λx=>rfl)
    (λ(pre:List (Fin s.aK.length)) W'=>∃y',iR N s (pre.map λk=>s.aK[k]) y=some (.inl y')/\oZ N s (s.aK.length-pre.length) y'=true/\kN X w H ν Hf W.heap.size e2 (LY s OZ y') W'/\W.heap.size<=W'.heap.size)
    (λc (pre:List (Fin s.aK.length)) W'=>c=.ret/\∃v,iR N s (pre.map λk=>s.aK[k]) y=some (.inr v)/\∃y',kN X w H ν Hf W.heap.size e2 (LY s [(lI .i64 2),lN,lN,lN,(lB false),lN,lN,(lI .i64 v)] y') W')
    ?_ ?_ ⟨y,rfl,hok,hS,bQ _⟩
    (λ(x:Fin s.aK.length) a' W'=>a'.tmps.size=66/\a'.defers=[]/\dh a' 1=e2 1/\dh a' 2=e2 2/\dh a' 3=e2 3/\∃Bx t fr,W.heap.size<=Bx/\dh a' 6=.pointer (some ⟨Bx,0,none⟩)/\W'.heap[Bx]?=some (.cells (vsf x).toArray t fr))
    ?_ ?assign ?body ?done ?stop
  . intro W' l o o' hl hl' hc _ g;exact⟨JN (HA hl' hc o') g.1,λk=>by obtain⟨b,o,q1,q2⟩:=g.2 k;exact⟨b,o,q1,JN (HA hl' hc _) q2⟩⟩
  . rintro pre W1 W2 row ⟨y',q1,q2,q3,q4⟩ hg hr;exact⟨y',q1,q2,Jn hBw q3 hg hr,bV q4 hg.size⟩
  . rintro c pre W1 W2 row ⟨hc,v,q1,y',q2⟩ hg hr;exact⟨hc,v,q1,y',Jn hBw q2 hg hr⟩
  . rintro x a' _ W1 W2 row ⟨z1,z2,z3,z4,z5,Bx,t,fr,z6,z7,z8⟩ hg hr;refine⟨z1,z2,z3,z4,z5,Bx,t,fr,z6,z7,(hg.block Bx (ld z8) (λe=>?_)).trans z8⟩;obtain⟨_,o',k1,k2⟩:=hr Bx e.symm;rw[k1]at z8;cases z8;cases k2
  case assign=>
    intro l pre x W1 K hI hK;obtain⟨y',q1,q2,q3,q4⟩:=hI;have hz:(#[43,44].zip #[Value.int .i64 ((x.1:Nat):Int),.agg (vsf x).toArray]).foldl (λt (p,v)=>t.setIfInBounds p v) ac.tmps=(ac.tmps.setIfInBounds 43 (.int .i64 ((x.1:Nat):Int))).setIfInBounds 44 (.agg (vsf x).toArray):=by simp
    rw[hz];show cAs.wpIn (oQ (some l)) (m-1-1) aL (Exit.then K λ_ _ _=>False) {tmps:=(ac.tmps.setIfInBounds 43 (.int .i64 ((x.1:Nat):Int))).setIfInBounds 44 (.agg (vsf x).toArray),defers:=[]} W1;have b3:dh {tmps:=(ac.tmps.setIfInBounds 43 (.int .i64 ((x.1:Nat):Int))).setIfInBounds 44 (.agg (vsf x).toArray),defers:=[]}=cX (cX e2 43 (.int .i64 ((x.1:Nat):Int))) 44 (.agg (vsf x).toArray):=
      (vG (ac.put (some 43) (.int .i64 ((x.1:Nat):Int))) (n:=66) (by rw[qD];exact h1) (by omega) (.agg (vsf x).toArray)).trans (by rw[vG ac h1 (by omega),h3])
    generalize hT:(ac.tmps.setIfInBounds 43 (.int .i64 ((x.1:Nat):Int))).setIfInBounds 44 (.agg (vsf x).toArray)=T at b3⊢;have b1:T.size=66:=by rw[<-hT];simpa using h1
    have hl3:(vsf x).length=3:=bH.len _ _ _ (hvs x).2;refine wpIn_region_lit ?_;refine oV (rd:=some l) (n:=66) b1 rfl (aF.alloc zO rfl (oY (w:=W1)) λb w1 hL1 _ a2 c1 c2 c3=>?_);refine oV (rd:=some l) (n:=66) c1 c2 (aF.store (v:=.agg (vsf x).toArray) (vs:=vsf x) zO (by rw[c3];rfl) (by rw[c3];show dh _ 44=_;rw[b3];rfl) rfl hl3 (bH.one _ _ _ (hvs x).2) hL1 0 rfl rfl (by rw[hl3];exact bQ _) λw2 hL2 _ a3 d1 d2 d3=>?_);have hput:putAt [Value.int .i64 0,.slice none 0 0,.bool false] 0 (vsf x)=vsf x:=by rw[xZ _ _ _ (by rw[hl3];exact bQ _),hl3];simp
    have hS3:kN X w H ν Hf W.heap.size e2 (LY s OZ y') w2:=q3.on hL2.os hL2.tape hL2.output hL2.size (λk hk=>hL2.keep k (by omega) (by simp)) (λk o ho=>(hL2.keep k (ld (nR ho)) (by simp)).trans (nR ho));have hown:dR w2 (some b) (.cells (vsf x)):=by
      have:=hL2.own.1;rw[show putAt _ 0 (vsf x)=vsf x from hput]at this;exact this
    obtain⟨t,lo,hi,k1,_,_⟩:=hown;have hbf:W1.heap.size<=b:=by
      rcases hL2.fresh b (by simp)with h|h
      . cases h
      . exact h
    have he:dh a3=cX (cX (cX e2 43 (.int .i64 ((x.1:Nat):Int))) 44 (.agg (vsf x).toArray)) 6 (.pointer (some ⟨b,0,none⟩)):=by rw[d3,<-b3];exact c3
    exact hK a3 w2 ⟨hL2.size,λk o _ hk _=>(hL2.keep k (ld hk) (by simp)).trans hk⟩ (λ_=>gG hS3) ⟨y',q1,q2,hS3,bV q4 hL2.size⟩ ⟨d1,d2,by rw[he];rfl,by rw[he];rfl,by rw[he];rfl,b,t,(lo,hi),by omega,by rw[he];rfl,k1⟩
  case body=>
    rintro l pre x a' W1 hl ⟨rr,hrr⟩ ⟨y',q1,q2,q3,q4⟩ ⟨z1,z2,z3,z4,z5,Bx,t,fr,z6,z7,z8⟩ hlt;have hR:=(hvs x).2;have hmem:s.aK[x]∈s.aK:=dC _;have hpm:(pre++[x]).map (λk:Fin s.aK.length=>s.aK[k])=pre.map (λk:Fin s.aK.length=>s.aK[k])++[s.aK[x]]:=by simp
    generalize s.aK[x]=el at hR hmem hpm;obtain⟨k,hk⟩:∃k,s.aK.length-pre.length=k+1:=⟨s.aK.length-pre.length-1,by omega⟩;rw[hk]at q2;have q2:=uP.1 (show(s.aK.all _)=true from q2) el hmem;cases hb:pF N s el y' with
    |none=>rw[hb]at q2;cases q2
    |some nb=>
    obtain⟨nv,ok⟩:=nb;rw[hb]at q2;obtain⟨ν',n1,p1,S1,s1,f1,b1⟩:=q3;have hnx:¬Xc ν' kv Bx:=λh=>by
      have:=b1 Bx (Ck (ui (yr (s:=s) (y:=y'))) h);omega
    have hL:=N7 S1 s1 z3 z4 z5 [(6,some (.pr false (aO.cl bH false el) 0))] (by
      intro t' sv ht;have ht:(bif Nat.beq t' 6 then some (Sv.pr false (aO.cl bH false el) 0)else none)=some sv:=ht;cases h6:Nat.beq t' 6 with
      |false=>rw[h6]at ht;cases ht
      |true=>
        rw[h6]at ht;cases ht;obtain rfl:=ee h6;refine⟨Bx,0,vsf x,z7,U2 (t:=t) (fr:=fr) ?_,aO.op (bH.mono _ _ _ _ ((f1 false).trans (ru (md:=some false) S1 (ui (yr (s:=s) (y:=y'))) false)) hR)⟩;refine(pf (ld z8) hnx).trans ?_;exact mq (.inr (by omega)) (λh=>by have:=b1 Bx h;omega) (by rw[z8];rfl))
    have main:Cw (some l) [] aL 66 KL (λx=>match x with
        |.normal=>λe W2=>ok=true/\∃y'',dw y' el.v nv=some y''/\St (FR X w H ν' (LY s OZ y') W1) ⟨5,eZ 0 (kx s OZ y''),[vp 1 1,vp 2 2,vp 3 3]⟩ e W2
        |.ret=>λe W2=>ok=false/\St (FR X w H ν' (LY s OZ y') W1) ⟨5,eZ 0 (kx s [(lI .i64 2),lN,lN,lN,(lB false),lN,lN,(lI .i64 el.v)] y'),[vp 1 1,vp 2 2,vp 3 3]⟩ e W2
        |_=>λ_ _=>False) (dh a') W1:=by
      refine Cw.block ?_ (λj e w h=>h);refine Cw.seq (K:=λe W2=>St (FR X w H ν' (LY s OZ y') W1) ⟨6,eZ 0 (kx s OZ y'++[.box (aO.cl aE true nv)]),[vp 1 1,vp 2 2,vp 3 3,(6,some (.pr false (aO.cl bH false el) 0)),vp 7 5,vb 8 ok]⟩ e W2) ?_ ?_
      . refine zd (F:=FR X w H ν' (LY s OZ y') W1) (tb:=tv) ?_ hL (λe w h=>h);refine fA (some false) [0,4] (bq hb) (TA N _ _ _) λr' h=>?_;cases h;exact vU _ j6
      rintro e3 W3 g3;refine Cw.seq (K:=λe W2=>ok=true/\St (FR X w H ν' (LY s OZ y') W1) ⟨6,eZ 0 (kx s OZ y'++[.box (aO.cl aE true nv)]),[vp 1 1,vp 2 2,vp 3 3,(6,some (.pr false (aO.cl bH false el) 0)),vp 7 5,vb 53 (!ok)]⟩ e W2) ?_ ?_
      . refine Cw.seq (K:=λe W2=>St (FR X w H ν' (LY s OZ y') W1) ⟨6,eZ 0 (kx s OZ y'++[.box (aO.cl aE true nv)]),[vp 1 1,vp 2 2,vp 3 3,(6,some (.pr false (aO.cl bH false el) 0)),vp 7 5,vb 53 (!ok)]⟩ e W2) ?_ ?_
        . refine zd (F:=FR X w H ν' (LY s OZ y') W1) (tb:=tv) ?_ g3 (λe w h=>h);exact vU _ j6
        . rintro e4 W4 g4;have hc:e4 53=.bool (!ok):=by obtain⟨_,_,_,_,_,ss⟩:=g4;exact(ss 53 _ rfl).1
          refine Cw.cond hc ?_;cases ok with
          |true=>exact Cw.skip ⟨rfl,g4⟩
          |false=>
            refine Cw.seq (K:=λe W2=>St (FR X w H ν' (LY s OZ y') W1) ⟨5,eZ 0 (kx s [(lI .i64 2),lN,lN,lN,(lB false),lN,lN,(lI .i64 el.v)] y'),[vp 1 1,vp 2 2,vp 3 3]⟩ e W2) ?_ (λe W2 h=>Cw.ret ⟨rfl,h⟩);refine zd (F:=FR X w H ν' (LY s OZ y') W1) (tb:=tv) ?_ g4 (λe w h=>h);exact vU _ [0,1,2,3,4]
      . rintro e4 W4 ⟨hok1,g4⟩;subst hok1;have q2:(match dw y' el.v nv with|none=>false|some y=>oZ N s k y)=true:=q2;cases hup:dw y' el.v nv with
        |none=>rw[hup]at q2;cases q2
        |some y''=>
        obtain⟨z,hz⟩:∃z,idx y' el.v=some z:=by
          obtain⟨n,r1,r2,_⟩:=Eo hup;exact⟨_,by rw[r1];exact QL r2⟩
        refine zd (F:=FR X w H ν' (LY s OZ y') W1) (tb:=tv) ?_ g4 (λe w h=>⟨rfl,y'',rfl,h⟩);refine cC (bq hz) λz' h=>?_;refine ej false (bq hup) λy3 h=>?_;cases h;exact vU _ [0,1,2,3,4]
    refine wpIn_mono (main (m-1-1) a' z1 z2 rfl) ?_;rintro ex a'' W2 ⟨k1,k2,k3⟩;cases ex<;>first|exact k3.elim|skip
    . obtain⟨rfl,y'',hup,g⟩:=k3;obtain⟨hS2,hsz,hkeep⟩:=E3 n1 p1 S1 s1 f1 b1 g;refine⟨⟨hsz,λk o _ hk hc=>hkeep k o hk hc⟩,λ_=>gG hS2,y'',?_,?_,hS2,bV q4 hsz⟩
      . rw[hpm,Ia q1];simp[iR,hb,hup]
      . have q2:(match dw y' el.v nv with|none=>false|some y=>oZ N s k y)=true:=q2;rw[hup]at q2;rw[show s.aK.length-(pre++[x]).length=k by simp;omega];exact q2
    . obtain⟨rfl,g⟩:=k3;obtain⟨hS2,hsz,hkeep⟩:=E3 n1 p1 S1 s1 f1 b1 g;refine⟨⟨hsz,λk o _ hk hc=>hkeep k o hk hc⟩,rfl,el.v,?_,y',hS2⟩;rw[hpm,Ia q1];simp[iR,hb]
  case done=>
    rintro D xs W' hD rfl ⟨y',q1,q2,q3,q4⟩ hK;rw[Gj s.aK _ (bQ _),uV]at q1;rw[hres]at q1;cases q1;have:=hQ D W' hD hK q3;rw[h2];exact this
  case stop=>
    rintro D c pre W' hD ⟨r',hr'⟩ ⟨rfl,v,q1,y',q2⟩ hK;have e:iR N s s.aK.reverse y=some (.inr v):=by
      rw[<-uV (l:=s.aK),<-Gj s.aK _ (bQ _),<-hr',iC];exact Kg q1
    rw[hres]at e;cases e;have:=hQ D W' hD hK y' q2;rw[h2];exact wpIn_ret this
theorem Vx(N:Nat)(s:aS)(r:cD)(y:List aC)(h:(if s.aK.length<=9223372036854775807/\oZ N s s.aK.length y=true then
 (iR N s s.aK.reverse y).bind λ
 |.inr v=>some (cD.mk 2 [] (Proof.mk [] [] (aC.mk false []) []) v)
 |.inl y=>(mZ N s y).bind λx=>some (cD.mk 0 x (Proof.mk [] [] (aC.mk false []) []) 0)
 else none)=some r){X:Nat->Prop}{w:World}{H:Bool->Hp}{ν:Nu}{e1:Env}{w1:World}(g1:St (FX X w H ν) (LY s OZ y) e1 w1):Aw aL 66 Cj (QQ X w H ν r) e1 w1:=by
 split at h
 rotate_left
 . cases h
 rename_i hg;obtain⟨hlen,hok⟩:=hg;obtain⟨res,hres,h⟩:=bind_some h;obtain⟨ν1,n1,m1,p1,hS,hs⟩:=g1;obtain⟨bb0,c0,n0,k0,q0,qc0,vs0,rfl,lf0⟩:=hS.dD 0 _ rfl;obtain⟨a0,_,rfl,h0,a1,_,rfl,hh1,a2,_,rfl,hh2,a3,_,rfl,hh3,a4,_,rfl,hh4,a5,_,rfl,hh5,a6,_,rfl,hh6,a7,_,rfl,hh7,rfl⟩:=lf0;obtain⟨bb8,c8,n8,k8,q8,qc8,vs8,rfl,v8,_,rfl,⟨b0,cc0,q0',rfl⟩,rfl⟩:=hS.dD 8 _ rfl;rw[q0]at q0';cases q0';obtain⟨b8,cc8,q8',e11⟩:=hs 1 _ rfl;rw[q8]at q8';cases q8';have at0:=pT (H:=view [] w1) qc0 (λo ho=>wZ ho (by simp));have at8:=pT (H:=view [] w1) qc8 (λo ho=>wZ ho (by simp));obtain⟨a,cap,rfl,hst⟩:∃a cap,a7=.slice a s.aK.length cap/\∀k:Fin s.aK.length,∃b o vs,a=some ⟨b,o,none⟩/\At (HF X w H ν1 (aW (LY s OZ y).bL) w1 false) b (o+k*3) vs/\bH.R (HF X w H ν1 (aW (LY s OZ y).bL) w1 false) vs s.aK[k]:=by
  rcases(hh7:Rs bH _ a7 s.aK)with⟨⟨oa,rfl⟩,hn⟩|⟨b,o,cap,rfl,_,hxs⟩
  . exact⟨oa,0,by rw[hn];rfl,λ⟨k,hk⟩=>bX (show k<0 by rw[hn]at hk;exact hk) (D2 _)⟩
  . refine⟨_,cap,rfl,λk=>?_⟩;obtain⟨vs,_,hA,hR⟩:=hxs k.1 s.aK[k] (cy k.2);exact⟨b,o,vs,rfl,hA,hR⟩
 intro ac ga gb gc
 let w2:=w1.alloc (.cells #[.slice a s.aK.length cap] 103)
 have r8:Cw none [] aL 66 (match Cj with|.seq (.seq c _) _=>c|_=>.skip) (Ft (λe' w'=>w'=w2/\e' 42=.func (.func 158) #[] #[.pointer (some ⟨w1.heap.size,0,none⟩)]/\e' 1=e1 1/\e' 2=e1 2/\e' 3=e1 3) λ_ _ _=>False) e1 w1:=by
  refine Cw.region (K:=λe' w'=>w'=w2/\e' 42=.func (.func 158) #[] #[.pointer (some ⟨w1.heap.size,0,none⟩)]/\e' 1=e1 1/\e' 2=e1 2/\e' 3=e1 3) ?_ (λe w h=>h);refine Rl.op (aF.yy (A:=[]) Tryz.underlying97 rfl e11 (at8.get 0 rfl) ?_);refine Rl.op (aF.nilCheck rfl ?_);refine Rl.op (aF.fieldAddr Tryz.underlying105 rfl MV rfl rfl rfl ?_);refine Rl.op (aF.yy (A:=[]) Tryz.underlying103 rfl rfl (at0.get 7 rfl) ?_);refine Rl.op (aF.JC (l:=[.slice a s.aK.length cap]) ⟨Tryz.f131,Tryz.func131,by kernel_rfl,by kernel_rfl⟩ rfl rfl (backward a _ cap w1) ?_);rintro e w' ⟨rfl,rfl⟩;exact⟨_,rfl,rfl,rfl,rfl,rfl,rfl⟩
 refine wpIn_seq (wpIn_seq (wpIn_mono (r8 5 ac ga gb gc) ?_));rintro x a' w' ⟨k1,k2,k3⟩;cases x<;>first|exact k3.elim|skip
 obtain⟨rfl,e42,ee1,ee2,ee3⟩:=k3;have hsz:w2.heap.size=w1.heap.size+1:=by simp[w2]
 have hcel:∀(k:Nat) (o:Obj),l6 (w1.heap[k]?)=some o->w2.heap[k]?=some o:=λk o ho=>(Below.heap_alloc w1 _ k (ld (nR ho))).trans (nR ho);obtain⟨S2,le2⟩:=hS.on (w':=w2) Be rfl rfl rfl (by omega) (λk hk _=>Below.heap_alloc w1 _ k (by have:=hS.size;omega)) hcel;have hS2:kN X w H ν (HF X w H ν1 (aW (LY s OZ y).bL) w2) w2.heap.size (dh a') (LY s OZ y) w2:=⟨ν1,n1,p1,S2,slLY (hs.mono (fu.refl _) le2) ee1 ee2 ee3,λκ=>Le.refl _,λb hb=>by obtain⟨i,ob,q1,q2⟩:=hb;exact S2.ltO q1 q2⟩;have hBw:w.heap.size<=w2.heap.size:=by have:w.heap.size<=w1.heap.size:=hS.size;omega
 refine wpIn_block (Qu N s y hlen hok hres hS2 e42 (pT (pt w1 _ _) λo ho=>mq (.inr hS.size) (λhw=>by obtain⟨i,ob,q1,q2⟩:=hw;exact bX (hS.ltO q1 q2) (xk _)) (vT (pt w1 _ _) ho)) (λk=>by obtain⟨b,o,vs,q1,q2,q3⟩:=hst k;exact⟨b,o,vs,q1,q2.mono (le2 false),bH.mono _ _ _ _ (le2 false) q3⟩) (m:=5) (by omega) a' k1 k2 rfl ?_);intro D W' hD hK;cases res with
 |inl y'=>
  intro hS3;obtain⟨xr,hx,h⟩:=bind_some h;cases h;exact end_c N s y' xr hx hS3 hBw hD hK _ k1 rfl rfl
 |inr v=>
  intro y' hS3;cases h;exact MA hS3 hBw hD hK rfl rfl (rt j8)
theorem Ud(N:Nat)(s:aS)(r:cD)(h:uM N s=some r):Cx aL 106 [.lf (.ptr 0 0)] (zF s) [] [sA gk false r]:=by
 unfold uM at h;obtain⟨x1,hmk,h⟩:=bind_some h;obtain⟨y,hl,h⟩:=bind_some h;refine⟨en106,λX w H ν l hν hS hl'=>?_⟩;have h0:St (FX X w H ν) ⟨8,eZ 0 (zF s),qk 0 [.lf (.ptr 0 0)]⟩ (lY l) w:=
  ⟨ν,hν,bQ _,λ_ _=>rfl,hS,Bm 0 hl' (λi v hi=>by rw[ff];simp[lY,hi])⟩
 have hA:St (FX X w H ν) (LA s) (lY l) w:=St.qi (Vw.st (.comp (fa 0 1) (.comp (fa 0 2) (.comp (dM 3 [] [0]) (.comp (dM 4 [] [0]) (.comp (dM 5 [] [0]) (.comp (dM 6 [] [0]) (fa 0 7))))))) h0) j8 rfl rfl rfl rfl;refine UQ (n:=66) Tryz.func106 rfl rfl (by rw[hl'.length];decide) ?_;refine Aw.seq3 (J:=λe w'=>St (FX X w H ν) (LY s OZ y) e w') ?pre λe1 w1 g1=>?_
 case pre=>
  refine(Gs.ok (F:=FX X w H ν) (tb:=tv) (L:=LA s) ?_).ok _ _ hA;refine gM aE (bq hmk) λx1' h=>?_;cases h;refine bk ?_;refine lp (λ⟨y21,x22⟩=>cW 12 [some (.box [(lI .i64 s.n),(.ro aT false s.aA),(.ro bF false s.aV),(.ro bN false s.u),(.ro aY true s.aM),(.ro aE false s.value),(.ro aP false s.aB),(.ro bH false s.aK)]),none,none,none,none,none,none,none,some (.box [(.ptr 0 0)]),some (.box [(lI .i64 0),lN,lN,lN,(lB false),lN,lN,(lI .i64 0)]),some (.box [(.own 11)]),some (.row aE false y21)] [vp 0 0,vp 1 8,vp 2 9,vp 3 10,vi 15 (List.length x1:Int),vi 16 x22]) hl [0,1,2,3,4,5,6,7,8,9,11,10] ?_;rintro⟨y21,x22⟩ oo h hd48;rw[CO]at h;refine cd h (λhc51 h=>?_) (λhc51 h=>?_)
  ·
   refine jn (λx=>x) (λy58=>cW 12 [some (.box [(lI .i64 s.n),(.ro aT false s.aA),(.ro bF false s.aV),(.ro bN false s.u),(.ro aY true s.aM),(.ro aE false s.value),(.ro aP false s.aB),(.ro bH false s.aK)]),none,none,none,none,none,none,none,some (.box [(.ptr 0 0)]),some (.box [(lI .i64 0),lN,lN,lN,(lB false),lN,lN,(lI .i64 0)]),some (.box [(.own 11)]),some (.row aE false y58)] [vp 0 0,vp 1 8,vp 2 9,vp 3 10,vi 15 (List.length x1:Int),vi 16 x22]) h (λs59 h g60=>?_) ?_
   ·
    refine bk ?_;refine bP h λx61 h=>?_;refine cd h (λhc62 h=>?_) (λhc62 h=>?_)
    ·
     refine dr mixed ?_;refine bP h λx63 h=>?_;refine cC h λx64 h=>?_;refine ej false h λx65 h=>?_;refine dk ?_;cases h;exact bj _ lV
    ·
     cases h;exact bj _ lV
   ·
    intro y58 h
    try dsimp only at h
    cases h;exact bl lV
  ·
   cases h;cases hd48 _ rfl;exact vU _ lV
 clear hA h0 hl hmk;exact Vx N s r y h g1
end Go.Proofs.YtipdkfmhfakbnaaGreatDoor.OB

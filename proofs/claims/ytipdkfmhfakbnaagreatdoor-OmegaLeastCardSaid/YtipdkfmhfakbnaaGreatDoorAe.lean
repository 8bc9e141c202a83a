/- Plain theorems and definitions of this seat, several texts in one. -/
import Derived.Test.YtipdkfmhfakbnaaGreatDoorAd
import Derived.Test.YtipdkfmhfakbnaaGreatDoorAa
set_option linter.unusedVariables false
set_option linter.unusedSimpArgs false
set_option linter.unusedSectionVars false
namespace Go.D
open Go Go.X
def Dr(N:Nat)(l:(List aC)):(Bool×(List Int)×Int)->Option (aJ (Bool×(List Int)×Int) (Bool×(List Int)))
 |(b,c,a)=>(if(a:Int)<(List.length l:Int)then (idx l a).bind λe=>(uE N (aC.mk b c) e).bind λd=>some (aJ.next (d.bM,d.aQ,(iw (a+1)))) else some (aJ.done (b,c)))
def xm(N:Nat)(l:(List aC)):Option aC:=(bS (Dr N l) N (false,[],0)).bind λss=>match ss with
  |(a,b)=>some (aC.mk a b)
def BP(N:Nat)(l:(List aC)):((List aC)×Int)->Option (aJ ((List aC)×Int) (List aC))
 |(b,a)=>(if(a:Int)<(List.length l:Int)then (idx l a).bind λc=>(jA N c).bind λd=>(idx b a).bind λf=>(dM b a d).bind λe=>some (aJ.next (e,(iw (a+1)))) else some (aJ.done b))
def ns(N:Nat)(l:(List aC)):Option (List aC):=(gF (α:=aC) 32 (aC.mk false []) (List.length l:Int)).bind λx2=>(bS (BP N l) N (x2,0)).bind λss=>match ss with
  |a=>some a
def DL(N:Nat)(g:(List aC)):((List (List UInt8))×Int)->Option (aJ ((List (List UInt8))×Int) (List (List UInt8)))
 |(b,a)=>(if(a:Int)<(List.length g:Int)then (idx g a).bind λc=>(wB N c).bind λd=>(cZ 16 b [d]).bind λe=>some (aJ.next (e,(iw (a+1)))) else some (aJ.done b))
def vI(N:Nat)(g:(List aC)):Option (List UInt8):=(bS (DL N g) N (([]:(List (List UInt8))),0)).bind λss=>match ss with
  |a=>(rG N a ([32]:List UInt8)).bind λb=>some b
def G5(N:Nat)(pa:Int)(cr:(List bB)):(aC×Int)->Option (aJ (aC×Int) aC)
 |(b,a)=>(if(a:Int)<(List.length cr:Int)then (idx cr a).bind λc=>(idx c.g pa).bind λd=>(iY N d b).bind λe=>(if(e:Int)>0 then (idx c.g pa).bind λf=>some (aJ.next (f,(iw (a+1)))) else some (aJ.next (b,(iw (a+1))))) else some (aJ.done b))
def pB(N:Nat)(pa:Int)(low:bB)(cr:(List bB)):Option aC:=(idx cr 0).bind λc=>(idx c.g pa).bind λd=>(bS (G5 N pa cr) N (d,0)).bind λss=>match ss with
  |a=>(idx low.g pa).bind λe=>(jA N e).bind λb=>(kB N a b).bind λf=>(jk N f a).bind λi=>(jk N i b).bind λj=>(kS N j a).bind λk=>some k.1
def FP(N:Nat)(x:bB):(Int×Int×Int)->Option (aJ (Int×Int×Int) (Int×Int))
 |(c,b,a)=>(if(a:Int)<(List.length x.g:Int)then (idx x.g a).bind λd=>(gV N d).bind λe=>(if(e:Int)≠0 then some (aJ.next (a,(iw (b+1)),(iw (a+1)))) else some (aJ.next (c,b,(iw (a+1))))) else some (aJ.done (c,b)))
def uq(N:Nat)(x:bB):Option (Int×Bool):=(bS (FP N x) N (0,0,0)).bind λss=>match ss with
  |(a,b)=>some (a,(decide ((b:Int)=1)))
def Cd(N:Nat)(pb:Int)(pc:Int)(r1:(List bB)):((List bB)×Int)->Option (aJ ((List bB)×Int) (List bB))
 |(b,a)=>(if(a:Int)<(List.length r1:Int)then (idx b a).bind λc=>(if(c.pos:Int)=pb then (idx b a).bind λd=>(dM b a (bB.mk pc d.g)).bind λe=>some (aJ.next (e,(iw (a+1)))) else some (aJ.next (b,(iw (a+1))))) else some (aJ.done b))
def wg(N:Nat)(l:(List bB))(pb:Int)(pc:Int):Option (List bB):=(rE N l).bind λr1=>(bS (Cd N pb pc r1) N (r1,0)).bind λss=>match ss with
  |a=>some a
def wA(N:Nat)(n:Int)(pb:Int)(sign:Int)(bound:aC):Option bG:=(gF (α:=aC) 32 (aC.mk false []) n).bind λa=>(gj N sign).bind λb=>(idx a pb).bind λd=>(dM a pb b).bind λc=>some (bG.mk c bound)
def qT(N:Nat)(a:aC)(b:aC):Option Bool:=(iY N a b).bind λc=>some (decide ((c:Int)=0))
def ru(N:Nat)(x:aC):Option aC:= some (aC.mk false x.aQ)
def uC(N:Nat)(x:bB)(ca:Int)(cb:(List bB)):Option Bool:=(pB N ca x cb).bind λr8=>(gV N r8).bind λa=>some (decide ((a:Int)≥0))
def uz(N:Nat)(x:bB)(ca:Int):Option Bool:=(idx x.g ca).bind λx7=>(gV N x7).bind λa=>some (decide ((a:Int)≠0))
open Go Go.X
def dec(n:Nat):List UInt8:=if h:n=0 then[]else dec (n/10)++[UInt8.ofNat (48+n%10)]
termination_by n
decreasing_by omega
def qN(c:UInt8):Prop:=48<=c.toNat/\c.toNat<=57
instance (c:UInt8):Decidable (qN c):=inferInstanceAs (Decidable (_/\_))
def tF(s:List UInt8):Nat:=s.foldl (λv c=>10*v+(c.toNat-48)) 0
theorem Uy(s:List UInt8)(c:UInt8):tF (s++[c])=10*tF s+(c.toNat-48):=by simp[tF,NX]
theorem JT{r:Nat}(h:r<10):(UInt8.ofNat (48+r)).toNat=48+r:=by
 rw[UInt8.toNat_ofNat'];omega
theorem Py{r:Nat}(h:r<10):qN (UInt8.ofNat (48+r)):=by
 unfold qN;rw[JT h];omega
theorem uk:dec 0=[]:=by rw[dec];simp
theorem vm{n:Nat}(h:0<n):dec n=dec (n/10)++[UInt8.ofNat (48+n%10)]:=by
 rw[dec,dif_neg (by omega)]
theorem Ss{n:Nat}(h:0<n):dec n≠[]:=by rw[vm h];simp
theorem RX(n:Nat):tF (dec n)=n:=by
 induction n using Nat.strongRecOn with
 |ind n ih=>
  rcases gQ n with rfl|h
  . rw[uk];rfl
  . rw[vm h,Uy,ih (n/10) (by omega),JT (by omega)];omega
theorem A7(n:Nat):∀c∈dec n,qN c:=by
 induction n using Nat.strongRecOn with
 |ind n ih=>
  rcases gQ n with rfl|h
  . rw[uk];simp
  . rw[vm h];intro c hc;rcases fe.1 hc with hc|hc
    . exact ih (n/10) (by omega) c hc
    . rw[cG.1 hc];exact Py (by omega)
theorem rW{n:Nat}(h:0<n):Go.Lib.decDigits n=dec n:=by
 induction n using Nat.strongRecOn with
 |ind n ih=>
  rw[Go.Lib.decDigits];split
  . rename_i h10;rw[vm h,show n/10=0 by omega,uk,show n%10=n by omega];rfl
  . rw[ih (n/10) (by omega) (by omega),vm h]
theorem B5:Go.Lib.decDigits 0=[48]:=by rw[Go.Lib.decDigits,dif_pos (by omega)];rfl
def pad:Nat->Nat->List UInt8
 |0,_=>[]
 |k+1,r=>pad k (r/10)++[UInt8.ofNat (48+r%10)]
theorem Kb:∀{k q r:Nat},0<q->r<10^k->dec (q*10^k+r)=dec q++pad k r
 |0,q,r,h,hr=>by
  have:r=0:=by simpa using hr
  rw[this,pad];simp
 |k+1,q,r,h,hr=>by
  have hm:0<10^k:=Nat.pow_pos (by omega);have hq:0<q*10^k:=Nat.mul_pos h hm;have hpow:10^(k+1)=10*10^k:=by rw[wO,Nat.mul_comm]
  have e:q*10^(k+1)=10*(q*10^k):=by rw[hpow,Nat.mul_left_comm]
  rw[e]at*;rw[vm (by omega),show(10*(q*10^k)+r)/10=q*10^k+r/10 by omega,show(10*(q*10^k)+r)%10=r%10 by omega,Kb h (by omega),pad,jy]
theorem L5:∀{k:Nat},pad k 0=List.replicate k 48
 |0=>rfl
 |k+1=>by rw[pad,L5,List.replicate_succ'];rfl
theorem Gi:∀{k r:Nat},0<k->r<10^k->(Go.Lib.decDigits r).length<=k
 |0,_,h,_=>by omega
 |k+1,r,_,hr=>by
  rw[Go.Lib.decDigits];split
  . simp
  . have hk:0<k:=by
     rcases gQ k with rfl|h
     . simp at hr;omega
     . exact h
    have:=Gi (k:=k) (r:=r/10) hk (by rw[wO]at hr;omega);simp;omega
theorem KI:∀{k r:Nat},0<k->r<10^k->pad k r=List.replicate (k-(Go.Lib.decDigits r).length) 48++Go.Lib.decDigits r
 |0,_,h,_=>by omega
 |k+1,r,_,hr=>by
  rw[Go.Lib.decDigits,pad];split
  . rw[show r/10=0 by omega,L5,show r%10=r by omega];simp
  . have hk:0<k:=by
     rcases gQ k with rfl|h
     . simp at hr;omega
     . exact h
    rw[KI (k:=k) hk (by rw[wO]at hr;omega)];rw[di,<-jy];congr 2;congr 1;show _=k+1-(_+1);omega
theorem repeatL_one:∀{c:Nat},Go.Lib.repeatL [48] c=List.replicate c (48:UInt8)
 |0=>rfl
 |c+1=>by rw[Go.Lib.repeatL,repeatL_one,zo];rfl
theorem Sz:∀{xs:List (List UInt8)},Go.Lib.join xs []=xs.flatten
 |[]=>rfl
 |x::xs=>by
  rw[Go.Lib.join_cons,Go.Lib.joinTail];simp
def fF(v:Int):List UInt8:=if v<0 then 45::dec v.natAbs else Go.Lib.decDigits v.toNat
theorem vY{v:Int}(h:v<0):fF v=45::dec v.natAbs:=by rw[fF,bD h]
theorem wv{v:Int}(h:0<v):fF v=dec v.toNat:=by rw[fF,aY (by omega),rW (by omega)]
theorem xA:fF 0=[48]:=by rw[fF,aY (by omega)];exact B5
def body(s:List UInt8):List UInt8:=Go.Lib.trimPrefix s [45]
theorem FU{c:UInt8}{s:List UInt8}:body (c::s)=if c=45 then s else c::s:=by
 unfold body Go.Lib.trimPrefix Go.Lib.hasPrefix;by_cases h:c=45
 . subst h;rw[bD rfl,bD (by rfl)];rfl
 . rw[aY h,aY];intro e;have e1:([45]:List UInt8).isPrefixOf (c::s)=true:=e;rw[List.isPrefixOf_cons_cons]at e1;simp only[fZ,beq_iff_eq]at e1;exact h e1.1.symm
theorem Px:body []=[]:=by
 unfold body Go.Lib.trimPrefix Go.Lib.hasPrefix;simp
theorem Ko{c:UInt8}(h:qN c):c≠45:=by
 intro e;subst e;unfold qN at h;simp at h
theorem P3(v:Int):body (fF v)=Go.Lib.decDigits v.natAbs:=by
 rcases qx v 0 with h|rfl|h
 . rw[vY h,FU,bD rfl,rW (by omega)]
 . rw[xA,FU,aY (by decide)];exact B5.symm
 . rw[wv h,rW (by omega),show v.natAbs=v.toNat by omega];cases hd:dec v.toNat with
   |nil=>exact Px
   |cons c t=>rw[FU,aY (Ko (A7 v.toNat c (by rw[hd];exact cX)))]
theorem Ls(n:Nat):Go.Lib.decDigits n≠[]:=by
 rcases gQ n with rfl|h
 . rw[B5];simp
 . rw[rW h];exact Ss h
theorem U4(n:Nat):tF (Go.Lib.decDigits n)=n:=by
 rcases gQ n with rfl|h
 . rw[B5];rfl
 . rw[rW h];exact RX n
def sval(s:List UInt8):Int:=if s.head?=some 45 then-(tF (body s):Int)else tF (body s)
theorem LL(v:Int):sval (fF v)=v:=by
 unfold sval;rw[P3,U4];rcases qx v 0 with h|rfl|h
 . rw[bD (by rw[vY h];rfl)];omega
 . rw[aY (by rw[xA];decide)];rfl
 . rw[aY]
   . omega
   . rw[wv h];intro e;have:=A7 v.toNat 45 (List.mem_of_head? e);exact Ko this rfl
theorem ED{B:Int}(hB:0<B){l:List Int}{v:Int}(h:Dg B l v):(List.length l:Int)>0↔v≠0:=by
 have:=h.zero hB;cases l with
 |nil=>
  have h0:=this.1 rfl;simp[h0]
 |cons x l=>
  have h0:v≠0:=λe=>by have:=this.2 e;cases this
  simp only[cJ];exact⟨λ_=>h0,λ_=>by omega⟩
theorem Kv:aE^10<=(10:Int)^97:=by decide+kernel
theorem BA{n:Nat}(h:n<10^97):(dec n).length<=97:=by
 rcases gQ n with rfl|h0
 . rw[uk];simp
 . rw[<-rW h0];exact Gi (by omega) h
theorem Fu:∀{xs:List (List UInt8)},(∀p∈xs,p≠[])->xs.length<=xs.flatten.length
 |[],_=>by simp
 |x::xs,h=>by
  have h1:=Fu (xs:=xs) (λp hp=>h p (cO _ hp));have h2:=h x cX;have:0<x.length:=rQ.2 h2;simp at h1⊢;omega
theorem Vs{i:Int}{n:Nat}(h:i=(n:Int))(hn:n<18446744073709551616):Tm (λN=>yz N i 10) (λr=>r=Go.Lib.decDigits n):=
 ⟨_,0,rfl,λN _=>by subst h;unfold yz;rw[bD ⟨by omega,by omega,rfl⟩,mh]⟩
theorem UE{i:Int}{n:Nat}(h:i=(n:Int))(hn:n<1000):Tm (λN=>xg N [48] i) (λr=>r=List.replicate n 48):=
 ⟨_,0,rfl,λN _=>by subst h;unfold xg;rw[bD ⟨by omega,by omega,by simp only[cJ,dZ];omega⟩,mh,repeatL_one]⟩
theorem VG{xs:List (List UInt8)}(h:xs.length<=1000)(h':xs.flatten.length<=1000):Tm (λN=>rG N xs []) (λr=>r=xs.flatten):=
 ⟨_,0,rfl,λN _=>by unfold rG;rw[Sz,bD ⟨by omega,by omega⟩]⟩
theorem Rq{x:aC}(hd:bF aE x.aQ)(hl:x.aQ.length<=10):Tm (λN=>wB N x) (λr=>r=fF (bv x)):=by
 unfold wB;refine Tm.bind (pG hd (by omega)) ?_;rintro y ⟨hy,hyl⟩;have hz:=hy.dg.zero (by decide);refine bA (λh=>aW ?_) (λh=>?_)
 . have:y.aQ=[]:=mU.1 (by omega);have h0:bv x=0:=by have:=hz.1 this;omega
   rw[h0,xA]
 . have hne:y.aQ≠[]:=λe=>h (by rw[e];rfl);have h0:bv x≠0:=λe=>hne (hz.2 (by omega));generalize hV:(bv x).natAbs=V at*;have hVlt:V<10^97:=by
    have h1:=iG (B:=aE) (by decide) hy.dg.bP;have h2:=kO (B:=aE) (by decide) (show y.aQ.length<=10 by omega);have h3:=Kv;rw[hy.dg.val]at h1;have:(V:Int)<((10^97:Nat):Int):=by rw[Da];omega
    exact Int.ofNat_lt.1 this
   refine Tm.bind (Q:=λparts:List (List UInt8)=>parts.reverse.flatten=dec V/\∀p∈parts,p≠[])
    (Tm.loop (λt:List (List UInt8)×List Int=>∃n:Nat,Dg aE t.2 n/\t.2.length<=10/\dec n++t.1.reverse.flatten=dec V/\∀p∈t.1,p≠[]) (λt=>(val aE t.2).toNat)
     ⟨V,by rw[<-hV];exact hy.dg,by show y.aQ.length<=10;omega,by simp,by simp⟩ ?_) ?_
   . rintro⟨parts,d⟩ ⟨n,hdn,hdl,hf,hp⟩;dsimp only[EW]at*;have hpl:parts.length<=97:=by
      have h1:=Fu (xs:=parts.reverse) (λp hp'=>hp p (List.mem_reverse.1 hp'));have h2:=dz List.length hf;have h3:=BA hVlt;rw[di]at h2;rw[N9]at h1;omega
     refine bA (λh=>?_) (λh=>aW ?_)
     . have hn0:(n:Int)≠0:=(ED (by decide) hdn).1 h;refine Tm.bind (HN hdn.bP (by decide) (by decide) (by omega)) ?_;rintro⟨q,r⟩ ⟨hq1,hq2,hq3,hq4⟩;dsimp only at*;rw[hdn.val]at hq2 hq3;have hq2':val aE q=((n/1000000000:Nat):Int):=by rw[hq2];omega
       have hr':r=((n%1000000000:Nat):Int):=by rw[hq3];omega
       refine Tm.bind (qg hq1 (by omega)) ?_;rintro d' ⟨hd',hdl'⟩;rw[hq2']at hd';have hpos:=ED (by decide) hd';have hlt:n%1000000000<10^9:=by omega
       have hdl9:=Gi (k:=9) (by omega) hlt;have huw:uw r=((n%1000000000:Nat):Int):=by rw[hr'];exact ia (by omega) (by omega)
       refine Tm.bind (Vs huw (by omega)) ?_;rintro _ rfl;have hμ:(val aE d').toNat<(val aE d).toNat:=by rw[hd'.val,hdn.val];omega
       refine Tm.bind (Q:=λs=>s≠[]/\dec n=dec (n/1000000000)++s) (bA (λh=>?_) (λh=>aW ?_)) ?_
       . have hc:iw (9-((Go.Lib.decDigits (n%1000000000)).length:Int))=((9-(Go.Lib.decDigits (n%1000000000)).length:Nat):Int):=by rw[bL]<;>omega
         refine Tm.bind (UE hc (by omega)) ?_;rintro _ rfl;refine aL (yM (by rw[lE];omega)) (aW ⟨?_,?_⟩)
         . intro e;exact Ls _ (Hb.1 e).2
         . rw[<-KI (by omega) hlt,<-Kb (by have:=hpos.1 h;omega) hlt];congr 1;omega
       . have hq0:n/1000000000=0:=by
          rcases gQ (n/1000000000)with h1|h1
          . exact h1
          . exact bV (hpos.2 (by omega)) h
         refine⟨Ls _,?_⟩;rw[hq0,uk,show n%1000000000=n by omega,rW (by omega)];rfl
       . rintro s ⟨hs1,hs2⟩;refine aL (eb (by simp only[cJ,dZ];omega) (by decide)) (aW ⟨⟨n/1000000000,hd',by show d'.length<=10;omega,?_,?_⟩,hμ⟩)
         . rw[<-hf,hs2];simp
         . intro p hp';rcases fe.1 hp' with h1|h1
           . exact hp p h1
           . rw[cG.1 h1];exact hs1
     . have hn0:n=0:=by
        rcases gQ n with h1|h1
        . exact h1
        . exact bV ((ED (by decide) hdn).2 (by omega)) h
       rw[hn0,uk]at hf;exact⟨by simpa using hf,hp⟩
   . rintro parts ⟨hf,hp⟩;have hlen:parts.length<=97:=by
      have h1:=Fu (xs:=parts.reverse) (λp hp'=>hp p (List.mem_reverse.1 hp'));have h3:=BA hVlt;rw[hf,N9]at h1;omega
     refine Tm.bind (Q:=λps:List (List UInt8)=>ps.reverse.flatten=fF (bv x)/\ps.length<=98) (bA (λh=>?_) (λh=>aW ?_)) ?_
     . refine aL (eb (by simp only[cJ,dZ];omega) (by decide)) (aW ⟨?_,by simp;omega⟩);have:bv x<0:=by rw[hy.neg]at h;simpa using h
       rw[vY this,Oa,hV,<-hf];rfl
     . have:¬bv x<0:=by rw[hy.neg]at h;simpa using h
       rw[wv (by omega),hf,show(bv x).toNat=V by omega];exact⟨rfl,by omega⟩
     . rintro ps ⟨h1,h2⟩;have h3:(fF (bv x)).length<=98:=by
        have h3:=BA hVlt;rcases qx (bv x) 0 with h|h|h
        . rw[vY h,cJ,hV];omega
        . exact bV h h0
        . rw[wv h,show(bv x).toNat=V by omega];omega
       refine aV (a:=ps.reverse) ⟨_,0,rfl,λN _=>by unfold ze;rw[bD (by omega)]⟩ ?_;refine Tm.bind (VG (by rw[N9];omega) (by rw[h1];omega)) ?_;rintro _ rfl;exact aW h1
theorem IX{v w:Int}(h:fF v=fF w):v=w:=by rw[<-LL v,h,LL]
theorem CE(v:Int):∀c∈fF v,c≠32:=by
 intro c hc e;subst e;have key:∀{l:List UInt8},(∀c∈l,qN c)->(32:UInt8)∈l->False:=λh h'=>by have:=h _ h';unfold qN at this;simp at this
 rcases qx v 0 with h|rfl|h
 . rw[vY h]at hc;rcases ej.1 hc with h1|h1
   . cases h1
   . exact key (A7 _) h1
 . rw[xA]at hc;simp at hc
 . rw[wv h]at hc;exact key (A7 _) hc
theorem Mq{v:Int}(h:dl v<=10):(fF v).length<=98:=by
 have h1:=rB v;have h2:=wx h;have h3:=Kv;have hV:v.natAbs<10^97:=by
  have:(v.natAbs:Int)<((10^97:Nat):Int):=by rw[Da];omega
  exact Int.ofNat_lt.1 this
 have h4:=BA hV;rcases qx v 0 with h|rfl|h
 . rw[vY h,cJ];omega
 . rw[xA];decide
 . rw[wv h,show v.toNat=v.natAbs by omega];omega
theorem Tt{v:Int}(h:dl v<=10):Tm (λN=>wB N (B v)) (·=fF v):=(Rq (bP v) h).mono λr h=>by rw[gI]at h;exact h
def keyOf(g:List Int):List UInt8:=Go.Lib.join (g.map fF) [32]
theorem BU:∀{x y T U:List UInt8},(∀c∈x,c≠32)->(∀c∈y,c≠32)->(∀c,T.head?=some c->c=32)->(∀c,U.head?=some c->c=32)->x++T=y++U->x=y/\T=U
 |[],[],T,U,_,_,_,_,h=>⟨rfl,h⟩
 |[],d::y,T,U,_,hy,hT,_,h=>by
  have:T.head?=some d:=by rw[show T=d::y++U from h];rfl
  exact bV (hT d this) (hy d cX)
 |c::x,[],T,U,hx,_,_,hU,h=>by
  have:U.head?=some c:=by rw[show U=c::x++T from h.symm];rfl
  exact bV (hU c this) (hx c cX)
 |c::x,d::y,T,U,hx,hy,hT,hU,h=>by
  have h:c::(x++T)=d::(y++U):=h;obtain⟨e1,e2⟩:=wP h;subst e1;obtain⟨rfl,h2⟩:=BU (λc hc=>hx c (cO _ hc)) (λc hc=>hy c (cO _ hc)) hT hU e2;exact⟨rfl,h2⟩
theorem Bf{r:List (List UInt8)}:∀c,(Go.Lib.joinTail [32] r).head?=some c->c=32:=by
 intro c h;cases r with
 |nil=>cases h
 |cons x r=>simp[Go.Lib.joinTail]at h;exact h.symm
theorem Iy:∀{g h:List Int},g.length=h.length->Go.Lib.joinTail [32] (g.map fF)=Go.Lib.joinTail [32] (h.map fF)->g=h
 |[],[],_,_=>rfl
 |v::g,w::h,hl,e=>by
  have e:(32:UInt8)::(fF v++Go.Lib.joinTail [32] (g.map fF))=32::(fF w++Go.Lib.joinTail [32] (h.map fF)):=by simpa[Go.Lib.joinTail]using e
  obtain⟨h1,h2⟩:=BU (CE v) (CE w) Bf Bf (wP e).2;rw[IX h1,Iy (by simpa using hl) h2]
theorem IB{g h:List Int}(hl:g.length=h.length)(e:keyOf g=keyOf h):g=h:=by
 cases g with
 |nil=>cases h with
  |nil=>rfl
  |cons w h=>cases hl
 |cons v g=>
  cases h with
  |nil=>cases hl
  |cons w h=>
   unfold keyOf at e;rw[kz,kz,Go.Lib.join_cons,Go.Lib.join_cons]at e;obtain⟨h1,h2⟩:=BU (CE v) (CE w) Bf Bf e;rw[IX h1,Iy (by simpa using hl) h2]
theorem JU:∀{g:List Int},(∀v∈g,dl v<=10)->(Go.Lib.joinTail [32] (g.map fF)).length<=99*g.length
 |[],_=>by simp[Go.Lib.joinTail]
 |v::g,h=>by
  have h1:=JU (g:=g) λw hw=>h w (cO _ hw);have h2:=Mq (h v cX);have e:Go.Lib.joinTail [32] ((v::g).map fF)=(32:UInt8)::(fF v++Go.Lib.joinTail [32] (g.map fF)):=by simp[Go.Lib.joinTail]
  rw[e,cJ,di,cJ];omega
theorem U2{g:List Int}(h:∀v∈g,dl v<=10):(keyOf g).length<=99*g.length:=by
 cases g with
 |nil=>simp[keyOf,Go.Lib.join_nil]
 |cons v g=>
  have h1:=JU (g:=g) λw hw=>h w (cO _ hw);have h2:=Mq (h v cX);unfold keyOf;rw[kz,Go.Lib.join_cons,di,cJ];omega
theorem Ke{g:List Int}(hl:g.length<=1000)(h:∀v∈g,dl v<=10):Tm (λN=>vI N (g.map B)) (·=keyOf g):=by
 unfold vI;refine aV (a:=g.map fF) (e9 g.length (λk s=>s.2=(k:Int)/\s.1=(g.take k).map fF) ⟨rfl,rfl⟩ ?_) ?_
 . rintro k hk ⟨l,i⟩ ⟨rfl,rfl⟩;dsimp only[DL];rw[cT];refine bA (λhlt=>?_) (λhge=>aI ?_)
   . have hlt:k<g.length:=by omega
     refine aL (dA (by rw[cT];exact hlt)) ?_;rw[lG];refine aV (Tt (h _ (dJ hlt))) (aL (eb (by simp only[cJ,dZ,cT,fA];omega) (by decide)) (aI ⟨hlt,eK (by omega),?_⟩));show _=(g.take (k+1)).map fF;rw[<-j9 hlt,jP];rfl
   . show _=_;rw[fC (by omega)]
 . have:=U2 h;refine aV (a:=keyOf g) ⟨_,0,rfl,λN _=>?_⟩ (aI rfl);show rG N (g.map fF) [32]=some (keyOf g);unfold rG;rw[bD ⟨by rw[cT];omega,by show(keyOf g).length<=_;omega⟩];rfl
open Go Go.X
def mq(N:Nat)(s:aS)(x:bB):Option aC:=(idx s.aA x.pos).bind λx1=>some x1.dO
def yU(N:Nat)(s:aS)(x:bB):Option aC:=(idx s.aA x.pos).bind λx1=>some x1.dO
def yD(N:Nat)(Coefs138:(List aC))(b:bG)(c:eh):((List aC)×Int)->Option (aJ ((List aC)×Int) (List aC))
 |(Coefs375,a)=>(if(a:Int)<(List.length Coefs138:Int)then (idx Coefs375 a).bind λd=>(idx b.bE a).bind λe=>(kB N c.N e).bind λf=>(js N d f).bind λg=>(idx Coefs375 a).bind λj=>(dM Coefs375 a g).bind λi=>some (aJ.next (i,(iw (a+1)))) else some (aJ.done Coefs375))
def A5(N:Nat)(s:aS)(cU:(List eh)):((List aC)×aC×Int)->Option (aJ ((List aC)×aC×Int) ((List aC)×aC))
 |(Coefs138,Bound139,a)=>(if(a:Int)<(List.length cU:Int)then (idx cU a).bind λb=>(idx s.aA b.Index).bind λc=>(bS (yD N Coefs138 c b) N (Coefs138,0)).bind λss=>match ss with
    |Coefs397=>(kB N b.N c.dO).bind λd=>(js N Bound139 d).bind λe=>some (aJ.next (Coefs397,e,(iw (a+1)))) else some (aJ.done (Coefs138,Bound139)))
def xD(N:Nat)(d:aC)(Coefs280:(List aC)):((List aC)×Int)->Option (aJ ((List aC)×Int) (List aC))
 |(Coefs434,a)=>(if(a:Int)<(List.length Coefs280:Int)then (idx Coefs434 a).bind λb=>(kS N b d).bind λc=>(idx Coefs434 a).bind λf=>(dM Coefs434 a c.1).bind λe=>some (aJ.next (e,(iw (a+1)))) else some (aJ.done Coefs434))
def qM(N:Nat)(s:aS)(cU:(List eh))(d:aC):Option bG:=(gF (α:=aC) 32 (aC.mk false ([]:(List Int))) s.n).bind λx1=>(bS (A5 N s cU) N (x1,(aC.mk false ([]:(List Int))),0)).bind λss=>match ss with
  |(Coefs280,Bound281)=>(bS (xD N d Coefs280) N (Coefs280,0)).bind λss=>match ss with
    |Coefs452=>(kS N Bound281 d).bind λa=>some (bG.mk Coefs452 a.1)
def yV(N:Nat)(g:(List aC))(d6:aC):((List aC)×Int)->Option (aJ ((List aC)×Int) (List aC))
 |(b,a)=>(if(a:Int)<(List.length g:Int)then (idx g a).bind λc=>(kS N c d6).bind λd=>(idx b a).bind λf=>(dM b a d.1).bind λe=>some (aJ.next (e,(iw (a+1)))) else some (aJ.done b))
def tg(N:Nat)(s:aS)(g:(List aC))(cU:(List eh)):Option (bB×Bool×Bool×aS):=(xm N g).bind λr1=>(gV N r1).bind λr2=>((((if¬((r2:Int)≠0)then (gj N 1).bind λj=>some j else some r1)):Option aC)).bind λss=>match ss with
  |d6=>(gj N 1).bind λa=>((((if((List.length cU:Int):Int)>1 then some true else (idx cU 0).bind λk=>(iY N k.N a).bind λl=>(if(l:Int)≠0 then some true else (iY N d6 a).bind λm=>some (decide ((m:Int)≠0))))):Option Bool)).bind λss=>match ss with
    |o=>((((if o=true then (cZ 56 s.aU [(Step.mk cU d6)]).bind λf=>(qM N (aS.mk s.n s.aA f s.u s.aN s.value s.aB s.aK) cU d6).bind λp=>(cZ 56 s.aA [p]).bind λi=>some (i,f,[(eh.mk (iw ((List.length i:Int)-1)) a)]) else some (s.aA,s.aU,cU))):Option ((List bG)×(List Step)×(List eh)))).bind λss=>match ss with
      |(b,c,v)=>(idx v 0).bind λd=>(gF (α:=aC) 32 (aC.mk false ([]:(List Int))) s.n).bind λy=>(bS (yV N g d6) N (y,0)).bind λss=>match ss with
        |e=>(if(r2:Int)≠0 then some ((bB.mk d.Index e),(decide ((r2:Int)≠0)),true,(aS.mk s.n b c s.u s.aN s.value s.aB s.aK)) else (mq N (aS.mk s.n b c s.u s.aN s.value s.aB s.aK) (bB.mk d.Index e)).bind λa0=>(gV N a0).bind λa1=>some ((bB.mk d.Index e),(decide ((r2:Int)≠0)),(decide ((a1:Int)≥0)),(aS.mk s.n b c s.u s.aN s.value s.aB s.aK)))
def AW(N:Nat)(s:aS)(x:bB):Int->Option (aJ Int (Sum Unit aS))
 |a=>(if(a:Int)<(List.length s.aB:Int)then (idx s.aB a).bind λb=>(w8 N x.g b.g (λy0 y1=>qT N y0 y1)).bind λc=>(if c=true then (mq N s x).bind λd=>(mq N s b).bind λe=>(iY N d e).bind λf=>(if(f:Int)<0 then (idx s.aB a).bind λj=>(dM s.aB a x).bind λi=>some (aJ.done (Sum.inr (aS.mk s.n s.aA s.aU s.u s.aN s.value i s.aK))) else some (aJ.done (Sum.inr s))) else some (aJ.next (iw (a+1)))) else some (aJ.done (Sum.inl ())))
def l6(N:Nat)(s:aS)(x:bB):Option aS:=(bS (AW N s x) N 0).bind λss=>match ss with
  |(Sum.inl _)=>(cZ 32 s.aB [x]).bind λa=>some (aS.mk s.n s.aA s.aU s.u s.aN s.value a s.aK)
  |(Sum.inr z)=>some z
def nN(N:Nat)(s:aS)(g:(List aC))(cU:(List eh)):Option (Bool×aS):=(tg N s g cU).bind λr1=>((((if r1.2.1=true then (l6 N (aS.mk s.n r1.2.2.2.aA r1.2.2.2.aU r1.2.2.2.u r1.2.2.2.aN r1.2.2.2.value r1.2.2.2.aB r1.2.2.2.aK) r1.1).bind λa=>some (a.aA,a.aU,a.u,a.aN,a.value,a.aB,a.aK) else some (r1.2.2.2.aA,r1.2.2.2.aU,r1.2.2.2.u,r1.2.2.2.aN,r1.2.2.2.value,r1.2.2.2.aB,r1.2.2.2.aK))):Option ((List bG)×(List Step)×(List (List aC))×(List Int)×(List aC)×(List bB)×(List dW)))).bind λss=>match ss with
  |(known5,steps6,u7,status8,value9,b,c)=>some (r1.2.2.1,(aS.mk s.n known5 steps6 u7 status8 value9 b c))
def EJ(N:Nat)(s:aS):((List bG)×(List Step)×(List (List aC))×(List Int)×(List aC)×(List bB)×(List dW)×Int)->Option (aJ ((List bG)×(List Step)×(List (List aC))×(List Int)×(List aC)×(List bB)×(List dW)×Int) (Sum ((List bG)×(List Step)×(List (List aC))×(List Int)×(List aC)×(List bB)×(List dW)) (Bool×aS)))
 |(c,d,e,f,g,i,j,b)=>(if(b:Int)<(List.length s.aA:Int)then (idx c b).bind λk=>(oP N k.bE).bind λl=>(gj N 1).bind λm=>(nN N (aS.mk s.n c d e f g i j) l [(eh.mk b m)]).bind λa=>(if(!a.1)=true then some (aJ.done (Sum.inr (false,(aS.mk s.n a.2.aA a.2.aU a.2.u a.2.aN a.2.value a.2.aB a.2.aK)))) else some (aJ.next (a.2.aA,a.2.aU,a.2.u,a.2.aN,a.2.value,a.2.aB,a.2.aK,(iw (b+1))))) else some (aJ.done (Sum.inl (c,d,e,f,g,i,j))))
def uH(N:Nat)(s:aS):Option (Bool×aS):=(bS (EJ N s) N (s.aA,s.aU,s.u,s.aN,s.value,s.aB,s.aK,0)).bind λss=>match ss with
  |(Sum.inl (a,b,c,d,e,f,g))=>some (true,(aS.mk s.n a b c d e f g))
  |(Sum.inr z)=>some z
def DM(N:Nat)(s:aS):((List ((List UInt8)×Int))×Int)->Option (aJ ((List ((List UInt8)×Int))×Int) (List ((List UInt8)×Int)))
 |(b,a)=>(if(a:Int)<(List.length s.aB:Int)then (idx s.aB a).bind λc=>(vI N c.g).bind λd=>some (aJ.next ((kN b d a),(iw (a+1)))) else some (aJ.done b))
def Ge(N:Nat)(s:aS)(b:(List ((List UInt8)×Int))):Int->Option (aJ Int (Sum Unit (Int×Int×Bool×Bool×aS)))
 |c=>(if(c:Int)<(List.length s.aB:Int)then ((((idx s.aB c).bind λe=>(ns N e.g).bind λi=>(vI N i).bind λd=>((((if(!(fU b d 0).2)=true then some true else some (decide ((((fU b d 0).1):Int)<c)))):Option Bool)).bind λss=>match ss with
    |j=>(if j=true then some (Sum.inl ()) else (mq N s e).bind λk=>(idx s.aB ((fU b d 0).1)).bind λl=>(mq N s l).bind λm=>(js N k m).bind λo=>(gV N o).bind λf=>(if(f:Int)=(-1)then (gF (α:=aC) 32 (aC.mk false ([]:(List Int))) s.n).bind λp=>(gj N 1).bind λv=>(idx s.aB ((fU b d 0).1)).bind λy=>(gj N 1).bind λa0=>(nN N s p [(eh.mk e.pos v),(eh.mk y.pos a0)]).bind λa=>some (Sum.inr (0,0,false,false,(aS.mk s.n a.2.aA a.2.aU a.2.u a.2.aN a.2.value a.2.aB a.2.aK))) else (if(f:Int)=0 then some (Sum.inr (c,(fU b d 0).1,true,true,s)) else some (Sum.inl ()))))):Option (Sum Unit (Int×Int×Bool×Bool×aS)))).bind λss=>match ss with
    |(Sum.inl _)=>some (aJ.next (iw (c+1)))
    |(Sum.inr z)=>some (aJ.done (Sum.inr z)) else some (aJ.done (Sum.inl ())))
def vd(N:Nat)(s:aS):Option (Int×Int×Bool×Bool×aS):=(bS (DM N s) N (([]:(List ((List UInt8)×Int))),0)).bind λss=>match ss with
  |a=>(bS (Ge N s a) N 0).bind λss=>match ss with
    |(Sum.inl _)=>some (0,0,false,true,s)
    |(Sum.inr z)=>some z
def mj(N:Nat)(l:(List aC))(c0:Int)(c1:aC)(c2:Int):Option (List aC):=(oP N l).bind λr1=>(idx r1 c0).bind λx2=>(idx r1 c2).bind λx3=>(kB N c1 x3).bind λr4=>(jk N x2 r4).bind λr5=>(idx r1 c0).bind λx6=>(dM r1 c0 r5).bind λx7=>some x7
def mK(N:Nat)(l:(List aC))(c0:Int):Option (List aC):=(oP N l).bind λr1=>(idx r1 c0).bind λx2=>(jA N x2).bind λr3=>(idx r1 c0).bind λx4=>(dM r1 c0 r3).bind λx5=>some x5
def Cb(N:Nat)(s:aS)(j:Int)(p:Int)(q:aC):((List (List aC))×Int)->Option (aJ ((List (List aC))×Int) (List (List aC)))
 |(b,a)=>(if(a:Int)<(List.length s.u:Int)then (idx b a).bind λc=>((λy0=>mj N y0 j q p) c).bind λd=>(idx b a).bind λf=>(dM b a d).bind λe=>some (aJ.next (e,(iw (a+1)))) else some (aJ.done b))
def AH(N:Nat)(s:aS)(j:Int)(p:Int)(q:aC):((List bB)×Int)->Option (aJ ((List bB)×Int) (List bB))
 |(b,a)=>(if(a:Int)<(List.length s.aB:Int)then (idx b a).bind λc=>((λy0=>mj N y0 j q p) c.g).bind λd=>(idx b a).bind λe=>(dM b a (bB.mk e.pos d)).bind λf=>some (aJ.next (f,(iw (a+1)))) else some (aJ.done b))
def yE(N:Nat)(s:aS)(j:Int)(p:Int)(q:aC):Option aS:=(bS (Cb N s j p q) N (s.u,0)).bind λss=>match ss with
  |a=>(bS (AH N s j p q) N (s.aB,0)).bind λss=>match ss with
    |b=>some (aS.mk s.n s.aA s.aU a s.aN s.value b s.aK)
def BV(N:Nat)(s:aS)(p:Int):((List (List aC))×Int)->Option (aJ ((List (List aC))×Int) (List (List aC)))
 |(b,a)=>(if(a:Int)<(List.length s.u:Int)then (idx b a).bind λc=>((λy0=>mK N y0 p) c).bind λd=>(idx b a).bind λf=>(dM b a d).bind λe=>some (aJ.next (e,(iw (a+1)))) else some (aJ.done b))
def AF(N:Nat)(s:aS)(p:Int):((List bB)×Int)->Option (aJ ((List bB)×Int) (List bB))
 |(b,a)=>(if(a:Int)<(List.length s.aB:Int)then (idx b a).bind λc=>((λy0=>mK N y0 p) c.g).bind λd=>(idx b a).bind λe=>(dM b a (bB.mk e.pos d)).bind λf=>some (aJ.next (f,(iw (a+1)))) else some (aJ.done b))
def yT(N:Nat)(s:aS)(p:Int):Option aS:=(bS (BV N s p) N (s.u,0)).bind λss=>match ss with
  |a=>(bS (AF N s p) N (s.aB,0)).bind λss=>match ss with
    |b=>some (aS.mk s.n s.aA s.aU a s.aN s.value b s.aK)
def A1(N:Nat)(b:bB):(Int×Int)->Option (aJ (Int×Int) Int)
 |(c,a)=>(if(a:Int)<(List.length b.g:Int)then (((((((idx b.g a).bind λd=>(gV N d).bind λe=>(if(e:Int)≠0 then (if(c:Int)<0 then some true else (idx b.g a).bind λf=>((λy0=>ru N y0) f).bind λi=>(idx b.g c).bind λj=>((λy0=>ru N y0) j).bind λk=>(iY N i k).bind λl=>some (decide ((l:Int)<0))) else some false)):Option Bool)).bind λss=>match ss with
    |m=>(if m=true then some a else some c)):Option Int)).bind λss=>match ss with
    |n=>some (aJ.next (n,(iw (a+1)))) else some (aJ.done c))
def BE(N:Nat)(s:aS)(i:Int)(d:bB)(e:Int):((List bG)×(List Step)×(List (List aC))×(List Int)×(List aC)×(List bB)×(List dW)×Bool×Int)->Option (aJ ((List bG)×(List Step)×(List (List aC))×(List Int)×(List aC)×(List bB)×(List dW)×Bool×Int) ((List bG)×(List Step)×(List (List aC))×(List Int)×(List aC)×(List bB)×(List dW)×Bool))
 |(f,j,k,l,m,c,o,p,b)=>(if(b:Int)<(List.length d.g:Int)then (((((((if(b:Int)≠e then (idx c i).bind λv=>(idx v.g b).bind λy=>(gV N y).bind λa0=>some (decide ((a0:Int)≠0)) else some false)):Option Bool)).bind λss=>match ss with
    |a1=>(if a1=true then (idx d.g b).bind λa2=>(idx d.g e).bind λa3=>(kS N a2 a3).bind λa4=>(yE N (aS.mk s.n f j k l m c o) b e a4.1).bind λa=>some (a.aA,a.aU,a.u,a.aN,a.value,a.aB,a.aK,false) else some (f,j,k,l,m,c,o,p))):Option ((List bG)×(List Step)×(List (List aC))×(List Int)×(List aC)×(List bB)×(List dW)×Bool))).bind λss=>match ss with
    |(a5,a6,a7,a8,a9,aa,ab,ac)=>some (aJ.next (a5,a6,a7,a8,a9,aa,ab,ac,(iw (b+1)))) else some (aJ.done (f,j,k,l,m,c,o,p)))
def A2(N:Nat)(s:aS)(i:Int):((List bG)×(List Step)×(List (List aC))×(List Int)×(List aC)×(List bB)×(List dW))->Option (aJ ((List bG)×(List Step)×(List (List aC))×(List Int)×(List aC)×(List bB)×(List dW)) (Int×aS))
 |(p,v,y,a0,a1,o,a2)=>(idx o i).bind λc=>(bS (A1 N c) N ((-1),0)).bind λss=>match ss with
   |b=>(bS (BE N s i c b) N (p,v,y,a0,a1,o,a2,true,0)).bind λss=>match ss with
     |(d,e,f,j,k,l,m,a3)=>(if a3=true then (idx c.g b).bind λa4=>(gV N a4).bind λa5=>((((if(a5:Int)<0 then (yT N (aS.mk s.n d e f j k l m) b).bind λa=>some (a.aA,a.aU,a.u,a.aN,a.value,a.aB,a.aK) else some (d,e,f,j,k,l,m))):Option ((List bG)×(List Step)×(List (List aC))×(List Int)×(List aC)×(List bB)×(List dW)))).bind λss=>match ss with
        |(a6,a7,a8,a9,aa,ab,ac)=>some (aJ.done (b,(aS.mk s.n a6 a7 a8 a9 aa ab ac))) else some (aJ.next (d,e,f,j,k,l,m)))
def yY(N:Nat)(s:aS)(i:Int):Option (Int×aS):=(bS (A2 N s i) N (s.aA,s.aU,s.u,s.aN,s.value,s.aB,s.aK)).bind λss=>match ss with
  |z=>some z
def D8(N:Nat)(s:aS)(i:Int)(j:Int)(r1:(Int×aS))(x2:bB)(x3:bB):((List bG)×(List Step)×(List (List aC))×(List Int)×(List aC)×(List bB)×(List dW)×Int)->Option (aJ ((List bG)×(List Step)×(List (List aC))×(List Int)×(List aC)×(List bB)×(List dW)×Int) (Sum ((List bG)×(List Step)×(List (List aC))×(List Int)×(List aC)×(List bB)×(List dW)) (Bool×aS)))
 |(d,e,f,k,l,m,o,c)=>(if(c:Int)<(List.length r1.2.aB:Int)then ((((idx r1.2.aB c).bind λp=>((((if(c:Int)=i then some true else some (decide ((c:Int)=j)))):Option Bool)).bind λss=>match ss with
    |a0=>(if a0=true then some (Sum.inl (d,e,f,k,l,m,o)) else (idx p.g r1.1).bind λv=>(gV N v).bind λa1=>(if(a1:Int)=0 then (l6 N (aS.mk s.n d e f k l m o) p).bind λb=>some (Sum.inl (b.aA,b.aU,b.u,b.aN,b.value,b.aB,b.aK)) else (oP N p.g).bind λy=>(idx y r1.1).bind λae=>(dM y r1.1 (aC.mk false ([]:(List Int)))).bind λa2=>(gV N v).bind λa3=>((((if(a3:Int)<0 then (jA N v).bind λa4=>some (eh.mk x2.pos a4) else some (eh.mk x3.pos v))):Option eh)).bind λss=>match ss with
        |a5=>(gj N 1).bind λa6=>(nN N (aS.mk s.n d e f k l m o) a2 [(eh.mk p.pos a6),a5]).bind λa=>(if(!a.1)=true then some (Sum.inr (false,(aS.mk s.n a.2.aA a.2.aU a.2.u a.2.aN a.2.value a.2.aB a.2.aK))) else some (Sum.inl (a.2.aA,a.2.aU,a.2.u,a.2.aN,a.2.value,a.2.aB,a.2.aK)))))):Option (Sum ((List bG)×(List Step)×(List (List aC))×(List Int)×(List aC)×(List bB)×(List dW)) (Bool×aS)))).bind λss=>match ss with
    |(Sum.inl (a7,a8,a9,aa,ab,ac,ad))=>some (aJ.next (a7,a8,a9,aa,ab,ac,ad,(iw (c+1))))
    |(Sum.inr z)=>some (aJ.done (Sum.inr z)) else some (aJ.done (Sum.inl (d,e,f,k,l,m,o))))
def tJ(N:Nat)(s:aS)(i:Int)(j:Int):Option (Bool×aS):=(yY N s i).bind λr1=>(idx r1.2.aB i).bind λx2=>(idx r1.2.aB j).bind λx3=>(mq N (aS.mk s.n r1.2.aA r1.2.aU r1.2.u r1.2.aN r1.2.value r1.2.aB r1.2.aK) x2).bind λr4=>(idx r1.2.aN r1.1).bind λx5=>(dM r1.2.aN r1.1 1).bind λx6=>(idx r1.2.value r1.1).bind λx7=>(dM r1.2.value r1.1 r4).bind λx8=>(bS (D8 N s i j r1 x2 x3) N (r1.2.aA,r1.2.aU,r1.2.u,x6,x8,([]:(List bB)),r1.2.aK,0)).bind λss=>match ss with
  |(Sum.inl (a,b,c,d,e,f,g))=>some (true,(aS.mk s.n a b c d e f g))
  |(Sum.inr z)=>some z
def G1(N:Nat)(s:aS)(y:(List aC))(a:Int):((List aC)×Int)->Option (aJ ((List aC)×Int) (List aC))
 |(b,c)=>(if(c:Int)<(List.length y:Int)then (idx b a).bind λd=>(idx s.u a).bind λe=>(idx e c).bind λf=>(idx y c).bind λg=>(kB N f g).bind λi=>(js N d i).bind λj=>(idx b a).bind λl=>(dM b a j).bind λk=>some (aJ.next (k,(iw (c+1)))) else some (aJ.done b))
def zL(N:Nat)(s:aS)(y:(List aC))(x1:(List aC)):((List aC)×Int)->Option (aJ ((List aC)×Int) (List aC))
 |(b,a)=>(if(a:Int)<(List.length x1:Int)then (bS (G1 N s y a) N (b,0)).bind λss=>match ss with
    |c=>some (aJ.next (c,(iw (a+1)))) else some (aJ.done b))
def qJ(N:Nat)(s:aS)(y:(List aC)):Option (List aC):=(gF (α:=aC) 32 (aC.mk false ([]:(List Int))) s.n).bind λx1=>(bS (zL N s y x1) N (x1,0)).bind λss=>match ss with
  |a=>some a
open Go Go.X
structure AQ where
 c:List Int
 b:Int
structure AI where
 pos:Nat
 g:List Int
structure AU where
 ix:Nat
 n:Int
structure AS where
 cU:List AU
 d:Int
structure AE where
 v:Nat
 aB:List Nat
 dP:Bool
structure St where
 n:Nat
 aA:List AQ
 aU:List AS
 u:List (List Int)
 aN:List Int
 value:List Int
 aB:List AI
 aK:List AE
def mB(l:List Int):List aC:=l.map B
def AQ.to(q:AQ):bG:=⟨mB q.c,B q.b⟩
def AI.to(x:AI):bB:=⟨x.pos,mB x.g⟩
def AU.to(u:AU):eh:=⟨u.ix,B u.n⟩
def AS.to(s:AS):Step:=⟨s.cU.map AU.to,B s.d⟩
def AE.to(e:AE):dW:=⟨e.v,e.aB.map Int.ofNat,e.dP⟩
def St.to(s:St):aS:=⟨s.n,s.aA.map AQ.to,s.aU.map AS.to,s.u.map mB,s.aN,mB s.value,s.aB.map AI.to,s.aK.map AE.to⟩
theorem jc{x:aS}{n:Int}(h:n=x.n):aS.mk n x.aA x.aU x.u x.aN x.value x.aB x.aK=x:=by subst h;rfl
theorem dT(l:List Int):(mB l).length=l.length:=cT ..
theorem EA{l:List Int}{k:Nat}(h:k<(mB l).length):(mB l)[k]=B (l[k]'(by rwa[dT]at h)):=lG ..
theorem Je{l:List Int}{k:Nat}(h:k<l.length):idx (mB l) (k:Int)=some (B l[k]):=by
 rw[dA (by rw[dT];exact h),EA]
theorem sV{l:List Int}{k:Nat}{v:Int}:(mB l).set k (B v)=mB (l.set k v):=by unfold mB;rw[C8]
theorem og{n:Nat}:mB (List.replicate n 0)=List.replicate n ⟨false,[]⟩:=by unfold mB;rw[List.map_replicate,B0]
def vf(l:List Int)(j:Nat):Int:=l.getD j 0
theorem oG{l:List Int}{j:Nat}(h:j<l.length):vf l j=l[j]:=by unfold vf;rw[cN,cy h];rfl
theorem lO{l:List Int}{j:Nat}(h:l.length<=j):vf l j=0:=by unfold vf;rw[cN,gr h];rfl
theorem eD{l:List Int}{k:Nat}(h:k<l.length):idx (mB l) (k:Int)=some (B (vf l k)):=by rw[Je h,oG h]
def vec(n:Nat)(f:Nat->Int):List Int:=(List.range n).map f
theorem eZ{n:Nat}{f:Nat->Int}:(vec n f).length=n:=by simp[vec]
theorem dF{n j:Nat}{f:Nat->Int}(h:j<n):vf (vec n f) j=f j:=by rw[oG (by rw[eZ];exact h)];simp[vec]
theorem Np{n:Nat}{f g:Nat->Int}(h:∀j,j<n->f j=g j):vec n f=vec n g:=De λj hj=>h j (tZ.1 hj)
theorem lS{a b:List Int}(hl:a.length=b.length)(h:∀j,j<a.length->vf a j=vf b j):a=b:=by
 apply qv hl;intro i h1 h2;rw[<-oG h1,<-oG h2];exact h i h1
theorem gC{l:List Int}{v:Int}(h:v∈l):∃j,j<l.length/\vf l j=v:=by
 obtain⟨j,hj,rfl⟩:=nU h;exact⟨j,hj,oG hj⟩
theorem gz{l:List Int}{j:Nat}(h:j<l.length):vf l j∈l:=by rw[oG h];exact dJ h
theorem jZ{l:List Int}{k j:Nat}{v:Int}(h:k<l.length):vf (l.set k v) j=if k=j then v else vf l j:=by
 unfold vf;rw[cN,cN,rM];by_cases e:k=j
 . subst e;simp[h]
 . simp[e]
theorem Tm.fill{α ρ:Type}{n:Nat}(hn:n<=9223372036854775806){c0:List α}(F:Nat->α)(h0:c0.length=n){body:Nat->List α×Int->Option (aJ (List α×Int) ρ)}{fin:List α->ρ}
 (step:∀k,k<n->∀c:List α,c.length=n->c[k]?=c0[k]?->Tm (λN=>body N (c,(k:Int))) (·=.next (c.set k (F k),iw ((k:Int)+1))))
 (stop:∀c:List α,c.length=n->Tm (λN=>body N (c,(n:Int))) (·=.done (fin c))):
 Tm (λN=>bS (body N) N (c0,0)) (·=fin ((List.range n).map F)):=by
 refine e9 n (λk s=>s.2=(k:Int)/\s.1.length=n/\(∀j,j<k->s.1[j]?=some (F j))/\∀j,k<=j->s.1[j]?=c0[j]?) ⟨rfl,h0,λj hj=>by omega,λj _=>rfl⟩ ?_;rintro k hk ⟨c,i⟩ ⟨rfl,hc,h1,h2⟩;dsimp only at hc h1 h2;rcases cH k n with hlt|hge
 . refine(step k hlt c hc (h2 k (bO _))).mono λt ht=>?_;subst ht;refine⟨hlt,eK (by omega),by rw[iK];exact hc,λj hj=>?_,λj hj=>?_⟩
   . show(c.set k (F k))[j]?=_;rw[rM];by_cases e:k=j
     . subst e;simp[hc,hlt]
     . rw[aY e];exact h1 j (by omega)
   . show(c.set k (F k))[j]?=_;rw[rM,aY (by omega)];exact h2 j (by omega)
 . obtain rfl:k=n:=by omega
   refine(stop c hc).mono λt ht=>?_;subst ht;show fin c=_;congr 1;apply qn;intro j;rcases cH j k with hj|hj
   . rw[h1 j hj];simp[hj]
   . rw[gr (by omega),gr (by simp;omega)]
theorem Tm.tC{ρ:Type}{n:Nat}(hn:n<=9223372036854775806){c0:List Int}(F:Nat->Int)(h0:c0.length=n){body:Nat->List aC×Int->Option (aJ (List aC×Int) ρ)}{fin:List aC->ρ}
 (step:∀k,k<n->∀c:List aC,c.length=n->idx c (k:Int)=some (B (vf c0 k))->Tm (λN=>body N (c,(k:Int))) (·=.next (c.set k (B (F k)),iw ((k:Int)+1))))
 (stop:∀c:List aC,c.length=n->Tm (λN=>body N (c,(n:Int))) (·=.done (fin c))):
 Tm (λN=>bS (body N) N (mB c0,0)) (·=fin (mB (vec n F))):=by
 have:=Tm.fill hn (c0:=mB c0) (λj=>B (F j)) (by rw[dT,h0]) (body:=body) (fin:=fin) (λk hk c hc h=>step k hk c hc (by rw[Gk,h,<-Gk];exact eD (by omega))) stop;refine this.mono λr hr=>?_;rw[hr];unfold mB vec;rw[mV];rfl
def dC:List Int->Nat
 |[]=>0
 |x::l=>Int.gcd x (dC l)
theorem tz:∀{l:List Int} {x:Int},x∈l->((dC l:Nat):Int)∣x
 |y::l,x,h=>by
  rcases ej.1 h with rfl|h
  . exact Int.gcd_dvd_left ..
  . exact Int.dvd_trans (Int.gcd_dvd_right ..) (tz h)
theorem oX:∀{l:List Int} {d:Int},(∀x∈l,d∣x)->d∣((dC l:Nat):Int)
 |[],d,_=>by simp[dC]
 |y::l,d,h=>by
  have h1:=h y cX;have h2:=oX (l:=l) λx hx=>h x (cO _ hx);exact Int.dvd_coe_gcd h1 h2
theorem Il{l:List Int}(h:dC l=0):∀x∈l,x=0:=λx hx=>by
 have:=tz hx;rw[h]at this;exact Int.zero_dvd.1 this
theorem Te{a:Int}{b:Nat}{K:Nat}(h:dl a<=K)(h':dl b<=K):dl (Int.gcd a b:Nat)<=K:=by
 rcases qx a 0 with h1|h1|h1
 . exact bU (tO (by have:=Nat.le_of_dvd (by omega) (Nat.gcd_dvd_left a.natAbs b);show((Int.gcd a b:Nat):Int).natAbs<=_;rw[Oc];exact this)) h
 . subst h1;rw[Int.zero_gcd];exact h'
 . exact bU (tO (by have:=Nat.le_of_dvd (by omega) (Nat.gcd_dvd_left a.natAbs b);show((Int.gcd a b:Nat):Int).natAbs<=_;rw[Oc];exact this)) h
theorem vu:∀{l:List Int} {K:Nat},(∀v∈l,dl v<=K)->dl (dC l:Nat)<=K
 |[],K,_=>by show dl 0<=K;rw[iq];omega
 |x::l,K,h=>Te (h x cX) (vu λv hv=>h v (cO _ hv))
theorem HP{l:List Int}{k:Nat}(h:k<l.length):Int.gcd (dC (l.take k):Nat) l[k]=dC (l.take (k+1)):=by
 have key:∀(a:List Int) (x:Int),dC (a++[x])=Int.gcd (dC a:Nat) x:=by
  intro a x
  induction a with
  |nil=>show Int.gcd x (0:Nat)=Int.gcd (0:Nat) x;rw[Int.gcd_comm]
  |cons y a ih=>
   show Int.gcd y (dC (a++[x]):Nat)=Int.gcd (Int.gcd y (dC a:Nat):Nat) x;rw[ih,Int.gcd_assoc]
 rw[<-j9 h,key]
theorem PC{l:List Int}{K:Nat}(hK:K<=dh)(hl:l.length<=9223372036854775806)(h:∀v∈l,dl v<=K):Tm (λN=>xm N (mB l)) (·=B (dC l:Nat)):=by
 unfold xm;refine aV (a:=((B (dC l:Nat)).bM,(B (dC l:Nat)).aQ)) (e9 l.length (λk s=>s.2.2=(k:Int)/\s.1=(B (dC (l.take k):Nat)).bM/\s.2.1=(B (dC (l.take k):Nat)).aQ) ⟨rfl,by show false=(B 0).bM;rw[B0],by show[]=(B 0).aQ;rw[B0]⟩ ?_) (aI rfl);rintro k hk ⟨a,b,i⟩ ⟨rfl,rfl,rfl⟩;dsimp only[Dr];rw[dT];refine bA (λhlt=>?_) (λhge=>aI ?_)
 . have hlt:k<l.length:=by omega
   refine aL (Je hlt) (aV (tmGcd (a:=(dC (l.take k):Nat)) (b:=l[k]) (bU (vu λv hv=>h v (uc hv)) hK) (bU (h _ (dJ hlt)) hK)) (aI ⟨hlt,eK (by omega),?_,?_⟩))
   . dsimp only;rw[HP]
   . dsimp only;rw[HP]
 . show _=_;rw[fC (by omega)]
theorem tU{l:List Int}{K:Nat}(hK:K<=dh)(hl:l.length<=1073741824)(h:∀v∈l,dl v<=K):Tm (λN=>ns N (mB l)) (·=mB (vec l.length λj=>-vf l j)):=by
 unfold ns;refine aL (iy (n:=l.length) (by rw[dT]) (by omega) (by decide)) ?_;rw[show(aC.mk false ([]:List Int))=B 0 from B0.symm,show List.replicate l.length (B 0)=mB (List.replicate l.length 0) by rw[og,B0]];refine aV (Tm.tC (n:=l.length) (by omega) (λj=>-vf l j) (by simp) (fin:=id) ?_ ?_) (aI rfl)
 . intro k hk c hc hi;dsimp only[BP];refine cR (by rw[dT];omega) (aL (eD hk) (aV (ou (bU (h _ (gz hk)) hK)) (aL hi (aL (eE rfl (by omega)) (aI rfl)))))
 . intro c hc;dsimp only[BP];exact cD (by rw[dT];omega) (aI rfl)
def cv(l:List Int):List Int:=vec l.length λj=>-vf l j
theorem jq(l:List Int):(cv l).length=l.length:=eZ
theorem jb{l:List Int}{j:Nat}:vf (cv l) j=-vf l j:=by
 rcases cH j l.length with h|h
 . exact dF h
 . rw[lO (by rw[jq];exact h),lO h];rfl
theorem Du{l:List Int}{v:Int}(h:v∈cv l):-v∈l:=by
 obtain⟨j,hj,rfl⟩:=gC h;rw[jb,Int.neg_neg];exact gz (by rwa[jq]at hj)
theorem DC(l:List Int):cv (cv l)=l:=lS (by rw[jq,jq]) λj _=>by rw[jb,jb,Int.neg_neg]
def aH(kn:List AQ)(i:Nat):AQ:=kn.getD i ⟨[],0⟩
theorem tS{kn:List AQ}{i:Nat}(h:i<kn.length):aH kn i=kn[i]:=by unfold aH;rw[cN,cy h];rfl
theorem iH{kn e:List AQ}{i:Nat}(h:i<kn.length):aH (kn++e) i=aH kn i:=by
 unfold aH;rw[cN,cN,kv h]
theorem oA{kn:List AQ}{q:AQ}:aH (kn++[q]) kn.length=q:=by
 unfold aH;rw[cN];simp
theorem fg{kn:List AQ}{i:Nat}(h:i<kn.length):aH kn i∈kn:=by rw[tS h];exact dJ h
theorem nJ{kn:List AQ}{i:Nat}(h:i<kn.length):idx (kn.map AQ.to) (i:Int)=some (aH kn i).to:=by
 rw[dA (by simpa using h),lG,tS h]
theorem sN{s:St}{x:AI}(h:x.pos<s.aA.length):Tm (λN=>mq N s.to x.to) (·=B (aH s.aA x.pos).b):=by
 unfold mq;exact aL (nJ h) (aI rfl)
theorem Lq{s:St}{x:AI}(h:x.pos<s.aA.length):Tm (λN=>yU N s.to x.to) (·=B (aH s.aA x.pos).b):=sN h
def eG(kn:List AQ):List AU->Nat->Int
 |[],_=>0
 |u::us,j=>u.n*vf (aH kn u.ix).c j+eG kn us j
def gE(kn:List AQ):List AU->Int
 |[]=>0
 |u::us=>u.n*(aH kn u.ix).b+gE kn us
theorem Jd{kn:List AQ}{u:AU}{j:Nat}:∀{us:List AU},eG kn (us++[u]) j=eG kn us j+u.n*vf (aH kn u.ix).c j
 |[]=>by show u.n*vf (aH kn u.ix).c j+0=0+_;omega
 |v::us=>by show _+eG kn (us++[u]) j=_+_+_;rw[Jd];omega
theorem JJ{kn:List AQ}{u:AU}:∀{us:List AU},gE kn (us++[u])=gE kn us+u.n*(aH kn u.ix).b
 |[]=>by show u.n*(aH kn u.ix).b+0=0+_;omega
 |v::us=>by show _+gE kn (us++[u])=_+_+_;rw[JJ];omega
def fW(K:Nat)(q:AQ):Prop:=(∀v∈q.c,dl v<=K)/\dl q.b<=K
theorem fW.vf{K:Nat}{q:AQ}(h:fW K q)(j:Nat):dl (vf q.c j)<=K:=by
 rcases cH j q.c.length with hj|hj
 . exact h.1 _ (gz hj)
 . rw[lO hj,iq];omega
theorem fW.mono{K K':Nat}{q:AQ}(h:fW K q)(hK:K<=K'):fW K' q:=⟨λv hv=>bU (h.1 v hv) hK,bU h.2 hK⟩
def mO(n K:Nat)(kn:List AQ)(u:AU):Prop:=u.ix<kn.length/\0<=u.n/\dl u.n<=4/\fW K (aH kn u.ix)/\(aH kn u.ix).c.length=n
theorem Am{n K:Nat}{kn:List AQ}{j:Nat}:∀{us:List AU},(∀u∈us,mO n K kn u)->dl (eG kn us j)<=K+4+us.length
 |[],_=>by show dl 0<=_;rw[iq];omega
 |u::us,h=>by
  have h1:=h u cX;have h2:=Am (j:=j) (us:=us) λv hv=>h v (cO _ hv);have h3:=kD u.n (vf (aH kn u.ix).c j);have h4:=h1.2.2.2.1.vf j;have h5:=h1.2.2.1;have:=oz (K:=K+4+us.length) (a:=u.n*vf (aH kn u.ix).c j) (b:=eG kn us j) (by omega) h2;show dl (_+_)<=_;rw[cJ];omega
theorem Ag{n K:Nat}{kn:List AQ}:∀{us:List AU},(∀u∈us,mO n K kn u)->dl (gE kn us)<=K+4+us.length
 |[],_=>by show dl 0<=_;rw[iq];omega
 |u::us,h=>by
  have h1:=h u cX;have h2:=Ag (us:=us) λv hv=>h v (cO _ hv);have h3:=kD u.n (aH kn u.ix).b;have h4:=h1.2.2.2.1.2;have h5:=h1.2.2.1;have:=oz (K:=K+4+us.length) (a:=u.n*(aH kn u.ix).b) (b:=gE kn us) (by omega) h2;show dl (_+_)<=_;rw[cJ];omega
def nk(n:Nat)(kn:List AQ)(us:List AU)(d:Int):AQ:=⟨vec n λj=>eG kn us j/d,gE kn us/d⟩
theorem tmSum{s:St}{K:Nat}(hK:K<=1099511627000){us:List AU}{d:Int}(hn:s.n<=512)(hu:∀u∈us,mO s.n K s.aA u)(hul:us.length<=2)(hd:0<d)(hdl:dl d<=dh):
 Tm (λN=>qM N s.to (us.map AU.to) (B d)) (·=(nk s.n s.aA us d).to):=by
 have hL:dh=1099511627776:=rfl;unfold qM;refine aL (iy (n:=s.n) rfl (by omega) (by decide)) ?_;rw[<-og];refine aV (a:=(mB (vec s.n λj=>eG s.aA us j),B (gE s.aA us))) (e9 us.length (λk t=>t.2.2=(k:Int)/\t.1=mB (vec s.n λj=>eG s.aA (us.take k) j)/\t.2.1=B (gE s.aA (us.take k))) ⟨rfl,?_,B0.symm⟩ ?_) ?_
 . show mB (List.replicate s.n 0)=mB (vec s.n λj=>0);congr 1;apply qv (by simp[vec]);intro i h1 h2;simp[vec]
 . rintro k hk ⟨c,b,i⟩ ⟨rfl,rfl,rfl⟩;dsimp only[A5];rw[cT];refine bA (λhlt=>?_) (λhge=>aI ?_)
   . have hlt:k<us.length:=by omega
     have hux:=hu _ (dJ hlt);have htk:∀u∈us.take k,mO s.n K s.aA u:=λu hu'=>hu u (uc hu');have htl:(us.take k).length<=2:=by rw[fA];omega
     refine aL (dA (by simpa using hlt)) ?_;rw[lG];generalize hue:us[k]=u at*;refine aL (nJ hux.1) ?_;have hm:∀j,dl (u.n*vf (aH s.aA u.ix).c j)<=K+4:=λj=>by
      have:=kD u.n (vf (aH s.aA u.ix).c j);have:=hux.2.2.2.1.vf j;have:=hux.2.2.1;omega
     have hmb:dl (u.n*(aH s.aA u.ix).b)<=K+4:=by
      have:=kD u.n (aH s.aA u.ix).b;have:=hux.2.2.2.1.2;have:=hux.2.2.1;omega
     have hun:=hux.2.2.1;refine aV (a:=mB (vec s.n λj=>eG s.aA (us.take (k+1)) j)) ?_ ?_
     . refine(Tm.tC (n:=s.n) (by omega) (λj=>eG s.aA (us.take (k+1)) j) eZ (fin:=id) ?_ ?_)
       . intro j hj c hc hi;dsimp only[yD];have h1:=Am (j:=j) htk;have h2:=hux.2.2.2.1.vf j;have h3:=hm j;refine cR (by rw[dT,eZ];omega) (aL hi (aL (eD (by rw[hux.2.2.2.2];exact hj)) (aV (ox (by omega) (by omega)) (aV (mf (by rw[dF hj];omega) (by omega)) (aL hi (aL (eE rfl (by omega)) (aI ?_)))))));rw[dF hj,<-j9 hlt,Jd,hue]
       . intro c hc;dsimp only[yD];exact cD (by rw[dT,eZ];omega) (aI rfl)
     . have h1:=Ag htk;have h2:=hux.2.2.2.1.2;refine aV (ox (a:=u.n) (b:=(aH s.aA u.ix).b) (by omega) (by omega)) (aV (mf (by omega) (by omega)) (aI ⟨hlt,eK (by omega),rfl,?_⟩));show B _=B _;rw[<-j9 hlt,JJ,hue]
   . show _=_;rw[fC (by omega)]
 . dsimp only;have h0:∀j,dl (eG s.aA us j)<=K+6:=λj=>by have:=Am (j:=j) hu;omega
   have hb:dl (gE s.aA us)<=K+6:=by have:=Ag hu;omega
   refine aV (a:=mB (vec s.n λj=>eG s.aA us j/d)) ?_ ?_
   . refine(Tm.tC (n:=s.n) (by omega) (λj=>eG s.aA us j/d) eZ (fin:=id) ?_ ?_)
     . intro j hj c hc hi;dsimp only[xD];have h1:=h0 j;refine cR (by rw[dT,eZ];omega) (aL hi (Tm.bind (pP (by rw[dF hj];omega) hdl) ?_));intro r hr;refine aL hi (aL (eE rfl (by omega)) (aI ?_));rw[hr,dF hj,jQ _ (dY hd)]
     . intro c hc;dsimp only[xD];exact cD (by rw[dT,eZ];omega) (aI rfl)
   . refine Tm.bind (pP (by omega) hdl) ?_;intro r hr;refine aI ?_;rw[hr,jQ _ (dY hd)];rfl
open Go Go.X
structure gJ (K:Nat)(s:St):Prop where
 n:s.n<=512
 kl:s.aA.length<=1073741824
 sl:s.aU.length<=1073741824
 il:s.aB.length<=1073741824
 k:∀q∈s.aA,fW K q/\q.c.length=s.n
 i:∀x∈s.aB,x.pos<s.aA.length/\x.g.length=s.n/\∀v∈x.g,dl v<=8
 K:K<=1099511627000
def dv(g:List Int):Int:=if dC g=0 then 1 else(dC g:Nat)
theorem ra(g:List Int):0<dv g:=by unfold dv;split<;>omega
def many(g:List Int)(us:List AU):Bool:=decide (1<us.length)||(decide ((us.headD ⟨0,0⟩).n≠1)||decide (dv g≠1))
def iW(s:St)(g:List Int)(us:List AU):Nat:=if many g us then s.aA.length else(us.headD ⟨0,0⟩).ix
def dst(s:St)(g:List Int)(us:List AU):St:=if many g us then{s with aU:=s.aU++[⟨us,dv g⟩],aA:=s.aA++[nk s.n s.aA us (dv g)]}else s
def lK(s:St)(g:List Int)(us:List AU):AI:=⟨iW s g us,vec s.n λj=>vf g j/dv g⟩
def ng(s:St)(g:List Int)(us:List AU):Bool:=decide (dC g≠0)||decide (0<=(aH (dst s g us).aA (iW s g us)).b)
def eL(kn:List AQ)(x:AI):List AI->List AI
 |[]=>[x]
 |y::r=>if x.g=y.g then(if(aH kn x.pos).b<(aH kn y.pos).b then x::r else y::r)else y::eL kn x r
def add(s:St)(x:AI):St:={s with aB:=eL s.aA x s.aB}
def put(s:St)(g:List Int)(us:List AU):Bool×St:=(ng s g us,if dC g≠0 then add (dst s g us) (lK s g us)else dst s g us)
structure gT (K:Nat)(s:St)(g:List Int)(us:List AU):Prop where
 gl:g.length=s.n
 g:∀v∈g,dl v<=8
 ul:us.length<=2
 u0:us≠[]
 u:∀u∈us,mO s.n K s.aA u
theorem BH{K:Nat}{s:St}{g:List Int}{us:List AU}(h:gT K s g us):iW s g us<(dst s g us).aA.length:=by
 unfold iW dst;split
 . simp
 . cases us with
   |nil=>exact bV rfl h.u0
   |cons u r=>exact(h.u u cX).1
theorem L3(s:St)(g:List Int)(us:List AU):∃e,(dst s g us).aA=s.aA++e/\e.length<=1:=by
 unfold dst;split
 . exact⟨_,rfl,by simp⟩
 . exact⟨[],by simp,by simp⟩
theorem EF(s:St)(g:List Int)(us:List AU):(dst s g us).n=s.n:=by unfold dst;split<;>rfl
theorem HT(s:St)(g:List Int)(us:List AU):(dst s g us).aB=s.aB:=by unfold dst;split<;>rfl
theorem Qf{g:List Int}{n K:Nat}{d:Int}(hd:0<=d)(h:∀v∈g,dl v<=K):∀v∈vec n (λj=>vf g j/d),dl v<=K:=by
 intro v hv;obtain⟨j,hj,rfl⟩:=gC hv;rw[eZ]at hj;rw[dF hj];refine bU (D6 hd) ?_;rcases cH j g.length with h1|h1
 . exact h _ (gz h1)
 . rw[lO h1,iq];omega
theorem D4{K:Nat}{s:St}{g:List Int}{us:List AU}(h:gT K s g us):fW (K+6) (nk s.n s.aA us (dv g))/\(nk s.n s.aA us (dv g)).c.length=s.n:=by
 have hd:=dY (ra g);refine⟨⟨λv hv=>?_,?_⟩,eZ⟩
 . obtain⟨j,hj,rfl⟩:=gC hv;have hj:j<s.n:=by rwa[show(nk s.n s.aA us (dv g)).c=vec s.n _ from rfl,eZ]at hj
   show dl (vf (vec s.n _) j)<=_;rw[dF hj];have:=Am (j:=j) h.u;have:=h.ul;have:=D6 (a:=eG s.aA us j) hd;omega
 . have:=Ag h.u;have:=h.ul;have:=D6 (a:=gE s.aA us) hd;show dl (gE s.aA us/dv g)<=_;omega
theorem Tq{K K':Nat}{s:St}{g:List Int}{us:List AU}(hs:gJ K s)(h:gT K' s g us)(hk:K'<=K):Tm (λN=>tg N s.to (mB g) (us.map AU.to)) (·=((lK s g us).to,decide (dC g≠0),ng s g us,(dst s g us).to)):=by
  have hL:dh=1099511627776:=rfl;have hK:=hs.K;have hkl:=hs.kl;have hsl:=hs.sl;have hn:=hs.n;have hgd:dl (dC g:Nat)<=8:=vu h.g
  have hdd : dl (dv g) <= 8 := by unfold dv; split; · exact bU jL (by decide)
                                  . exact hgd
  have hgl:=h.gl;have hul:=h.ul;obtain⟨u,r,rfl⟩:∃u r,us=u::r:=by
    cases us with
    |nil=>exact bV rfl h.u0
    |cons u r=>exact⟨u,r,rfl⟩
  have hu0:=h.u u cX;unfold tg;refine aV (PC (K:=8) (by omega) (by omega) h.g) (aV (jK (by omega)) ?_);have hsg:bT (dC g:Nat) 0≠0↔dC g≠0:=by unfold bT;(repeat' split)<;>omega
  refine aV (a:=B (dv g)) (bA (λh0=>?_) (λh0=>aI ?_)) ?_
  . refine aV (iO (by decide) (by decide)) (aI ?_);unfold dv;rw[bD (ug.1 λe=>h0 (hsg.2 e))]
  . unfold dv;rw[aY (hsg.1 (ug.1 h0))]
  refine aV (iO (by decide) (by decide)) ?_;refine aV (a:=many g (u::r)) (bA (λh0=>aI ?_) (λh0=>?_)) ?_
  . rw[cT]at h0;unfold many;rw[iM (by omega)];rfl
  . rw[cT]at h0;refine aL (a:=u.to) rfl (aV (ko (a:=u.n) (b:=1) (by have:=hu0.2.2.1;omega) (bU jL (by decide))) (bA (λh1=>aI ?_) (λh1=>aV (ko (by omega) (bU jL (by decide))) (aI ?_))))
    . have:u.n≠1:=by rintro e;rw[e]at h1;exact h1 (by decide)
      unfold many;simp[this]
    . have:u.n=1:=by unfold bT at h1;(repeat' split at h1)<;>omega
      have e2:bT (dv g) 1≠0↔dv g≠1:=by unfold bT;(repeat' split)<;>omega
      unfold many;have hr:¬1<(u::r).length:=by omega
      have h3:(((u::r).headD ⟨0,0⟩).n≠1)=False:=by simp[this]
      rw[uj hr];simp[this,e2]
  have hmk : ∀ c : Bool, many g (u :: r) = c -> Tm (λN => ((if c = true then
            (cZ 56 s.to.aU [(Step.mk ((u::r).map AU.to) (B (dv g)))]).bind λx37=>
            (qM N (aS.mk s.to.n s.to.aA x37 s.to.u s.to.aN s.to.value s.to.aB s.to.aK) ((u::r).map AU.to) (B (dv g))).bind λr38=>
            (cZ 56 s.to.aA [r38]).bind λx39=>
            some (x39,x37,[(eh.mk (iw ((List.length x39:Int)-1)) (B 1))])
          else
            some (s.to.aA,s.to.aU,(u::r).map AU.to))):Nat->Option ((List bG)×(List Step)×(List eh)))
      (λt=>t.1=(dst s g (u::r)).to.aA/\t.2.1=(dst s g (u::r)).to.aU/\∃x,idx t.2.2 0=some x/\x.Index=((iW s g (u::r):Nat):Int)):=by
    intro c hc;cases c with
    |true=>
      refine cR rfl ?_;refine aL (eb (by show((s.aU.map AS.to).length+_)*_<=_;simp only[cT,cJ,dZ];omega) (by decide)) ?_;have e:(aS.mk s.to.n s.to.aA (s.to.aU++[Step.mk ((u::r).map AU.to) (B (dv g))]) s.to.u s.to.aN s.to.value s.to.aB s.to.aK)=St.to {s with aU:=s.aU++[⟨u::r,dv g⟩]}:=by
        unfold St.to;simp[AS.to]
      rw[e];refine aV (a:=(nk s.n s.aA (u::r) (dv g)).to) (tmSum (s:={s with aU:=s.aU++[⟨u::r,dv g⟩]}) (K:=K') (by omega) hn h.u (by omega) (ra g) (by omega)) ?_;refine aL (eb (by show((s.aA.map AQ.to).length+_)*_<=_;simp only[cT,cJ,dZ];omega) (by decide)) (aI ?_);unfold dst iW;rw[hc];refine⟨by simp[St.to],by simp[St.to,AS.to],_,rfl,?_⟩;dsimp only;rw[bL]<;>simp[St.to]<;>omega
    |false=>
      refine cD (by simp) (aI ?_);unfold dst iW;rw[hc];exact⟨rfl,rfl,u.to,rfl,rfl⟩
  refine Tm.bind (hmk _ rfl) ?_;rintro⟨kn,st,us'⟩ ⟨h1,h2,x,hx,hxi⟩;dsimp only at h1 h2 hx;subst h1;subst h2;refine aL hx ?_;refine aL (iy (n:=s.n) rfl (by omega) (by decide)) ?_;rw[<-og];refine aV (a:=mB (vec s.n λj=>vf g j/dv g)) ?_ ?_
  . refine(Tm.tC (n:=s.n) (by omega) (λj=>vf g j/dv g) (by simp) (fin:=id) ?_ ?_)
    . intro j hj c hc hi;dsimp only[yV];refine cR (by rw[dT];omega) (aL (eD (by omega)) (Tm.bind (pP (by have:=h.g _ (gz (l:=g) (j:=j) (by omega));omega) (by omega)) ?_));intro r' hr';refine aL hi (aL (eE rfl (by omega)) (aI ?_));rw[hr',jQ _ (dY (ra g))]
    . intro c hc;dsimp only[yV];exact cD (by rw[dT];omega) (aI rfl)
  have hS:aS.mk s.to.n (dst s g (u::r)).to.aA (dst s g (u::r)).to.aU s.to.u s.to.aN s.to.value s.to.aB s.to.aK=(dst s g (u::r)).to:=by
    unfold dst;split<;>rfl
  have hI:(bB.mk x.Index (mB (vec s.n λj=>vf g j/dv g)))=(lK s g (u::r)).to:=by rw[hxi];rfl
  dsimp only;rw[hS,hI];have hps:=BH h;have hbd:dl (aH (dst s g (u::r)).aA (iW s g (u::r))).b<=K+6:=by
    have hm:=fg hps;unfold dst at hm⊢;split at hm
    . rcases fe.1 hm with h3|h3
      . rename_i hm';rw[bD hm'];exact bU (hs.k _ h3).1.2 (by omega)
      . rename_i hm';rw[bD hm'];rw[cG.1 h3];exact bU (D4 h).1.2 (by omega)
    . rename_i hm';rw[aY hm'];exact bU (hs.k _ hm).1.2 (by omega)
  refine bA (λh0=>aI ?_) (λh0=>?_)
  . have h0':=hsg.1 h0;unfold ng;rw[iM h0,iM h0'];rfl
  . have h0':¬dC g≠0:=λe=>h0 (hsg.2 e);refine aV (sN (s:=dst s g (u::r)) (x:=lK s g (u::r)) hps) (aV (jK (by show dl (aH _ (iW s g (u::r))).b<=_;omega)) (aI ?_));unfold ng;rw[uj h0,uj h0',Bool.false_or];congr 3;apply decide_eq_decide.2;show bT (aH _ (iW s g (u::r))).b 0≥0↔_;unfold bT;(repeat' split)<;>omega
open Go Go.X
theorem Ua{a b:List Int}(hl:a.length<=1000)(hab:a.length=b.length)(ha:∀v∈a,dl v<=dh)(hb:∀v∈b,dl v<=dh):Tm (λN=>w8 N (mB a) (mB b) (λy0 y1=>qT N y0 y1)) (·=decide (a=b)):=by
 unfold w8;refine cD (by rw[dT,dT];omega) ?_;refine Tm.bind (Tm.each (body:=λN=>xf N (λy0 y1=>qT N y0 y1) (mB b) (mB a)) ((List.range a.length)) (λj=>vf a j=vf b j) (Q:=λr=>(r=.inr false/\a≠b)\/(r=.inl ()/\∀j∈List.range a.length,vf a j=vf b j)) (by simp;omega) ?_ ?_) ?_
 . intro k hk _;have hk:k<a.length:=by simpa using hk
   dsimp only[xf];refine cR (by rw[dT];omega) (aL (eD hk) (aL (eD (by omega)) ?_));unfold qT;refine aV (a:=decide (vf a k=vf b k)) (aV (ko (ha _ (gz hk)) (hb _ (gz (by omega)))) (aI ?_)) (bA (λh=>aI (.inr ⟨_,rfl,.inl ⟨rfl,λe=>?_⟩⟩)) (λh=>aI (.inl ⟨rfl,?_⟩)))
   . apply decide_eq_decide.2;unfold bT;(repeat' split)<;>omega
   . subst e;simp at h
   . simpa using h
 . intro h;dsimp only[xf];rw[List.length_range];exact cD (by rw[dT];omega) (aI ⟨_,rfl,.inr ⟨rfl,h⟩⟩)
 . rintro _ (⟨rfl,h⟩|⟨rfl,h⟩)
   . exact aI (by simp[h])
   . exact aI (by simp;exact lS hab λj hj=>h j (tZ.2 hj))
theorem ET{kn:List AQ}{x:AI}:∀{a r:List AI},(∀y∈a,x.g≠y.g)->eL kn x (a++r)=a++eL kn x r
 |[],_,_=>rfl
 |y::a,r,h=>by
  show eL kn x (y::(a++r))=y::(a++eL kn x r);rw[eL,aY (h y cX),ET λz hz=>h z (cO _ hz)]
def p8(s:St)(x:AI):Prop:=x.pos<s.aA.length/\x.g.length=s.n/\∀v∈x.g,dl v<=8
theorem vj{K:Nat}{s:St}{x:AI}(hs:gJ K s)(hx:p8 s x):Tm (λN=>l6 N s.to x.to) (·=(add s x).to):=by
 have hL:dh=1099511627776:=rfl;have hK:=hs.K;have hil:=hs.il;unfold l6;have hmap:(s.aB.map AI.to).length=s.aB.length:=cT ..;refine Tm.bind (Q:=λr=>(r=.inl ()/\(∀y∈s.aB,x.g≠y.g))\/r=.inr (add s x).to) (e9 s.aB.length (λk t=>t=(k:Int)/\∀y∈s.aB.take k,x.g≠y.g) ⟨rfl,by simp⟩ ?_) ?_
 . rintro k hk t ⟨rfl,hp⟩;dsimp only[AW];refine bA (λhlt=>?_) (λhge=>aI ?_)
   . have hlt:k<s.aB.length:=by rw[show s.to.aB.length=s.aB.length from hmap]at hlt;omega
     obtain⟨y1,y2,y3⟩:=hs.i _ (dJ hlt);refine aL (a:=(s.aB[k]).to) (by show idx (s.aB.map AI.to) _=_;rw[dA (by rw[hmap];exact hlt),lG]) ?_;generalize hy:s.aB[k]=y at*;refine aV (Ua (a:=x.g) (b:=y.g) (by have:=hx.2.1;have:=hs.n;omega) (hx.2.1.trans y2.symm) (λv hv=>bU (hx.2.2 v hv) (by decide)) (λv hv=>bU (y3 v hv) (by decide))) ?_;refine bA (λhe=>?_) (λhe=>aI ⟨hlt,eK (by omega),λz hz=>?_⟩)
     . have he:x.g=y.g:=by simpa using he
       have hsplit:s.aB=s.aB.take k++y::s.aB.drop (k+1):=by
        rw[<-hy,<-fJ hlt,nT]
       have hadd:eL s.aA x s.aB=if(aH s.aA x.pos).b<(aH s.aA y.pos).b then s.aB.set k x else s.aB:=by
        conv=>lhs;rw[hsplit]
        rw[ET hp,eL,bD he];split
        . rw[VX,bD hlt]
        . exact hsplit.symm
       refine aV (sN hx.1) (aV (sN y1) (aV (ko (bU (hs.k _ (fg hx.1)).1.2 (by omega)) (bU (hs.k _ (fg y1)).1.2 (by omega))) ?_));refine bA (λh1=>?_) (λh1=>aI ?_)
       . have h1:(aH s.aA x.pos).b<(aH s.aA y.pos).b:=by unfold bT at h1;(repeat' split at h1)<;>omega
         refine aL (a:=y.to) (by show idx (s.aB.map AI.to) _=_;rw[dA (by rw[hmap];exact hlt),lG,hy]) ?_;refine aL (eE rfl (by show _<(s.aB.map AI.to).length;rw[hmap];exact hlt)) (aI (.inr ?_));unfold add;rw[hadd,bD h1];unfold St.to;dsimp only;rw[C8]
       . have h1:¬(aH s.aA x.pos).b<(aH s.aA y.pos).b:=by unfold bT at h1;(repeat' split at h1)<;>omega
         refine .inr ?_;unfold add;rw[hadd,aY h1]
     . rw[<-j9 hlt,hy]at hz;rcases fe.1 hz with hz|hz
       . exact hp z hz
       . rw[cG.1 hz];intro e;exact he (by simp[e])
   . rw[show s.to.aB.length=s.aB.length from hmap]at hge;refine .inl ⟨rfl,λy hy=>hp y ?_⟩;rwa[fC (by omega)]
 . rintro r (⟨rfl,h⟩|rfl)
   . refine aL (eb (by show((s.aB.map AI.to).length+_)*_<=_;rw[hmap];simp only[cJ,dZ];omega) (by decide)) (aI ?_);have:eL s.aA x s.aB=s.aB++[x]:=by
      have:=ET (kn:=s.aA) (x:=x) (a:=s.aB) (r:=[]) h;rw[mT]at this;rw[this];rfl
     unfold add;rw[this];unfold St.to;simp
   . exact aI rfl
def jJ(m:Nat)(s:St):Prop:=s.aA.length+m<=1073741824/\s.aU.length+m<=1073741824/\s.aB.length+m<=1073741824
theorem uS{kn:List AQ}{x:AI}:∀{l:List AI},l.length<=(eL kn x l).length/\(eL kn x l).length<=l.length+1
 |[]=>by simp[eL]
 |y::l=>by
  have:=uS (kn:=kn) (x:=x) (l:=l);rw[eL];split
  . split<;>simp
  . simp;omega
theorem mv{kn:List AQ}{x z:AI}:∀{l:List AI},z∈eL kn x l->z=x\/z∈l
 |[],h=>by simp[eL]at h;exact .inl h
 |y::l,h=>by
  rw[eL]at h;split at h
  . split at h
    . rcases ej.1 h with h|h
      . exact .inl h
      . exact .inr (cO _ h)
    . exact .inr h
  . rcases ej.1 h with h|h
    . exact .inr (h▸cX)
    . rcases mv h with h|h
      . exact .inl h
      . exact .inr (cO _ h)
theorem Mj{K m:Nat}{s:St}{x:AI}(hs:gJ K s)(hx:p8 s x)(hr:jJ (m+1) s):gJ K (add s x)/\jJ m (add s x):=by
 have h1:=uS (kn:=s.aA) (x:=x) (l:=s.aB);obtain⟨r1,r2,r3⟩:=hr;refine⟨⟨hs.n,hs.kl,hs.sl,?_,hs.k,λz hz=>?_,hs.K⟩,?_,?_,?_⟩
 . show(eL s.aA x s.aB).length<=_;omega
 . rcases mv hz with rfl|hz
   . exact hx
   . exact hs.i z hz
 . show s.aA.length+m<=_;omega
 . show s.aU.length+m<=_;omega
 . show(eL s.aA x s.aB).length+m<=_;omega
theorem MW{K K' m:Nat}{s:St}{g:List Int}{us:List AU}(hs:gJ K s)(h:gT K' s g us)(hk:K'+6<=K)(hr:jJ (m+1) s):gJ K (dst s g us)/\jJ m (dst s g us)/\(dst s g us).aB.length+m+1<=1073741824:=by
 obtain⟨r1,r2,r3⟩:=hr;unfold dst;split
 . refine⟨⟨hs.n,by simp;omega,by simp;omega,hs.il,λq hq=>?_,λz hz=>?_,hs.K⟩,⟨by simp;omega,by simp;omega,by show s.aB.length+m<=_;omega⟩,by show s.aB.length+m+1<=_;omega⟩
   . rcases fe.1 hq with hq|hq
     . exact hs.k q hq
     . rw[cG.1 hq];exact⟨(D4 h).1.mono hk,(D4 h).2⟩
   . obtain⟨z1,z2⟩:=hs.i z hz;exact⟨by simp;omega,z2⟩
 . exact⟨hs,⟨by omega,by omega,by omega⟩,by omega⟩
theorem Lv{K':Nat}{s:St}{g:List Int}{us:List AU}(h:gT K' s g us):p8 (dst s g us) (lK s g us):=
 ⟨BH h,by rw[EF];exact eZ,Qf (dY (ra g)) h.g⟩
theorem Ng{K K' m:Nat}{s:St}{g:List Int}{us:List AU}(hs:gJ K s)(h:gT K' s g us)(hk:K'+6<=K)(hr:jJ (m+1) s):gJ K (put s g us).2/\jJ m (put s g us).2:=by
 obtain⟨h1,h2,h3⟩:=MW hs h hk hr;unfold put;dsimp only;split
 . have:=uS (kn:=(dst s g us).aA) (x:=lK s g us) (l:=(dst s g us).aB);refine⟨⟨h1.n,h1.kl,h1.sl,?_,h1.k,λz hz=>?_,h1.K⟩,h2.1,h2.2.1,?_⟩
   . show(eL _ _ _).length<=_;omega
   . rcases mv hz with rfl|hz
     . exact Lv h
     . exact h1.i z hz
   . show(eL _ _ _).length+m<=_;omega
 . exact⟨h1,h2⟩
theorem H9{K K':Nat}{s:St}{g:List Int}{us:List AU}(hs:gJ K s)(h:gT K' s g us)(hk:K'+6<=K)(hr:jJ 1 s):Tm (λN=>nN N s.to (mB g) (us.map AU.to)) (·=((put s g us).1,(put s g us).2.to)):=by
 obtain⟨h1,h2,h3⟩:=MW (m:=0) hs h hk hr;unfold nN;refine aV (Tq hs h (by omega)) ?_;dsimp only;have hn:s.to.n=(dst s g us).to.n:=by show(s.n:Int)=(dst s g us).n;rw[EF]
 have e1:∀x:aS,s.to.n=x.n->aS.mk s.to.n x.aA x.aU x.u x.aN x.value x.aB x.aK=x:=λx hx=>jc hx;refine Tm.bind (Q:=λt=>aS.mk s.to.n t.1 t.2.1 t.2.2.1 t.2.2.2.1 t.2.2.2.2.1 t.2.2.2.2.2.1 t.2.2.2.2.2.2=(put s g us).2.to) (bA (λh0=>?_) (λh0=>aI ?_)) ?_
 . rw[e1 _ hn];refine aV (vj h1 (Lv h)) (aI ?_);dsimp only;rw[e1 (D.add (dst s g us) (lK s g us)).to hn];unfold put;dsimp only;rw[bD (by simpa using h0)]
 . dsimp only;rw[e1 _ hn];unfold put;dsimp only;rw[aY (by simpa using h0)]
 . rintro⟨a,b,c,d,e,f,g'⟩ ht;refine aI ?_;dsimp only at ht⊢;rw[ht];rfl
inductive Act where
 |add (x:AI)
 |put (g:List Int) (us:List AU)
def cw:St->List Act->Bool×St
 |s,[]=>(true,s)
 |s,.add x::r=>cw (add s x) r
 |s,.put g us::r=>if(put s g us).1=true then cw (put s g us).2 r else(false,(put s g us).2)
def mc(K:Nat)(s:St):Act->Prop
 |.add x=>p8 s x
 |.put g us=>gT K s g us
theorem mO.app{n K:Nat}{kn e:List AQ}{u:AU}(h:mO n K kn u):mO n K (kn++e) u:=by
 obtain⟨h1,h2,h3,h4,h5⟩:=h;exact⟨by simp;omega,h2,h3,by rw[iH h1];exact h4,by rw[iH h1];exact h5⟩
theorem mc.app{K:Nat}{s s':St}{a:Act}(h:mc K s a)(hn:s'.n=s.n){e:List AQ}(he:s'.aA=s.aA++e):mc K s' a:=by
 cases a with
 |add x=>exact⟨by rw[he];have:=h.1;simp;omega,by rw[hn];exact h.2.1,h.2.2⟩
 |put g us=>exact⟨by rw[hn];exact h.gl,h.g,h.ul,h.u0,λu hu=>by rw[hn,he];exact(h.u u hu).app⟩
theorem Cu(s:St)(g:List Int)(us:List AU):∃e,(put s g us).2.aA=s.aA++e/\e.length<=1:=by
 unfold put;dsimp only;split<;>exact L3 s g us
theorem Ap(s:St)(g:List Int)(us:List AU):(put s g us).2.n=s.n:=by
 unfold put;dsimp only;split<;>exact EF s g us
structure iS (K:Nat)(s0:St)(L:List Act)(k:Nat)(s:St):Prop where
 run:cw s0 L=cw s (L.drop k)
 ok:gJ K s
 room:jJ (L.length-k) s
 pre:∃e,s.aA=s0.aA++e
 n:s.n=s0.n
theorem iS.first{K:Nat}{s0:St}{L:List Act}(h:gJ K s0)(hr:jJ L.length s0):iS K s0 L 0 s0:=⟨rfl,h,hr,⟨[],by simp⟩,rfl⟩
theorem iS.add{K K0:Nat}{s0 s:St}{L:List Act}{k:Nat}{x:AI}(h:iS K s0 L k s)(hk:k<L.length)(hL:L[k]=.add x)(hx:mc K0 s0 (.add x)):p8 s x/\iS K s0 L (k+1) (add s x):=by
 obtain⟨e,he⟩:=h.pre;have hx':p8 s x:=hx.app h.n he;obtain⟨m,hm⟩:∃m,L.length-k=m+1:=⟨L.length-k-1,by omega⟩;have h1:=Mj (m:=m) h.ok hx' (by rw[<-hm];exact h.room);refine⟨hx',?_,h1.1,by rw[show L.length-(k+1)=m by omega];exact h1.2,⟨e,he⟩,h.n⟩;rw[h.run,fJ hk,hL];rfl
theorem iS.put{K K0:Nat}{s0 s:St}{L:List Act}{k:Nat}{g:List Int}{us:List AU}(h:iS K s0 L k s)(hk:k<L.length)(hL:L[k]=.put g us)(hx:mc K0 s0 (.put g us))(hK:K0+6<=K):
 Tm (λN=>nN N s.to (mB g) (us.map AU.to)) (·=((put s g us).1,(put s g us).2.to))/\((put s g us).1=true->iS K s0 L (k+1) (put s g us).2)/\((put s g us).1=false->cw s0 L=(false,(put s g us).2))/\(put s g us).2.n=s0.n:=by
 obtain⟨e,he⟩:=h.pre;have hx':gT K0 s g us:=hx.app h.n he;obtain⟨m,hm⟩:∃m,L.length-k=m+1:=⟨L.length-k-1,by omega⟩;have hr:jJ (m+1) s:=by rw[<-hm];exact h.room
 have hr1:jJ 1 s:=⟨by have:=hr.1;omega,by have:=hr.2.1;omega,by have:=hr.2.2;omega⟩;have h1:=Ng (m:=m) h.ok hx' hK hr;obtain⟨e',he',_⟩:=Cu s g us;have hrun:cw s0 L=if(D.put s g us).1=true then cw (D.put s g us).2 (L.drop (k+1))else(false,(D.put s g us).2):=by
  rw[h.run,fJ hk,hL];rfl
 refine⟨H9 h.ok hx' hK hr1,λht=>⟨?_,h1.1,by rw[show L.length-(k+1)=m by omega];exact h1.2,⟨e++e',by rw[he',he,jy]⟩,(Ap s g us).trans h.n⟩,λhf=>?_,(Ap s g us).trans h.n⟩
 . rw[hrun,bD ht]
 . rw[hrun,aY (by rw[hf];simp)]
theorem iS.last{K:Nat}{s0 s:St}{L:List Act}(h:iS K s0 L L.length s):cw s0 L=(true,s):=by
 rw[h.run,Dd];rfl
abbrev Pt:=(List bG)×(List Step)×(List (List aC))×(List Int)×(List aC)×(List bB)×(List dW)
def jf(s:St):Pt:=(s.to.aA,s.to.aU,s.to.u,s.to.aN,s.to.value,s.to.aB,s.to.aK)
def gP(s:St):List Act:=(List.range s.aA.length).map λi=>.put (aH s.aA i).c [⟨i,1⟩]
theorem S6{K K0:Nat}{s:St}(hs:gJ K s)(hr:jJ s.aA.length s)(hK:K0+6<=K)(h:∀q∈s.aA,fW K0 q/\∀v∈q.c,dl v<=8):Tm (λN=>uH N s.to) (·=((cw s (gP s)).1,(cw s (gP s)).2.to)):=by
 have hl:(gP s).length=s.aA.length:=by simp[gP]
 have hmap:s.to.aA.length=s.aA.length:=cT ..;have hkl:=hs.kl;unfold uH;refine Tm.bind (Q:=λr=>(∃s',r=.inl (jf s')/\cw s (gP s)=(true,s')/\s'.n=s.n)\/(r=.inr ((cw s (gP s)).1,(cw s (gP s)).2.to))) (e9 s.aA.length (λk t=>∃s',iS K s (gP s) k s'/\t=(s'.to.aA,s'.to.aU,s'.to.u,s'.to.aN,s'.to.value,s'.to.aB,s'.to.aK,(k:Int))) ⟨s,iS.first hs (by rw[hl];exact hr),rfl⟩ ?_) ?_
 . rintro k hk _ ⟨s',hi,rfl⟩;dsimp only[EJ];refine bA (λhlt=>?_) (λhge=>aI (.inl ⟨s',rfl,?_,hi.n⟩))
   . have hlt:k<s.aA.length:=by omega
     obtain⟨e,he⟩:=hi.pre;have hq:=h _ (fg hlt);have hql:=(hs.k _ (fg hlt)).2;refine aL (a:=(aH s.aA k).to) (by show idx (s'.aA.map AQ.to) _=_;rw[nJ (by rw[he];simp;omega),he,iH hlt]) ?_;refine aV (a:=mB (aH s.aA k).c) ?_ ?_
     . unfold oP;refine aL (eb (by show(_+(mB _).length)*_<=_;rw[dT,hql];have:=hs.n;simp only[dZ];omega) (by decide)) (aI rfl)
     have hLk:(gP s)[k]'(by rw[hl];exact hlt)=.put (aH s.aA k).c [⟨k,1⟩]:=by simp[gP]
     have hact:mc K0 s (.put (aH s.aA k).c [⟨k,1⟩]):=⟨hql,hq.2,by simp,by simp,λu hu=>by
      rw[cG.1 hu];exact⟨hlt,HD 1,bU jL (by decide),hq.1,hql⟩⟩
     obtain⟨p1,p2,p3,p4⟩:=hi.put (by rw[hl];exact hlt) hLk hact hK;refine aV (iO (by decide) (by decide)) ?_;rw[jc (x:=s'.to) (by show(s.n:Int)=s'.n;rw[hi.n])];refine aV p1 (bA (λhf=>aI ?_) (λht=>aI ⟨hlt,_,p2 (by simpa using ht),?_⟩))
     . dsimp only;rw[jc (by show(s.n:Int)=_;rw[show(D.put s' (aH s.aA k).c [⟨k,1⟩]).2.to.n=((D.put s' (aH s.aA k).c [⟨k,1⟩]).2.n:Int) from rfl,p4])];rw[p3 (by simpa using hf)];exact .inr rfl
     . dsimp only;rw[eK (by omega)]
   . have:k=s.aA.length:=by omega
     subst this;exact iS.last (by rw[hl];exact hi)
 . rintro r (⟨s',rfl,h1,h2⟩|rfl)
   . refine aI ?_;show(true,aS.mk s.to.n s'.to.aA s'.to.aU s'.to.u s'.to.aN s'.to.value s'.to.aB s'.to.aK)=_;rw[jc (x:=s'.to) (by show(s.n:Int)=s'.n;rw[h2]),h1]
   . exact aI rfl
open Go Go.X
def kh(n K:Nat)(l:List Int):Prop:=l.length=n/\∀v∈l,dl v<=K
theorem kh.vf{n K:Nat}{l:List Int}(h:kh n K l)(j:Nat):dl (vf l j)<=K:=by
 rcases cH j l.length with hj|hj
 . exact h.2 _ (gz hj)
 . rw[lO hj,iq];omega
structure SU (K:Nat)(s:St):Prop where
 u:s.u.length=s.n/\∀r∈s.u,kh s.n K r
 st:s.aN.length=s.n
 v:kh s.n K s.value
def lW(j p:Nat)(q:Int)(l:List Int):List Int:=l.set j (vf l j-q*vf l p)
def lj(s:St)(j p:Nat)(q:Int):St:={s with u:=s.u.map (lW j p q),aB:=s.aB.map λx=>{x with g:=lW j p q x.g}}
theorem BF{l:List Int}(h:l.length<=1000):Tm (λN=>oP N (mB l)) (·=mB l):=by
 unfold oP;exact aL (eb (by rw[dT];simp only[dZ];omega) (by decide)) (aI rfl)
theorem Iv{n K:Nat}{l:List Int}{j p:Nat}{q:Int}(hn:n<=512)(hl:kh n K l)(hj:j<n)(hp:p<n)(hK:K+dl q<=dh):Tm (λN=>mj N (mB l) (j:Int) (B q) (p:Int)) (·=mB (lW j p q l)):=by
 have hll:=hl.1;have h1:=hl.vf j;have h2:=hl.vf p;have h3:=kD q (vf l p);unfold mj;refine aV (BF (by omega)) (aL (eD (by omega)) (aL (eD (by omega)) (aV (ox (by omega) (by omega)) (aV (ld (by omega) (by omega)) (aL (eD (by omega)) (aL (eE rfl (by rw[dT];omega)) (aI ?_)))))));rw[sV];rfl
theorem JO{n K:Nat}{l:List Int}{p:Nat}(hn:n<=512)(hl:kh n K l)(hp:p<n)(hK:K<=dh):Tm (λN=>mK N (mB l) (p:Int)) (·=mB (l.set p (-vf l p))):=by
 have hll:=hl.1;have h1:=hl.vf p;unfold mK;refine aV (BF (by omega)) (aL (eD (by omega)) (aV (ou (by omega)) (aL (eD (by omega)) (aL (eE rfl (by rw[dT];omega)) (aI ?_)))));rw[sV]
theorem xZ{α β:Type}{l:List α}{f:α->β}{d:α}:(List.range l.length).map (λk=>f (l.getD k d))=l.map f:=by
 apply qv (by simp);intro i h1 h2;simp at h2;simp[cN,cy h2]
theorem ON{K:Nat}{s:St}{j p:Nat}{q:Int}(hu:SU K s)(hn:s.n<=512)(hil:s.aB.length<=1073741824)(hi:∀x∈s.aB,kh s.n K x.g)(hj:j<s.n)(hp:p<s.n)(hK:K+dl q<=dh):
 Tm (λN=>yE N s.to (j:Int) (p:Int) (B q)) (·=(lj s j p q).to):=by
 unfold yE;have hmu:s.to.u.length=s.u.length:=cT ..;have hmi:s.to.aB.length=s.aB.length:=cT ..;have hul:=hu.u.1;refine aV (a:=s.u.map λr=>mB (lW j p q r)) ?_ ?_
 . refine(Tm.fill (n:=s.u.length) (by omega) (c0:=s.to.u) (λk=>mB (lW j p q (s.u.getD k []))) hmu (fin:=id) ?_ ?_).mono ?_
   . intro k hk c hc hi';have e0:s.to.u[k]?=some (mB s.u[k]):=by show(s.u.map mB)[k]?=_;rw[ij,cy hk];rfl
     rw[e0]at hi';dsimp only[Cb];refine cR (by rw[hmu];omega) (aL (lk hi') (aV (Iv hn (hu.u.2 _ (dJ hk)) hj hp hK) (aL (lk hi') (aL (eE rfl (by omega)) (aI ?_)))));rw[cN,cy hk];rfl
   . intro c hc;dsimp only[Cb];exact cD (by rw[hmu];omega) (aI rfl)
   . intro r hr;rw[hr,id,xZ (f:=λr=>mB (lW j p q r))]
 . refine aV (a:=s.aB.map λx=>({x with g:=lW j p q x.g}:AI).to) ?_ ?_
   . refine(Tm.fill (n:=s.aB.length) (by omega) (c0:=s.to.aB) (λk=>({s.aB.getD k ⟨0,[]⟩with g:=lW j p q (s.aB.getD k ⟨0,[]⟩).g}:AI).to) hmi (fin:=id) ?_ ?_).mono ?_
     . intro k hk c hc hi';have e0:s.to.aB[k]?=some (s.aB[k]).to:=by show(s.aB.map AI.to)[k]?=_;rw[ij,cy hk];rfl
       rw[e0]at hi';dsimp only[AH];refine cR (by rw[hmi];omega) (aL (lk hi') (aV (Iv hn (hi _ (dJ hk)) hj hp hK) (aL (lk hi') (aL (eE rfl (by omega)) (aI ?_)))));rw[cN,cy hk];rfl
     . intro c hc;dsimp only[AH];exact cD (by rw[hmi];omega) (aI rfl)
     . intro r hr;rw[hr,id,xZ (f:=λx:AI=>({x with g:=lW j p q x.g}:AI).to)]
   . refine aI ?_;unfold lj St.to;dsimp only;rw[mV,mV];rfl
def flS(s:St)(p:Nat):St:={s with u:=s.u.map (λl=>l.set p (-vf l p)),aB:=s.aB.map λx=>{x with g:=x.g.set p (-vf x.g p)}}
theorem P5{K:Nat}{s:St}{p:Nat}(hu:SU K s)(hn:s.n<=512)(hil:s.aB.length<=1073741824)(hi:∀x∈s.aB,kh s.n K x.g)(hp:p<s.n)(hK:K<=dh):
 Tm (λN=>yT N s.to (p:Int)) (·=(flS s p).to):=by
 unfold yT;have hmu:s.to.u.length=s.u.length:=cT ..;have hmi:s.to.aB.length=s.aB.length:=cT ..;have hul:=hu.u.1;refine aV (a:=s.u.map λr=>mB (r.set p (-vf r p))) ?_ ?_
 . refine(Tm.fill (n:=s.u.length) (by omega) (c0:=s.to.u) (λk=>mB ((s.u.getD k []).set p (-vf (s.u.getD k []) p))) hmu (fin:=id) ?_ ?_).mono ?_
   . intro k hk c hc hi';have e0:s.to.u[k]?=some (mB s.u[k]):=by show(s.u.map mB)[k]?=_;rw[ij,cy hk];rfl
     rw[e0]at hi';dsimp only[BV];refine cR (by rw[hmu];omega) (aL (lk hi') (aV (JO hn (hu.u.2 _ (dJ hk)) hp hK) (aL (lk hi') (aL (eE rfl (by omega)) (aI ?_)))));rw[cN,cy hk];rfl
   . intro c hc;dsimp only[BV];exact cD (by rw[hmu];omega) (aI rfl)
   . intro r hr;rw[hr,id,xZ (f:=λr:List Int=>mB (r.set p (-vf r p)))]
 . refine aV (a:=s.aB.map λx=>({x with g:=x.g.set p (-vf x.g p)}:AI).to) ?_ ?_
   . refine(Tm.fill (n:=s.aB.length) (by omega) (c0:=s.to.aB) (λk=>({s.aB.getD k ⟨0,[]⟩with g:=(s.aB.getD k ⟨0,[]⟩).g.set p (-vf (s.aB.getD k ⟨0,[]⟩).g p)}:AI).to) hmi (fin:=id) ?_ ?_).mono ?_
     . intro k hk c hc hi';have e0:s.to.aB[k]?=some (s.aB[k]).to:=by show(s.aB.map AI.to)[k]?=_;rw[ij,cy hk];rfl
       rw[e0]at hi';dsimp only[AF];refine cR (by rw[hmi];omega) (aL (lk hi') (aV (JO hn (hi _ (dJ hk)) hp hK) (aL (lk hi') (aL (eE rfl (by omega)) (aI ?_)))));rw[cN,cy hk];rfl
     . intro c hc;dsimp only[AF];exact cD (by rw[hmi];omega) (aI rfl)
     . intro r hr;rw[hr,id,xZ (f:=λx:AI=>({x with g:=x.g.set p (-vf x.g p)}:AI).to)]
   . refine aI ?_;unfold flS St.to;dsimp only;rw[mV,mV];rfl
def qA(a:List Int)(p:Nat):Prop:=p<a.length/\vf a p≠0/\∀j,j<a.length->vf a j≠0->(vf a p).natAbs<=(vf a j).natAbs
theorem absB(v:Int):aC.mk false (B v).aQ=B (v.natAbs:Int):=by
 show aC.mk false (rk v.natAbs)=aC.mk (decide ((v.natAbs:Int)<0)) (rk ((v.natAbs:Int)).natAbs);rw[Oc,uj (by omega)]
theorem KB(v:Int):dl (v.natAbs:Int)=dl v:=Nat.le_antisymm (tO (by omega)) (tO (by omega))
theorem py{a:Int}:bT a 0≠0↔a≠0:=by unfold bT;(repeat' split)<;>omega
theorem oN{a b:Int}:bT a b<0↔a<b:=by unfold bT;(repeat' split)<;>omega
theorem Ra{x:AI}(hl:x.g.length<=1000)(hd:∀v∈x.g,dl v<=dh)(h0:∃j,j<x.g.length/\vf x.g j≠0):Tm (λN=>bS (A1 N x.to) N ((-1),0)) (λr=>∃p:Nat,r=(p:Int)/\qA x.g p):=by
 have hxl:x.to.g.length=x.g.length:=dT _;refine e9 x.g.length (λk t=>t.2=(k:Int)/\((t.1=-1/\∀j,j<k->vf x.g j=0)\/∃p:Nat,t.1=(p:Int)/\p<k/\vf x.g p≠0/\∀j,j<k->vf x.g j≠0->(vf x.g p).natAbs<=(vf x.g j).natAbs)) ⟨rfl,.inl ⟨rfl,λj hj=>by omega⟩⟩ ?_;rintro k hk ⟨p,i⟩ ⟨rfl,hp⟩;dsimp only at hp;dsimp only[A1];refine bA (λhlt=>?_) (λhge=>aI ?_)
 . have hlt:k<x.g.length:=by omega
   have hdk:=hd _ (gz hlt);have hidx:idx x.to.g (k:Int)=some (B (vf x.g k)):=eD hlt;refine Tm.bind (Q:=λr:Int=>(r=(k:Int)/\vf x.g k≠0/\∀j,j<k->vf x.g j≠0->(vf x.g k).natAbs<=(vf x.g j).natAbs)\/(r=p/\(vf x.g k=0\/∃p':Nat,p=(p':Int)/\(vf x.g p').natAbs<=(vf x.g k).natAbs))) ?_ ?_
   . refine Tm.bind (Q:=λc=>(c=true/\vf x.g k≠0/\∀j,j<k->vf x.g j≠0->(vf x.g k).natAbs<=(vf x.g j).natAbs)\/(c=false/\(vf x.g k=0\/∃p':Nat,p=(p':Int)/\(vf x.g p').natAbs<=(vf x.g k).natAbs))) ?_ ?_
     . refine aL hidx (aV (jK hdk) (bA (λh1=>?_) (λh1=>aI (.inr ⟨rfl,.inl ?_⟩))))
       . have h1:=py.1 h1;rcases hp with⟨rfl,hz⟩|⟨p',rfl,hpk,hp0,hpm⟩
         . exact cR (by decide) (aI (.inl ⟨rfl,h1,λj hj hj0=>bV (hz j hj) hj0⟩))
         . refine cD (by omega) ?_;refine aL hidx (aL (a:=B (vf x.g k).natAbs) (dz some (absB _)) ?_);refine aL (eD (l:=x.g) (k:=p') (by omega)) (aL (a:=B (vf x.g p').natAbs) (dz some (absB _)) ?_);refine aV (ko (by rw[KB];exact hdk) (by rw[KB];exact hd _ (gz (by omega)))) (aI ?_);by_cases hc:(vf x.g k).natAbs<(vf x.g p').natAbs
           . exact .inl ⟨iM (oN.2 (by omega)),h1,λj hj hj0=>by have:=hpm j hj hj0;omega⟩
           . exact .inr ⟨uj (λe=>hc (by have:=oN.1 e;omega)),.inr ⟨p',rfl,by omega⟩⟩
       . exact ji λe=>h1 (py.2 e)
     . rintro c (⟨rfl,h1⟩|⟨rfl,h1⟩)
       . exact cR rfl (aI (.inl ⟨rfl,h1⟩))
       . exact cD (by simp) (aI (.inr ⟨rfl,h1⟩))
   . rintro r hr;refine aI ⟨hlt,eK (by omega),?_⟩;dsimp only;rcases hr with⟨rfl,h1,h2⟩|⟨rfl,h1⟩
     . refine .inr ⟨k,rfl,by omega,h1,λj hj hj0=>?_⟩;rcases cH j k with h3|h3
       . exact h2 j h3 hj0
       . obtain rfl:j=k:=by omega
         exact bO _
     . rcases hp with⟨e,hz⟩|⟨p',e,hpk,hp0,hpm⟩
       . rcases h1 with h1|⟨p',e',_⟩
         . refine .inl ⟨e,λj hj=>?_⟩;rcases cH j k with h3|h3
           . exact hz j h3
           . obtain rfl:j=k:=by omega
             exact h1
         . omega
       . refine .inr ⟨p',e,by omega,hp0,λj hj hj0=>?_⟩;rcases cH j k with h3|h3
         . exact hpm j h3 hj0
         . obtain rfl:j=k:=by omega
           rcases h1 with h1|⟨p'',e',h4⟩
           . exact bV h1 hj0
           . obtain rfl:p''=p':=by omega
             exact h4
 . have:k=x.g.length:=by omega
   subst this;rcases hp with⟨rfl,hz⟩|⟨p',rfl,hpk,hp0,hpm⟩
   . obtain⟨j,hj,hj0⟩:=h0;exact bV (hz j hj) hj0
   . exact⟨p',rfl,hpk,hp0,hpm⟩
def cx(a:List Int)(p k:Nat)(l:List Int):List Int:=vec l.length λj=>if j<k/\j≠p then vf l j-(vf a j).fdiv (vf a p)*vf l p else vf l j
def fQ(s:St)(a:List Int)(p k:Nat):St:={s with u:=s.u.map (cx a p k),aB:=s.aB.map λx=>{x with g:=cx a p k x.g}}
theorem pZ{a:List Int}{p k:Nat}{l:List Int}:(cx a p k l).length=l.length:=eZ
theorem Ru{a:List Int}{p:Nat}{l:List Int}:cx a p 0 l=l:=by
 refine lS eZ λj hj=>?_;rw[show(cx a p 0 l).length=l.length from eZ]at hj;unfold cx;rw[dF hj,aY (by omega)]
theorem LR{a:List Int}{p k:Nat}{l:List Int}(hp:p<l.length)(hk:k<l.length)(hkp:k≠p):lW k p ((vf a k).fdiv (vf a p)) (cx a p k l)=cx a p (k+1) l:=by
 refine lS (by unfold lW;rw[iK];exact eZ.trans eZ.symm) λj hj=>?_;unfold lW at hj⊢;rw[iK,pZ]at hj;have e1:vf (cx a p k l) k=vf l k:=by unfold cx;rw[dF hk,aY (by omega)]
 have e2:vf (cx a p k l) p=vf l p:=by unfold cx;rw[dF hp,aY (by omega)]
 rw[jZ (by rw[pZ];exact hk),e1,e2];have e3:vf (cx a p (k+1) l) j=if j<k+1/\j≠p then vf l j-(vf a j).fdiv (vf a p)*vf l p else vf l j:=by unfold cx;rw[dF hj]
 have e4:vf (cx a p k l) j=if j<k/\j≠p then vf l j-(vf a j).fdiv (vf a p)*vf l p else vf l j:=by unfold cx;rw[dF hj]
 rw[e3];by_cases e:k=j
 . subst e;rw[bD rfl,bD ⟨by omega,hkp⟩]
 . rw[aY e,e4];by_cases h2:j<k/\j≠p
   . rw[bD h2,bD ⟨by omega,h2.2⟩]
   . rw[aY h2,aY (by omega)]
theorem Pr{a:List Int}{p k:Nat}{l:List Int}(h:k=p\/vf a k=0):cx a p (k+1) l=cx a p k l:=by
 unfold cx;refine Np λj hj=>?_;by_cases e:j=k
 . subst e;have h2:¬(j<j/\j≠p):=by omega
   rcases h with h|h
   . have h1:¬(j<j+1/\j≠p):=by omega
     rw[aY h1,aY h2]
   . rw[aY h2,h];split
     . rw[wQ];omega
     . rfl
 . by_cases h2:j<k/\j≠p
   . rw[bD h2,bD ⟨by omega,h2.2⟩]
   . rw[aY h2,aY (by omega)]
theorem QW(s:St)(a:List Int)(p:Nat):fQ s a p 0=s:=by
 unfold fQ;rw[show cx a p 0=id from funext λl=>Ru];simp
theorem Vo{s:St}{a:List Int}{p k:Nat}(h:k=p\/vf a k=0):fQ s a p (k+1)=fQ s a p k:=by
 unfold fQ;rw[show cx a p (k+1)=cx a p k from funext λl=>Pr h]
theorem VL{s:St}{a:List Int}{p k:Nat}(hu:∀r∈s.u,r.length=s.n)(hi:∀x∈s.aB,x.g.length=s.n)(hp:p<s.n)(hk:k<s.n)(hkp:k≠p):lj (fQ s a p k) k p ((vf a k).fdiv (vf a p))=fQ s a p (k+1):=by
 unfold lj fQ;dsimp only;rw[mV,mV];congr 1
 . apply De;intro r hr;exact LR (by rw[hu r hr];exact hp) (by rw[hu r hr];exact hk) hkp
 . apply De;intro x hx;show AI.mk _ _=AI.mk _ _;rw[show lW k p ((vf a k).fdiv (vf a p)) (cx a p k x.g)=cx a p (k+1) x.g from LR (by rw[hi x hx];exact hp) (by rw[hi x hx];exact hk) hkp]
theorem GU{n K:Nat}{a:List Int}{p k:Nat}{l:List Int}(hl:kh n K l)(ha:∀j,dl (vf a j)<=8):kh n (K+9) (cx a p k l):=by
 refine⟨pZ.trans hl.1,λv hv=>?_⟩;obtain⟨j,hj,rfl⟩:=gC hv;rw[pZ]at hj;unfold cx;rw[dF hj];split
 . have h1:=hl.vf j;have h2:=hl.vf p;have h3:=kD ((vf a j).fdiv (vf a p)) (vf l p);have h4:=rU (vf a j) (vf a p);have h5:=ha j;exact jW (K:=K+8) (by omega) (by omega)
 . have:=hl.vf j;omega
theorem UX{K:Nat}{s0 s:St}{i p:Nat}(hu:SU K s)(hn:s.n<=512)(hn0:s0.n=s.n)(hil:s.aB.length<=1073741824)(hi:∀x∈s.aB,kh s.n 8 x.g)(hii:i<s.aB.length)(hp:p<s.n)(hK8:8<=K)(hK:K+30<=dh)(c0:Bool):
 Tm (λN=>bS (BE N s0.to (i:Int) (s.aB[i]).to (p:Int)) N (s.to.aA,s.to.aU,s.to.u,s.to.aN,s.to.value,s.to.aB,s.to.aK,c0,0))
  (λr=>∃c,r=((fQ s (s.aB[i]).g p s.n).to.aA,(fQ s (s.aB[i]).g p s.n).to.aU,(fQ s (s.aB[i]).g p s.n).to.u,(fQ s (s.aB[i]).g p s.n).to.aN,(fQ s (s.aB[i]).g p s.n).to.value,(fQ s (s.aB[i]).g p s.n).to.aB,(fQ s (s.aB[i]).g p s.n).to.aK,c)/\(c=true↔c0=true/\∀j,j<s.n->j≠p->vf (s.aB[i]).g j=0)):=by
 generalize hx:s.aB[i]=x;have hxm:x∈s.aB:=hx▸dJ hii;obtain⟨xl,xd⟩:=hi x hxm;have hxl:x.to.g.length=s.n:=(dT _).trans xl;have ha:∀j,dl (vf x.g j)<=8:=kh.vf ⟨xl,xd⟩;refine e9 s.n (λk t=>∃c,t=((fQ s x.g p k).to.aA,(fQ s x.g p k).to.aU,(fQ s x.g p k).to.u,(fQ s x.g p k).to.aN,(fQ s x.g p k).to.value,(fQ s x.g p k).to.aB,(fQ s x.g p k).to.aK,c,(k:Int))/\(c=true↔c0=true/\∀j,j<k->j≠p->vf x.g j=0)) ⟨c0,by rw[QW];rfl,by simp⟩ ?_;rintro k hk _ ⟨c,rfl,hc⟩;dsimp only[BE];refine bA (λhlt=>?_) (λhge=>aI ?_)
 . have hlt:k<s.n:=by rw[hxl]at hlt;omega
   have hik:∀z∈(fQ s x.g p k).aB,kh s.n (8+9) z.g:=by
    intro z hz;obtain⟨w,hw,rfl⟩:=dR.1 hz;exact GU (hi w hw) ha
   have hgk:(fQ s x.g p k).aB[i]?=some {x with g:=cx x.g p k x.g}:=by
    show(s.aB.map _)[i]?=_;rw[ij,cy hii,hx];rfl
   refine Tm.bind (Q:=λr=>(r.1,r.2.1,r.2.2.1,r.2.2.2.1,r.2.2.2.2.1,r.2.2.2.2.2.1,r.2.2.2.2.2.2.1)=jf (fQ s x.g p (k+1))/\(r.2.2.2.2.2.2.2=true↔c0=true/\∀j,j<k+1->j≠p->vf x.g j=0)) (Tm.bind (Q:=λb=>b=decide (k≠p/\vf x.g k≠0)) (bA (λhkp=>?_) (λhkp=>aI ?_)) ?_) ?_
   . have hkp:k≠p:=by omega
     refine aL (a:=({x with g:=cx x.g p k x.g}:AI).to) (lk (by show((fQ s x.g p k).aB.map AI.to)[i]?=_;rw[ij,hgk];rfl)) ?_;refine aL (eD (l:=cx x.g p k x.g) (by rw[pZ];omega)) ?_;have e:vf (cx x.g p k x.g) k=vf x.g k:=by unfold cx;rw[dF (by omega),aY (by omega)]
     rw[e];refine aV (jK (bU (ha k) (by decide))) (aI ?_);apply decide_eq_decide.2;rw[py];exact⟨λh=>⟨hkp,h⟩,λh=>h.2⟩
   . rw[uj];omega
   . rintro _ rfl;refine bA (λh1=>?_) (λh1=>aI ?_)
     . obtain⟨hkp,hk0⟩:=iL h1;refine aL (eD (l:=x.g) (by omega)) (aL (eD (l:=x.g) (k:=p) (by omega)) (Tm.bind (pP (bU (ha k) (by decide)) (bU (ha p) (by decide))) ?_));intro r hr;rw[hr,jc (x:=(fQ s x.g p k).to) (by show(s0.n:Int)=s.n;rw[hn0])];have hSUk:SU (K+9) (fQ s x.g p k):=⟨⟨by show(s.u.map _).length=_;rw[cT];exact hu.u.1,λl hl=>by
        obtain⟨w,hw,rfl⟩:=dR.1 hl;exact GU (hu.u.2 w hw) ha⟩,hu.st,⟨hu.v.1,λv hv=>by have:=hu.v.2 v hv;omega⟩⟩
       have hq:=rU (vf x.g k) (vf x.g p);have hq8:=ha k;refine aV (ON (s:=fQ s x.g p k) hSUk hn (by show(s.aB.map _).length<=_;rw[cT];exact hil) (λz hz=>⟨(hik z hz).1,λv hv=>by have:=(hik z hz).2 v hv;omega⟩) hlt hp (by omega)) (aI ?_);rw[VL (λr hr=>(hu.u.2 r hr).1) (λz hz=>(hi z hz).1) hp hlt hkp];refine⟨rfl,?_⟩;dsimp only;exact⟨λe=>(by cases e),λe=>bV (e.2 k (by omega) hkp) hk0⟩
     . have h2:k=p\/vf x.g k=0:=by
        have:¬(k≠p/\vf x.g k≠0):=λe=>h1 (iM e);omega
       rw[Vo h2];refine⟨rfl,?_⟩;dsimp only;rw[hc];refine and_congr_right λ_=>⟨λh j hj hjp=>?_,λh j hj hjp=>h j (by omega) hjp⟩;rcases cH j k with h3|h3
       . exact h j h3 hjp
       . obtain rfl:j=k:=by omega
         rcases h2 with h2|h2
         . exact bV h2 hjp
         . exact h2
   . rintro⟨r1,r2,r3,r4,r5,r6,r7,r8⟩ ⟨h1,h2⟩;dsimp only at h1 h2⊢;obtain⟨rfl,rfl,rfl,rfl,rfl,rfl,rfl⟩:=by simpa[jf]using h1
     exact aI ⟨hlt,r8,by rw[eK (by omega)],h2⟩
 . have:k=s.n:=by rw[hxl]at hge;omega
   subst this;exact⟨c,rfl,hc⟩
open Go Go.X
def bK(f g:Nat->Int):Nat->Int
 |0=>0
 |n+1=>bK f g n+f n*g n
theorem eF{f f' g g':Nat->Int}:∀{n:Nat},(∀j,j<n->f j=f' j)->(∀j,j<n->g j=g' j)->bK f g n=bK f' g' n
 |0,_,_=>rfl
 |n+1,h,h'=>by simp only[bK];rw[eF (n:=n) (λj hj=>h j (by omega)) (λj hj=>h' j (by omega)),h n (by omega),h' n (by omega)]
theorem rC{f h g:Nat->Int}{k:Int}:∀n,bK (λj=>f j+k*h j) g n=bK f g n+k*bK h g n
 |0=>by simp[bK]
 |n+1=>by simp only[bK,rC n];grind
theorem qi{f g:Nat->Int}{k:Int}:∀n,bK (λj=>k*f j) g n=k*bK f g n
 |0=>by simp[bK]
 |n+1=>by simp only[bK,qi n];grind
theorem kT{f g:Nat->Int}:∀n,bK f g n=bK g f n
 |0=>rfl
 |n+1=>by simp only[bK,kT n];grind
theorem sL{f g:Nat->Int}:∀{n:Nat},(∀j,j<n->f j=0)->bK f g n=0
 |0,_=>rfl
 |n+1,h=>by simp only[bK];rw[sL (n:=n) λj hj=>h j (by omega),h n (by omega)];simp
theorem oq{f g:Nat->Int}{p:Nat}:∀{n:Nat},p<n->(∀j,j<n->j≠p->f j=0)->bK f g n=f p*g p
 |n+1,hp,h=>by
  simp only[bK];by_cases e:n=p
  . subst e;rw[sL λj hj=>h j (by omega) (by omega)];simp
  . rw[oq (n:=n) (by omega) λj hj=>h j (by omega),h n (by omega) e];simp
def cS(y:Nat->Int)(v:Nat)(z:Int):Nat->Int:=λj=>if j=v then z else y j
theorem tM{f y:Nat->Int}{v:Nat}{z:Int}:∀{n:Nat},v<n->bK f (cS y v z) n=bK f y n+f v*(z-y v)
 |n+1,hv=>by
  simp only[bK];by_cases e:n=v
  . subst e;rw[eF (f:=f) (f':=f) (g:=cS y n z) (g':=y) (n:=n) (λ_ _=>rfl) λj hj=>by unfold cS;rw[aY (by omega)]];unfold cS;rw[bD rfl];grind
  . rw[tM (n:=n) (by omega)];unfold cS;rw[aY e];grind
theorem nm{c y:Nat->Int}{U:Nat->Nat->Int}{n:Nat}:∀{m:Nat},bK c (λi=>bK (U i) y n) m=bK (λj=>bK c (λi=>U i j) m) y n
 |0=>by simp only[bK];rw[sL λ_ _=>rfl]
 |m+1=>by
  simp only[bK];rw[nm (m:=m)];have:=rC (f:=λj=>bK c (λi=>U i j) m) (h:=λj=>U m j) (g:=y) (k:=c m) n;exact this.symm
theorem FD{f g:Nat->Int}{d:Int}:∀{n:Nat},(∀j,j<n->d∣f j)->d∣bK f g n
 |0,_=>wR d
 |n+1,h=>Int.dvd_add (FD λj hj=>h j (by omega)) (Int.dvd_trans (h n (by omega)) (Int.dvd_mul_right ..))
def mx(u:List (List Int))(i j:Nat):Int:=vf (u.getD i []) j
def ux(s:St)(y:Nat->Int)(i:Nat):Int:=bK (mx s.u i) y s.n
def cu(u:List (List Int))(n:Nat)(c:List Int)(j:Nat):Int:=bK (vf c) (λi=>mx u i j) n
theorem zC(s:St)(c:List Int)(y:Nat->Int):bK (vf c) (ux s y) s.n=bK (cu s.u s.n c) y s.n:=nm
theorem KE{s:St}{y:Nat->Int}{v:Nat}{z:Int}{i:Nat}(hv:v<s.n):ux s (cS y v z) i=ux s y i+mx s.u i v*(z-y v):=tM hv
def Unim(u:List (List Int))(n:Nat)(w:Nat->Nat->Int):Prop:=(∀i,i<n->∀k,k<n->bK (mx u i) (λj=>w j k) n=if i=k then 1 else 0)/\∀i,i<n->∀k,k<n->bK (w i) (λj=>mx u j k) n=if i=k then 1 else 0
theorem pt{c:Nat->Int}{n k:Nat}(hk:k<n):bK c (λi=>if i=k then 1 else 0) n=c k:=by
 rw[kT,oq hk λj _ hj=>aY hj,bD rfl];omega
theorem BR{u:List (List Int)}{n:Nat}{w:Nat->Nat->Int}(h:Unim u n w){c:List Int}{k:Nat}(hk:k<n):vf c k=bK (cu u n c) (λj=>w j k) n:=by
 have:bK (cu u n c) (λj=>w j k) n=bK (vf c) (λi=>bK (mx u i) (λj=>w j k) n) n:=nm.symm;rw[this,eF (f':=vf c) (g':=λi=>if i=k then 1 else 0) (λ_ _=>rfl) (λi hi=>h.1 i hi k hk),pt hk]
theorem Bp{u:List (List Int)}{n:Nat}{a b:List Int}{k:Int}{j:Nat}{c:List Int}(h:∀i,i<n->vf c i=vf a i+k*vf b i):cu u n c j=cu u n a j+k*cu u n b j:=by
 unfold cu;rw[eF (f':=λi=>vf a i+k*vf b i) (g':=λi=>mx u i j) h λ_ _=>rfl,rC]
theorem CL{u:List (List Int)}{n:Nat}{a c:List Int}{k:Int}{j:Nat}(h:∀i,i<n->vf c i=k*vf a i):cu u n c j=k*cu u n a j:=by
 unfold cu;rw[eF (f':=λi=>k*vf a i) (g':=λi=>mx u i j) h λ_ _=>rfl,qi]
structure Inv (s:St):Prop where
 ul:s.u.length=s.n/\∀r∈s.u,r.length=s.n
 gw:s.aN.length=s.n
 vl:s.value.length=s.n
 kl:∀q∈s.aA,q.c.length=s.n
 it:∀x∈s.aB,x.pos<s.aA.length/\x.g.length=s.n
 dH:∀x∈s.aB,∀j,j<s.n->vf x.g j=cu s.u s.n (aH s.aA x.pos).c j
 nf:∀x∈s.aB,∀j,j<s.n->vf s.aN j≠0->vf x.g j=0
 gM:∀x∈s.aB,dC x.g=1
 kP:s.aB.Pairwise λx y=>x.g≠y.g
 kA:∃w,Unim s.u s.n w
 stat:∀j,j<s.n->vf s.aN j=0\/vf s.aN j=1\/vf s.aN j=2
 sv:∀e∈s.aK,e.v<s.n/\vf s.aN e.v=2/\∀p∈e.aB,p<s.aA.length
 s2:∀j,j<s.n->vf s.aN j=2->∃e∈s.aK,e.v=j
 sd:s.aK.Pairwise λe' e=>e'.v≠e.v/\∀p∈e.aB,cu s.u s.n (aH s.aA p).c e'.v=0
def IH(s:St)(y:Nat->Int)(x:AI):Prop:=bK (vf x.g) y s.n<=(aH s.aA x.pos).b
def hx(s:St)(x:Nat->Int)(p:Nat):Prop:=bK (vf (aH s.aA p).c) x s.n<=(aH s.aA p).b
theorem uP{s:St}(h:Inv s){x:AI}(hx':x∈s.aB){y:Nat->Int}:IH s y x↔hx s (ux s y) x.pos:=by
 unfold IH hx;rw[zC,eF (f:=vf x.g) (f':=cu s.u s.n (aH s.aA x.pos).c) (g:=y) (g':=y) (h.dH x hx') λ_ _=>rfl]
def Fx(s:St)(y:Nat->Int):Prop:=∀j,j<s.n->vf s.aN j=1->y j=vf s.value j
def Hs(s:St)(y:Nat->Int)(k:Nat):Prop:=Fx s y/\(∀x∈s.aB,IH s y x)/\∀e∈s.aK.drop k,∀p∈e.aB,hx s (ux s y) p
structure ik (s s':St):Prop where
 n:s'.n=s.n
 kn:∃e,s'.aA=s.aA++e
 ed:∃t,s'.aK=s.aK++t
 col:∀j,j<s.n->vf s.aN j≠0->vf s'.aN j=vf s.aN j/\(vf s.aN j=1->vf s'.value j=vf s.value j)/\∀i,i<s.n->mx s'.u i j=mx s.u i j
 tr:∀y',∃y,(∀i,i<s.n->ux s' y' i=ux s y i)/\(∀j,j<s.n->vf s.aN j≠0->y j=y' j)/\∀k,k<=s.aK.length->Hs s' y' k->Hs s y k
theorem ik.refl(s:St):ik s s:=⟨rfl,⟨[],by simp⟩,⟨[],by simp⟩,λj _ _=>⟨rfl,λ_=>rfl,λ_ _=>rfl⟩,λy=>⟨y,λ_ _=>rfl,λ_ _ _=>rfl,λ_ _ h=>h⟩⟩
theorem ik.trans{a b c:St}(h:ik a b)(h':ik b c):ik a c:=by
 obtain⟨e1,h1⟩:=h.kn;obtain⟨e2,h2⟩:=h'.kn;obtain⟨t1,g1⟩:=h.ed;obtain⟨t2,g2⟩:=h'.ed;refine⟨h'.n.trans h.n,⟨e1++e2,by rw[h2,h1,jy]⟩,⟨t1++t2,by rw[g2,g1,jy]⟩,λj hj hs=>?_,λy''=>?_⟩
 . obtain⟨c1,c2,c3⟩:=h.col j hj hs;obtain⟨d1,d2,d3⟩:=h'.col j (by rw[h.n];exact hj) (by rw[c1];exact hs);exact⟨d1.trans c1,λe=>(d2 (by rw[c1];exact e)).trans (c2 e),λi hi=>(d3 i (by rw[h.n];exact hi)).trans (c3 i hi)⟩
 . obtain⟨y',p1,p2,p3⟩:=h'.tr y'';obtain⟨y,q1,q2,q3⟩:=h.tr y';refine⟨y,λi hi=>(p1 i (by rw[h.n];exact hi)).trans (q1 i hi),λj hj hs=>(q2 j hj hs).trans (p2 j (by rw[h.n];exact hj) (by rw[(h.col j hj hs).1];exact hs)),λk hk hh=>q3 k hk (p3 k (by rw[g1];simp;omega) hh)⟩
structure RF (sys:List AQ)(s:St):Prop where
 R:∀y,Hs s y 0->∀q∈sys,bK (vf q.c) (ux s y) s.n<=q.b
 F:∀k e,s.aK[k]?=some e->e.dP=false->∀y,Hs s y (k+1)->∃z,∀p∈e.aB,hx s (ux s (cS y e.v z)) p
theorem so{s s':St}(hn:s'.n=s.n){e:List AQ}(h:s'.aA=s.aA++e){p:Nat}(hp:p<s.aA.length){x x':Nat->Int}(hx':∀i,i<s.n->x' i=x i):hx s' x' p↔hx s x p:=by
 unfold hx;rw[h,iH hp,hn,eF (f:=vf (aH s.aA p).c) (f':=vf (aH s.aA p).c) (λ_ _=>rfl) hx']
theorem ik.R{sys:List AQ}{s s':St}(h:ik s s')(hr:∀y,Hs s y 0->∀q∈sys,bK (vf q.c) (ux s y) s.n<=q.b):∀y,Hs s' y 0->∀q∈sys,bK (vf q.c) (ux s' y) s'.n<=q.b:=by
 intro y' hy q hq;obtain⟨y,h1,h2,h3⟩:=h.tr y';have:=hr y (h3 0 (fV _) hy) q hq;rw[h.n,eF (f:=vf q.c) (f':=vf q.c) (λ_ _=>rfl) h1];exact this
theorem ik.F{s s':St}(h:ik s s')(hI:Inv s){k:Nat}{e:AE}(hk:s.aK[k]?=some e)(hf:∀y,Hs s y (k+1)->∃z,∀p∈e.aB,hx s (ux s (cS y e.v z)) p):∀y,Hs s' y (k+1)->∃z,∀p∈e.aB,hx s' (ux s' (cS y e.v z)) p:=by
 intro y' hy;obtain⟨y,h1,h2,h3⟩:=h.tr y';have hkl:k<s.aK.length:=(ep.1 hk).1;obtain⟨z,hz⟩:=hf y (h3 (k+1) hkl hy);have hm:e∈s.aK:=nR hk;obtain⟨e1,e2,e3⟩:=hI.sv e hm;obtain⟨ek,hek⟩:=h.kn;refine⟨z,λp hp=>(so h.n hek (e3 p hp) λi hi=>?_).2 (hz p hp)⟩;rw[KE (by rw[h.n];exact e1),KE e1,h1 i hi,h2 e.v e1 (by omega),(h.col e.v e1 (by omega)).2.2 i hi]
def CM(s:St)(us:List AU)(j:Nat):Int:=cu s.u s.n (vec s.n (eG s.aA us)) j
structure od (s:St)(g:List Int)(us:List AU):Prop where
 dH:∀j,j<s.n->vf g j=CM s us j
 nf:∀j,j<s.n->vf s.aN j≠0->vf g j=0
theorem E6{g:List Int}{n j:Nat}(hl:g.length=n)(hj:j<n):vf (vec n λj=>vf g j/dv g) j*dv g=vf g j:=by
 rw[dF hj];refine Od ?_;unfold dv;split
 . exact Int.one_dvd _
 . exact tz (gz (by omega))
theorem Ky{s:St}{g:List Int}{us:List AU}(hI:Inv s)(hl:g.length=s.n)(h:od s g us){i:Nat}(hi:i<s.n):dv g∣eG s.aA us i:=by
 obtain⟨w,hw⟩:=hI.kA;have h1:=BR hw (c:=vec s.n (eG s.aA us)) hi;rw[dF hi]at h1;rw[h1];refine FD λj hj=>?_;rw[<-show CM s us j=cu s.u s.n (vec s.n (eG s.aA us)) j from rfl,<-h.dH j hj];unfold dv;split
 . exact Int.one_dvd _
 . exact tz (gz (by omega))
theorem Li{K:Nat}{s:St}{g:List Int}{us:List AU}(hI:Inv s)(hp:gT K s g us)(h:od s g us):∀j,j<s.n->vf (lK s g us).g j=cu s.u s.n (aH (dst s g us).aA (iW s g us)).c j:=by
 intro j hj;show vf (vec s.n λj=>vf g j/dv g) j=_;have hd:=ra g;have h1:=E6 (j:=j) hp.gl hj;by_cases hm:many g us=true
 . have e:aH (dst s g us).aA (iW s g us)=nk s.n s.aA us (dv g):=by
    unfold dst iW;rw[bD hm,bD hm];exact oA
   rw[e];have h2:cu s.u s.n (vec s.n (eG s.aA us)) j=dv g*cu s.u s.n (nk s.n s.aA us (dv g)).c j:=CL λi hi=>by
    rw[dF hi];show _=dv g*vf (vec s.n _) i;rw[dF hi,fD,Od (Ky hI hp.gl h hi)]
   rw[h.dH j hj]at h1;have h3:dv g*vf (vec s.n λj=>vf g j/dv g) j=dv g*cu s.u s.n (nk s.n s.aA us (dv g)).c j:=by
    rw[<-h2,fD,h1];rfl
   exact NN (by omega) h3
 . have hm':=hm;have e:aH (dst s g us).aA (iW s g us)=aH s.aA (us.headD ⟨0,0⟩).ix:=by
    unfold dst iW;rw[aY hm,aY hm]
   rw[e];unfold many at hm;simp only[wK,decide_eq_true_eq,not_or,Nat.not_lt,ug]at hm;obtain⟨m1,m2,m3⟩:=hm;have hu0:=hp.u0
   match us,hu0,m1 with
   |[u],_,_=>
    have m2:u.n=1:=m2;have h1:vf (vec s.n λj=>vf g j/dv g) j=vf g j:=by
     have h2:=h1;rwa[show∀z:Int,z*dv g=z from λz=>by rw[m3];omega]at h2
    rw[h1,h.dH j hj];show cu s.u s.n (vec s.n (eG s.aA [u])) j=cu s.u s.n (aH s.aA u.ix).c j;unfold cu;refine eF (λi hi=>?_) λ_ _=>rfl;rw[dF hi];show u.n*vf (aH s.aA u.ix).c i+0=_;rw[m2];omega
theorem MZ{K:Nat}{s:St}{g:List Int}{us:List AU}(hp:gT K s g us):(aH (dst s g us).aA (iW s g us)).b=gE s.aA us/dv g:=by
 by_cases hm:many g us=true
 . have e:aH (dst s g us).aA (iW s g us)=nk s.n s.aA us (dv g):=by
    unfold dst iW;rw[bD hm,bD hm];exact oA
   rw[e];rfl
 . have e:aH (dst s g us).aA (iW s g us)=aH s.aA (us.headD ⟨0,0⟩).ix:=by
    unfold dst iW;rw[aY hm,aY hm]
   rw[e];unfold many at hm;simp only[wK,decide_eq_true_eq,not_or,Nat.not_lt,ug]at hm;obtain⟨m1,m2,m3⟩:=hm;have hu0:=hp.u0
   match us,hu0,m1 with
   |[u],_,_=>
    have m2:u.n=1:=m2;show(aH s.aA u.ix).b=(u.n*(aH s.aA u.ix).b+0)/dv g;rw[m2,m3];omega
theorem OI{g:List Int}{n:Nat}(hl:g.length=n)(h:dC g≠0):dC (vec n λj=>vf g j/dv g)=1:=by
 generalize hk:dC (vec n λj=>vf g j/dv g)=k;have hd:dv g=(dC g:Nat):=by unfold dv;rw[aY h]
 have h1:((k*dC g:Nat):Int)∣((dC g:Nat):Int):=oX λx hx=>by
  obtain⟨j,hj,rfl⟩:=gC hx;have h2:=E6 (g:=g) (n:=n) (j:=j) hl (by omega);rw[<-h2,hd,Hi];refine Int.mul_dvd_mul ?_ (Int.dvd_refl _);rw[<-hk];rw[<-hd];exact tz (gz (by rw[eZ];omega))
 have h2:k*dC g∣dC g:=Oe.1 h1;obtain⟨c,hc⟩:=h2;have:0<dC g:=by omega
 have h3:dC g*(k*c)=dC g*1:=by rw[Nat.mul_one,<-Nat.mul_assoc,Nat.mul_comm (dC g) k];exact hc.symm
 have h4:=Nat.eq_of_mul_eq_mul_left this h3;exact Nat.eq_one_of_mul_eq_one_right h4
theorem Jm{kn:List AQ}{x:AI}:∀{l:List AI},l.Pairwise (λx y=>x.g≠y.g)->(eL kn x l).Pairwise λx y=>x.g≠y.g
 |[],_=>by simp[eL]
 |y::l,h=>by
  obtain⟨h1,h2⟩:=zx.1 h;rw[eL];split
  . rename_i e;split
    . exact zx.2 ⟨λz hz=>by rw[e];exact h1 z hz,h2⟩
    . exact h
  . rename_i e;refine zx.2 ⟨λz hz=>?_,Jm h2⟩;rcases mv hz with rfl|hz
    . exact λe'=>e e'.symm
    . exact h1 z hz
theorem Bz{s:St}{x:AI}{y:Nat->Int}:∀{l:List AI},(∀z∈eL s.aA x l,IH s y z)->(∀z∈l,IH s y z)/\IH s y x
 |[],h=>⟨λz hz=>(by cases hz),h x (by simp[eL])⟩
 |w::l,h=>by
  rw[eL]at h;split at h
  . rename_i e;split at h
    . rename_i hb;have hx:=h x cX;refine⟨λz hz=>?_,hx⟩;rcases ej.1 hz with rfl|hz
      . unfold IH at hx⊢;rw[<-e];omega
      . exact h z (cO _ hz)
    . rename_i hb;refine⟨h,?_⟩;have hw:=h w cX;unfold IH at hw⊢;rw[e];omega
  . have h1:=Bz (l:=l) λz hz=>h z (cO _ hz);refine⟨λz hz=>?_,h1.2⟩;rcases ej.1 hz with rfl|hz
    . exact h z cX
    . exact h1.1 z hz
structure kW (s:St)(x:AI):Prop where
 pos:x.pos<s.aA.length
 gl:x.g.length=s.n
 dH:∀j,j<s.n->vf x.g j=cu s.u s.n (aH s.aA x.pos).c j
 nf:∀j,j<s.n->vf s.aN j≠0->vf x.g j=0
 gM:dC x.g=1
theorem Inv.add{s:St}(h:Inv s){x:AI}(hx:kW s x):Inv (add s x)where
 ul:=h.ul
 gw:=h.gw
 vl:=h.vl
 kl:=h.kl
 it z hz:=(mv hz).elim (λe=>by subst e;exact⟨hx.pos,hx.gl⟩) (λhz=>h.it z hz)
 dH z hz:=(mv hz).elim (λe=>by subst e;exact hx.dH) (λhz=>h.dH z hz)
 nf z hz:=(mv hz).elim (λe=>by subst e;exact hx.nf) (λhz=>h.nf z hz)
 gM z hz:=(mv hz).elim (λe=>by subst e;exact hx.gM) (λhz=>h.gM z hz)
 kP:=Jm h.kP
 kA:=h.kA
 stat:=h.stat
 sv:=h.sv
 s2:=h.s2
 sd:=h.sd
theorem Inv.aA{s:St}(h:Inv s){kn e:List AQ}{st:List AS}(hk:kn=s.aA++e)(he:∀q∈e,q.c.length=s.n):Inv {s with aA:=kn,aU:=st}where
 ul:=h.ul
 gw:=h.gw
 vl:=h.vl
 kl q hq:=by
  have hq:q∈kn:=hq;rw[hk]at hq;rcases fe.1 hq with hq|hq
  . exact h.kl q hq
  . exact he q hq
 it z hz:=⟨by have:=(h.it z hz).1;show _<kn.length;rw[hk];simp;omega,(h.it z hz).2⟩
 dH z hz j hj:=by rw[h.dH z hz j hj];show _=cu s.u s.n (aH kn z.pos).c j;rw[hk,iH (h.it z hz).1]
 nf:=h.nf
 gM:=h.gM
 kP:=h.kP
 kA:=h.kA
 stat:=h.stat
 sv e' he':=⟨(h.sv e' he').1,(h.sv e' he').2.1,λp hp=>by have:=(h.sv e' he').2.2 p hp;show _<kn.length;rw[hk];simp;omega⟩
 s2:=h.s2
 sd:=by
  have hsv:=h.sv;have:∀a b,a∈s.aK->b∈s.aK->(a.v≠b.v/\∀p∈b.aB,cu s.u s.n (aH s.aA p).c a.v=0)->(a.v≠b.v/\∀p∈b.aB,cu s.u s.n (aH kn p).c a.v=0):=λa b ha hb hab=>⟨hab.1,λp hp=>by rw[hk,iH ((hsv b hb).2.2 p hp)];exact hab.2 p hp⟩;exact Of (λ{a b} ha hb hab=>this a b ha hb hab) h.sd
theorem Inv.dst{K:Nat}{s:St}(h:Inv s){g:List Int}{us:List AU}(hp:gT K s g us):Inv (dst s g us):=by
 unfold D.dst;split
 . exact h.aA rfl λq hq=>by rw[cG.1 hq];exact eZ
 . exact h
theorem Gj(s:St)(g:List Int)(us:List AU):(dst s g us).u=s.u/\(dst s g us).aN=s.aN/\(dst s g us).value=s.value/\(dst s g us).aK=s.aK/\(dst s g us).n=s.n/\(dst s g us).aB=s.aB:=by
 unfold dst;split<;>exact⟨rfl,rfl,rfl,rfl,rfl,rfl⟩
theorem US(s:St)(g:List Int)(us:List AU):(put s g us).2.u=s.u/\(put s g us).2.aN=s.aN/\(put s g us).2.value=s.value/\(put s g us).2.aK=s.aK/\(put s g us).2.n=s.n:=by
 obtain⟨h1,h2,h3,h4,h5,_⟩:=Gj s g us;unfold put;dsimp only;split<;>exact⟨h1,h2,h3,h4,h5⟩
theorem RT{K:Nat}{s:St}(h:Inv s){g:List Int}{us:List AU}(hp:gT K s g us)(hs:od s g us)(h0:dC g≠0):kW (dst s g us) (lK s g us):=by
 obtain⟨h1,h2,h3,h4,h5,_⟩:=Gj s g us;refine⟨BH hp,by rw[h5];exact eZ,λj hj=>?_,λj hj hst=>?_,OI hp.gl h0⟩
 . rw[h5]at hj⊢;rw[h1];exact Li h hp hs j hj
 . rw[h5]at hj;rw[h2]at hst;show vf (vec s.n λj=>vf g j/dv g) j=0;rw[dF hj,hs.nf j hj hst];simp
theorem Inv.put{K:Nat}{s:St}(h:Inv s){g:List Int}{us:List AU}(hp:gT K s g us)(hs:od s g us):Inv (put s g us).2:=by
 unfold D.put;dsimp only;split
 . rename_i h0;exact(h.dst hp).add (RT h hp hs h0)
 . exact h.dst hp
theorem zh{s s':St}(hn:s'.n=s.n){e:List AQ}(he:s'.aA=s.aA++e){x:AI}(hx:x.pos<s.aA.length){y:Nat->Int}:IH s' y x↔IH s y x:=by
 unfold IH;rw[hn,he,iH hx]
theorem QY{K:Nat}{s:St}(h:Inv s){g:List Int}{us:List AU}(hp:gT K s g us)(hs:od s g us)(hok:(put s g us).1=true){y:Nat->Int}(hy:∀z∈(put s g us).2.aB,IH (put s g us).2 y z):
 (∀z∈s.aB,IH s y z)/\bK (vf g) y s.n<=gE s.aA us:=by
 obtain⟨e,he,_⟩:=L3 s g us;obtain⟨f1,f2,f3,f4,f5,f6⟩:=Gj s g us;have hd:=ra g;have hb:=MZ hp;by_cases h0:dC g≠0
 . have e2:(D.put s g us).2=add (dst s g us) (lK s g us):=by unfold D.put;dsimp only;rw[bD h0]
   rw[e2]at hy;obtain⟨h1,h2⟩:=Bz (s:=dst s g us) hy;rw[f6]at h1;refine⟨λz hz=>(zh f5 he (h.it z hz).1).1 (h1 z hz),?_⟩;unfold IH at h2;rw[f5]at h2;have h3:bK (vf g) y s.n=dv g*bK (vf (lK s g us).g) y s.n:=by
    rw[<-qi];refine eF (λj hj=>?_) λ_ _=>rfl;rw[fD];exact(E6 hp.gl hj).symm
   rw[show(aH (dst s g us).aA (lK s g us).pos).b=gE s.aA us/dv g from hb]at h2;have h4:=ff h2 (dY hd);have h5:=Int.mul_ediv_self_le (x:=gE s.aA us) (k:=dv g) (by omega);omega
 . have e2:(D.put s g us).2=dst s g us:=by unfold D.put;dsimp only;rw[aY h0]
   rw[e2,f6]at hy;refine⟨λz hz=>(zh f5 he (h.it z hz).1).1 (hy z hz),?_⟩;have h0:=ug.1 h0;have hz:=Il h0;rw[sL λj hj=>hz _ (gz (by rw[hp.gl];exact hj))];have:ng s g us=true:=hok;unfold ng at this;rw[hb]at this;have hd1:dv g=1:=by unfold dv;rw[bD h0]
   rw[hd1,Int.ediv_one]at this;simpa[h0]using this
theorem Vp{K:Nat}{s:St}(h:Inv s){g:List Int}{us:List AU}(hp:gT K s g us)(hs:od s g us)(hok:(put s g us).1=false):∃q∈(put s g us).2.aA,(∀j,j<s.n->vf q.c j=0)/\q.b<0:=by
 have hk:ng s g us=false:=hok;unfold ng at hk;simp only[Hj,decide_eq_false_iff_not,ne_eq,ug,Int.not_le]at hk;obtain⟨h0,hb⟩:=hk;have e2:(D.put s g us).2=dst s g us:=by unfold D.put;dsimp only;rw[aY (by simpa using h0)]
 rw[e2];refine⟨_,fg (BH hp),λj hj=>?_,hb⟩;obtain⟨w,hw⟩:=h.kA;rw[BR hw hj];refine sL λi hi=>?_;rw[<-Li h hp hs i hi];show vf (vec s.n λj=>vf g j/dv g) i=0;rw[dF hi,Il h0 _ (gz (by rw[hp.gl];exact hi))];simp
open Go Go.X
structure qz (n:Nat)(R:List Int->List Int)(T T':Nat->Nat->Int)(st:Nat->Int):Prop where
 len:∀l,l.length=n->(R l).length=n
 row:∀l,l.length=n->∀j,j<n->vf (R l) j=bK (vf l) (λk=>T k j) n
 one:∀i,i<n->∀k,k<n->bK (T i) (λj=>T' j k) n=if i=k then 1 else 0
 two:∀i,i<n->∀k,k<n->bK (T' i) (λj=>T j k) n=if i=k then 1 else 0
 nf:∀j,j<n->st j≠0->∀k,k<n->T k j=(if k=j then 1 else 0)/\T j k=(if k=j then 1 else 0)
theorem Sw{c:Nat->Int}{n k:Nat}(hk:k<n):bK (λi=>if i=k then 1 else 0) c n=c k:=by
 rw[kT,pt hk]
theorem H6{c:Nat->Int}{n k:Nat}(hk:k<n):bK c (λi=>if k=i then 1 else 0) n=c k:=by
 rw[<-pt (c:=c) hk];exact eF (λ_ _=>rfl) λj _=>by by_cases e:k=j<;>simp[e,eq_comm]
def im(s:St)(R:List Int->List Int):St:={s with u:=s.u.map R,aB:=s.aB.map λx=>{x with g:=R x.g}}
section
variable {s:St} {R:List Int->List Int} {T T':Nat->Nat->Int}
theorem xU(h:Inv s)(b:qz s.n R T T' (vf s.aN)){i j:Nat}(hi:i<s.n)(hj:j<s.n):mx (im s R).u i j=bK (mx s.u i) (λk=>T k j) s.n:=by
 have hl:i<s.u.length:=by rw[h.ul.1];exact hi
 unfold mx;have e:(im s R).u.getD i []=R (s.u.getD i []):=by
  show(s.u.map R).getD i []=_;rw[cN,cN,ij,cy hl];rfl
 rw[e];refine b.row _ ?_ j hj;rw[cN,cy hl];exact h.ul.2 _ (dJ hl)
theorem Kg(h:Inv s)(b:qz s.n R T T' (vf s.aN)){c:List Int}{j:Nat}(hj:j<s.n):cu (im s R).u s.n c j=bK (cu s.u s.n c) (λk=>T k j) s.n:=by
 unfold cu;rw[eF (f':=vf c) (g':=λi=>bK (mx s.u i) (λk=>T k j) s.n) (λ_ _=>rfl) λi hi=>xU h b hi hj];exact nm
theorem G6(b:qz s.n R T T' (vf s.aN)){f:Nat->Int}{j:Nat}(hj:j<s.n)(hst:vf s.aN j≠0):bK f (λk=>T k j) s.n=f j:=by
 rw[eF (f:=f) (f':=f) (g':=λk=>if k=j then 1 else 0) (λ_ _=>rfl) λk hk=>(b.nf j hj hst k hk).1];exact pt hj
theorem Ej(b:qz s.n R T T' (vf s.aN)){l:List Int}(hl:l.length=s.n){k:Nat}(hk:k<s.n):vf l k=bK (vf (R l)) (λj=>T' j k) s.n:=by
 rw[eF (f':=λj=>bK (vf l) (λm=>T m j) s.n) (g':=λj=>T' j k) (λj hj=>b.row l hl j hj) λ_ _=>rfl];have:bK (λj=>bK (vf l) (λm=>T m j) s.n) (λj=>T' j k) s.n=bK (vf l) (λm=>bK (T m) (λj=>T' j k) s.n) s.n:=nm.symm;rw[this,eF (f:=vf l) (f':=vf l) (g':=λm=>if m=k then 1 else 0) (λ_ _=>rfl) λm hm=>b.one m hm k hk,pt hk]
theorem Inv.ch(h:Inv s)(b:qz s.n R T T' (vf s.aN)):Inv (im s R)where
 ul:=⟨by show(s.u.map R).length=_;rw[cT];exact h.ul.1,λr hr=>by
  obtain⟨l,hl,rfl⟩:=dR.1 hr;exact b.len l (h.ul.2 l hl)⟩
 gw:=h.gw
 vl:=h.vl
 kl:=h.kl
 it x hx:=by
  obtain⟨z,hz,rfl⟩:=dR.1 hx;exact⟨(h.it z hz).1,b.len _ (h.it z hz).2⟩
 dH x hx j hj:=by
  obtain⟨z,hz,rfl⟩:=dR.1 hx;show vf (R z.g) j=cu (im s R).u s.n (aH s.aA z.pos).c j;rw[Kg h b hj,b.row z.g (h.it z hz).2 j hj];exact eF (h.dH z hz) λ_ _=>rfl
 nf x hx j hj hst:=by
  obtain⟨z,hz,rfl⟩:=dR.1 hx;show vf (R z.g) j=0;rw[b.row z.g (h.it z hz).2 j hj,G6 b hj hst];exact h.nf z hz j hj hst
 gM x hx:=by
  obtain⟨z,hz,rfl⟩:=dR.1 hx;have h1:=h.gM z hz;have hzl:=(h.it z hz).2;have h2:((dC (R z.g):Nat):Int)∣((dC z.g:Nat):Int):=oX λv hv=>by
   obtain⟨k,hk,rfl⟩:=gC hv;rw[Ej b hzl (by omega)];exact FD λj hj=>tz (gz (by rw[b.len _ hzl];exact hj))
  rw[h1]at h2;exact HE (Oe.1 h2)
 kP:=by
  show(s.aB.map _).Pairwise _;rw[HG];refine Of (λ{x y} hx hy hne e=>hne ?_) h.kP;have e:R x.g=R y.g:=e;have hxl:=(h.it x hx).2;have hyl:=(h.it y hy).2;refine lS (hxl.trans hyl.symm) λk hk=>?_;rw[Ej b hxl (by omega),Ej b hyl (by omega),e]
 kA:=by
  obtain⟨w,hw⟩:=h.kA;refine⟨λj k=>bK (T' j) (λm=>w m k) s.n,λi hi k hk=>?_,λi hi k hk=>?_⟩
  . show bK (mx (im s R).u i) (λj=>bK (T' j) (λm=>w m k) s.n) s.n=_;rw[nm];rw[eF (f':=mx s.u i) (g':=λm=>w m k) (λm hm=>?_) λ_ _=>rfl]
    . exact hw.1 i hi k hk
    . rw[eF (f':=λj=>bK (mx s.u i) (λk=>T k j) s.n) (g':=λj=>T' j m) (λj hj=>xU h b hi hj) λ_ _=>rfl];have:bK (λj=>bK (mx s.u i) (λk=>T k j) s.n) (λj=>T' j m) s.n=bK (mx s.u i) (λr=>bK (T r) (λj=>T' j m) s.n) s.n:=nm.symm;rw[this,eF (f:=mx s.u i) (f':=mx s.u i) (g':=λr=>if r=m then 1 else 0) (λ_ _=>rfl) λr hr=>b.one r hr m hm,pt hm]
  . show bK (λk'=>bK (T' i) (λm=>w m k') s.n) (λj=>mx (im s R).u j k) s.n=_;rw[eF (f:=λk'=>bK (T' i) (λm=>w m k') s.n) (f':=λk'=>bK (T' i) (λm=>w m k') s.n) (g':=λj=>bK (mx s.u j) (λr=>T r k) s.n) (λ_ _=>rfl) λj hj=>xU h b hj hk];rw[nm];rw[eF (f':=T' i) (g':=λr=>T r k) (λr hr=>?_) λ_ _=>rfl]
    . exact b.two i hi k hk
    . have:bK (λk'=>bK (T' i) (λm=>w m k') s.n) (λj=>mx s.u j r) s.n=bK (T' i) (λm=>bK (w m) (λj=>mx s.u j r) s.n) s.n:=nm.symm;rw[this,eF (f:=T' i) (f':=T' i) (g':=λm=>if m=r then 1 else 0) (λ_ _=>rfl) λm hm=>hw.2 m hm r hr,pt hr]
 stat:=h.stat
 sv:=h.sv
 s2:=h.s2
 sd:=by
  refine Of (λ{a e} ha he hae=>⟨hae.1,λp hp=>?_⟩) h.sd;obtain⟨a1,a2,_⟩:=h.sv a ha;show cu (im s R).u s.n (aH s.aA p).c a.v=0;rw[Kg h b a1,G6 b a1 (by omega)];exact hae.2 p hp
theorem ik.ch(h:Inv s)(b:qz s.n R T T' (vf s.aN)):ik s (im s R):=by
 refine⟨rfl,⟨[],by simp[im]⟩,⟨[],by simp[im]⟩,λj hj hst=>⟨rfl,λ_=>rfl,λi hi=>?_⟩,λy'=>?_⟩
 . rw[xU h b hi hj,G6 b hj hst]
 . have hux:∀i,i<s.n->ux (im s R) y' i=ux s (λk=>bK (T k) y' s.n) i:=λi hi=>by
    unfold ux;show bK (mx (im s R).u i) y' s.n=_;rw[eF (f':=λj=>bK (mx s.u i) (λk=>T k j) s.n) (g':=y') (λj hj=>xU h b hi hj) λ_ _=>rfl];exact nm.symm
   have hnf:∀j,j<s.n->vf s.aN j≠0->bK (T j) y' s.n=y' j:=λj hj hst=>by
    rw[eF (f':=λk=>if k=j then 1 else 0) (g':=y') (λk hk=>(b.nf j hj hst k hk).2) λ_ _=>rfl];exact Sw hj
   refine⟨λk=>bK (T k) y' s.n,hux,hnf,λk hk ⟨h1,h2,h3⟩=>⟨λj hj hst=>?_,λx hx=>?_,λe he p hp=>?_⟩⟩
   . show bK (T j) y' s.n=_;rw[hnf j hj (by omega)];exact h1 j hj hst
   . have:=h2 {x with g:=R x.g} (dR.2 ⟨x,hx,rfl⟩);unfold IH at this⊢;have e:bK (vf (R x.g)) y' s.n=bK (vf x.g) (λk=>bK (T k) y' s.n) s.n:=by
      rw[eF (f':=λj=>bK (vf x.g) (λk=>T k j) s.n) (g':=y') (λj hj=>b.row x.g (h.it x hx).2 j hj) λ_ _=>rfl];exact nm.symm
     rw[<-e];exact this
   . have:=h3 e he p hp;unfold hx at this⊢;show bK (vf (aH s.aA p).c) _ s.n<=_;rw[eF (f:=vf (aH s.aA p).c) (f':=vf (aH s.aA p).c) (g:=ux s λk=>bK (T k) y' s.n) (g':=ux (im s R) y') (λ_ _=>rfl) λi hi=>(hux i hi).symm];exact this
end
theorem O6{f g:Nat->Int}{p k n:Nat}(hp:p<n)(hk:k<n)(hne:k≠p)(h:∀j,j<n->j≠p->j≠k->f j=0):bK f g n=f k*g k+f p*g p:=by
 have h1:=rC (f:=λj=>if j=k then f j else 0) (h:=λj=>if j=p then f j else 0) (g:=g) (k:=1) n;rw[oq (f:=λj=>if j=k then f j else 0) hk λj _ hj=>aY hj,oq (f:=λj=>if j=p then f j else 0) hp λj _ hj=>aY hj]at h1;simp only[if_true]at h1;rw[eF (f':=λj=>(if j=k then f j else 0)+1*(if j=p then f j else 0)) (g':=g) (λj hj=>?_) λ_ _=>rfl,h1]
 . omega
 . by_cases e1:j=k
   . subst e1;rw[bD rfl,aY hne];omega
   . by_cases e2:j=p
     . subst e2;rw[aY e1,bD rfl];omega
     . rw[aY e1,aY e2,h j hj e2 e1];omega
def rT(p:Nat)(q:Nat->Int)(k j:Nat):Int:=if k=j then 1 else if k=p then-q j else 0
theorem Jh{p:Nat}{q:Nat->Int}{n j:Nat}{f:Nat->Int}(hp:p<n)(hj:j<n):bK f (λk=>rT p q k j) n=if j=p then f j else f j-q j*f p:=by
 rw[kT];by_cases e:j=p
 . subst e;rw[bD rfl,oq hj λi _ hi=>by unfold rT;rw[aY hi,aY hi]];unfold rT;rw[bD rfl];omega
 . rw[aY e,O6 hp hj e λi _ h1 h2=>by unfold rT;rw[aY h2,aY h1]];unfold rT;rw[bD rfl,aY (by omega),bD rfl];grind
theorem IF{p:Nat}{q:Nat->Int}{n i k:Nat}(hp:p<n)(hi:i<n)(hk:k<n):bK (rT p q i) (λj=>rT p (λj=>-q j) j k) n=if i=k then 1 else 0:=by
 rw[Jh hp hk];by_cases e:k=p
 . subst e;rw[bD rfl];unfold rT;by_cases e2:i=k
   . rw[bD e2,bD e2]
   . rw[aY e2,aY e2,aY e2]
 . rw[aY e];unfold rT;by_cases e2:i=k
   . subst e2;rw[bD rfl,aY e,aY e];simp
   . rw[aY e2];by_cases e3:i=p
     . subst e3;rw[bD rfl,bD rfl,aY e2];omega
     . rw[aY e3,aY e3,aY e3,aY e2];simp
theorem VQ{s:St}{a:List Int}{p:Nat}(hp:p<s.n)(hps:vf s.aN p=0)(ha:∀j,j<s.n->vf s.aN j≠0->vf a j=0):
 qz s.n (cx a p s.n) (rT p λj=>(vf a j).fdiv (vf a p)) (rT p λj=>-(vf a j).fdiv (vf a p)) (vf s.aN)where
 len l hl:=pZ.trans hl
 row l hl j hj:=by
  rw[Jh hp hj];unfold cx;rw[dF (by omega)];by_cases e:j=p
  . rw[aY (by omega),bD e]
  . rw[bD ⟨hj,e⟩,aY e]
 one i hi k hk:=IF hp hi hk
 two i hi k hk:=by
  have:=IF (q:=λj=>-(vf a j).fdiv (vf a p)) hp hi hk;rw[<-this];refine eF (λ_ _=>rfl) λj _=>?_;unfold rT;simp
 nf j hj hst k hk:=by
  have hjp:j≠p:=λe=>hst (e▸hps);have h0:=ha j hj hst;unfold rT;constructor
  . by_cases e:k=j
    . rw[bD e,bD e]
    . rw[aY e,aY e];dsimp only;rw[h0,wQ];simp
  . by_cases e:k=j
    . rw[bD e.symm,bD e]
    . rw[aY (λh=>e h.symm),aY hjp,aY e]
theorem TD(s:St)(a:List Int)(p:Nat):fQ s a p s.n=im s (cx a p s.n):=rfl
def fT(p k j:Nat):Int:=if k=j then(if k=p then-1 else 1)else 0
theorem KR{p n j:Nat}{f:Nat->Int}(hj:j<n):bK f (λk=>fT p k j) n=if j=p then-f j else f j:=by
 rw[kT,oq hj λi _ hi=>by unfold fT;rw[aY hi]];unfold fT;rw[bD rfl];split<;>omega
theorem Mv{p n i k:Nat}(hi:i<n)(hk:k<n):bK (fT p i) (λj=>fT p j k) n=if i=k then 1 else 0:=by
 rw[KR hk];unfold fT;by_cases e:i=k
 . subst e;by_cases e2:i=p
   . simp[e2]
   . simp[e2]
 . simp[e]
theorem Qs{s:St}{p:Nat}(hp:p<s.n)(hps:vf s.aN p=0):qz s.n (λl=>l.set p (-vf l p)) (fT p) (fT p) (vf s.aN)where
 len l hl:=by rw[iK];exact hl
 row l hl j hj:=by
  rw[KR hj,jZ (by omega)];by_cases e:p=j
  . subst e;simp
  . rw[aY e,aY λh=>e h.symm]
 one i hi k hk:=Mv hi hk
 two i hi k hk:=Mv hi hk
 nf j hj hst k hk:=by
  have hjp:j≠p:=λe=>hst (e▸hps);unfold fT;constructor
  . by_cases e:k=j
    . subst e;rw[bD rfl,aY hjp,bD rfl]
    . rw[aY e,aY e]
  . by_cases e:k=j
    . rw[bD e.symm,aY hjp,bD e]
    . rw[aY (λh=>e h.symm),aY e]
theorem RI(s:St)(p:Nat):flS s p=im s λl=>l.set p (-vf l p):=rfl
open Go Go.X
theorem yF{p m M:Int}(hp:0<p)(h1:p*m<=p*M)(h2:-(p*M)<=p*m):-M<=m/\m<=M:=by
 refine⟨?_,HH h1 hp⟩;refine HH (a:=p) ?_ hp;rw[lJ];exact h2
theorem LP{p m m' u v U V A B M:Int}(hp:0<p)(e':p*m'=u*A-v*B)(e:p*m=U*A-V*B)(u0:0<=u)(uU:u<=U)(v0:0<=v)(vV:v<=V)(up:u<=p)(vp:v<=p)
 (hA:-M<=A/\A<=M)(hB:-M<=B/\B<=M)(hm:-M<=m/\m<=M):-M<=m'/\m'<=M:=by
 have M0:0<=M:=by omega
 have hpm1:=ff hm.2 (dY hp);have hpm2:=ff hm.1 (dY hp);rw[lJ]at hpm2;have upM:u*M<=p*M:=eU up M0;have vpM:v*M<=p*M:=eU vp M0;rcases uh 0 A with a|a<;>rcases uh 0 B with b|b
 . have h1:=ff hA.2 u0;have h2:=ff hB.2 v0;have h3:=eW u0 a;have h4:=eW v0 b;exact yF hp (by omega) (by omega)
 . have h1:=eU uU a;have h2:=eU vV (show 0≤-B by omega);have h3:=eW u0 a;have h4:=eW v0 (show 0≤-B by omega);rw[lJ]at h2 h4;rw[lJ]at h2;exact yF hp (by omega) (by omega)
 . have h1:=eU uU (show 0≤-A by omega);have h2:=eU vV b;have h3:=eW u0 (show 0≤-A by omega);have h4:=eW v0 b;rw[lJ]at h1 h3;rw[lJ]at h1;exact yF hp (by omega) (by omega)
 . have h1:=ff (show-A<=M by omega) u0;have h2:=ff (show-B<=M by omega) v0;have h3:=eW u0 (show 0≤-A by omega);have h4:=eW v0 (show 0≤-B by omega);rw[lJ]at h1 h2 h3 h4;exact yF hp (by omega) (by omega)
theorem MC{p m' u v A B M:Int}(hp:0<p)(e':p*m'=u*A-v*B)(hu:-p<=u/\u<=p)(hv:-p<=v/\v<=p)(hA:-M<=A/\A<=M)(hB:-M<=B/\B<=M):-(2*M)<=m'/\m'<=2*M:=by
 have key:∀{x y:Int},-p<=x->x<=p→-M<=y->y<=M→-(p*M)<=x*y/\x*y<=p*M:=by
  intro x y h1 h2 h3 h4;have M0:0<=M:=by omega
  rcases uh 0 x with a|a<;>rcases uh 0 y with b|b
  . have g1:=mW h2 h4 b (by omega);have g2:=eW a b;have g3:=eW (dY hp) M0;omega
  . have g1:=mW h2 (show-y<=M by omega) (by omega) (by omega);have g2:=eW a (show 0≤-y by omega);rw[lJ]at g1 g2;have g3:=eW (dY hp) M0;omega
  . have g1:=mW (show-x<=p by omega) h4 b (by omega);have g2:=eW (show 0≤-x by omega) b;rw[lH]at g1 g2;have g3:=eW (dY hp) M0;omega
  . have g1:=mW (show-x<=p by omega) (show-y<=M by omega) (by omega) (by omega);have g2:=eW (show 0≤-x by omega) (show 0≤-y by omega);rw[Og]at g1 g2;have g3:=eW (dY hp) M0;omega
 have h1:=key hu.1 hu.2 hA.1 hA.2;have h2:=key hv.1 hv.2 hB.1 hB.2;have e3:p*(2*M)=2*(p*M):=by grind
 exact yF hp (by omega) (by omega)
def Mi(a x:List Int)(j k:Nat):Int:=vf a j*vf x k-vf a k*vf x j
def MB(n:Nat)(a x:List Int)(M:Int):Prop:=∀j,j<n->∀k,k<n→-M<=Mi a x j k/\Mi a x j k<=M
def SG(n:Nat)(a:List Int):Prop:=(∀j,j<n->0<=vf a j)\/∀j,j<n->vf a j<=0
theorem mb{a p:Int}(hp:0<p):0<=a-a.fdiv p*p/\a-a.fdiv p*p<p:=by
 have h1:=HB a p;have h2:=Int.fmod_nonneg_of_pos a hp;have h3:=Int.fmod_lt_of_pos a hp;rw[fD]at h1;omega
theorem Nf{a p:Int}(hp:p<0):a-a.fdiv p*p<=0/\p<a-a.fdiv p*p:=by
 have h:=mb (a:=-a) (p:=-p) (by omega);rw[HA,lJ]at h;omega
section
variable {n p:Nat} {a x:List Int}
theorem ma(hp:p<n)(hl:x.length=n):vf (cx a p n x) p=vf x p:=by unfold cx;rw[dF (by omega),aY (by omega)]
theorem nA{j:Nat}(hj:j<n)(hl:x.length=n)(hjp:j≠p):vf (cx a p n x) j=vf x j-(vf a j).fdiv (vf a p)*vf x p:=by unfold cx;rw[dF (by omega),bD ⟨hj,hjp⟩]
theorem oT(hp:qA a p)(hl:a.length=n){j:Nat}(hj:j<n)(hjp:j≠p):(vf (cx a p n a) j).natAbs<(vf a p).natAbs/\(0<vf a p->0<=vf (cx a p n a) j)/\(vf a p<0->vf (cx a p n a) j<=0):=by
 rw[nA hj hl hjp];have h0:=hp.2.1;rcases rS h0 with h|h
 . have:=Nf (a:=vf a j) h;omega
 . have:=mb (a:=vf a j) h;omega
theorem M9{j k:Nat}(hp:p<n)(ha:a.length=n)(hx:x.length=n)(hj:j<n)(hk:k<n)(hjp:j≠p)(hkp:k≠p):
 vf a p*Mi (cx a p n a) (cx a p n x) j k=vf (cx a p n a) j*Mi a x p k-vf (cx a p n a) k*Mi a x p j:=by
 unfold Mi;rw[nA hj ha hjp,nA hk ha hkp,nA hj hx hjp,nA hk hx hkp];generalize(vf a j).fdiv (vf a p)=q;generalize(vf a k).fdiv (vf a p)=r;grind
theorem Pg{j k:Nat}:vf a p*Mi a x j k=vf a j*Mi a x p k-vf a k*Mi a x p j:=by unfold Mi;grind
theorem yy{k:Nat}(hp:p<n)(ha:a.length=n)(hx:x.length=n)(hk:k<n):Mi (cx a p n a) (cx a p n x) p k=Mi a x p k:=by
 unfold Mi;rw[ma hp ha,ma hp hx];by_cases e:k=p
 . subst e;rw[ma hk ha,ma hk hx]
 . rw[nA hk ha e,nA hk hx e];grind
theorem J0{j k:Nat}:Mi a x j k=-Mi a x k j:=by unfold Mi;omega
theorem S7{M:Int}(hM:0<=M)(hp:qA a p)(ha:a.length=n)(hx:x.length=n)(h:MB n a x M):MB n (cx a p n a) (cx a p n x) (2*M):=by
 have hpn:p<n:=by have:=hp.1;omega
 intro j hj k hk;by_cases e:j=p
 . subst e;rw[yy hj ha hx hk];have:=h j hj k hk;omega
 by_cases e2:k=p
 . subst e2;rw[J0,yy hk ha hx hj];have:=h k hk j hj;omega
 have h1:=M9 hpn ha hx hj hk e e2;have hA:=h p hpn k hk;have hB:=h p hpn j hj;have sj:=(oT hp ha hj e).1;have sk:=(oT hp ha hk e2).1;rcases rS hp.2.1 with h0|h0
 . refine MC (p:=-vf a p) (u:=-vf (cx a p n a) j) (v:=-vf (cx a p n a) k) (A:=Mi a x p k) (B:=Mi a x p j) (by omega) ?_ (by omega) (by omega) hA hB;rw[lH,lH,lH,h1];omega
 . exact MC (p:=vf a p) h0 h1 (by omega) (by omega) hA hB
theorem T3{M:Int}(hp:qA a p)(hs:SG n a)(ha:a.length=n)(hx:x.length=n)(h:MB n a x M):MB n (cx a p n a) (cx a p n x) M:=by
 have hpn:p<n:=by have:=hp.1;omega
 intro j hj k hk;by_cases e:j=p
 . subst e;rw[yy hj ha hx hk];exact h j hj k hk
 by_cases e2:k=p
 . subst e2;rw[J0,yy hk ha hx hj];have:=h k hk j hj;omega
 have h1:=M9 hpn ha hx hj hk e e2;have h2:=Pg (a:=a) (x:=x) (p:=p) (j:=j) (k:=k);have hA:=h p hpn k hk;have hB:=h p hpn j hj;have hm:=h j hj k hk;obtain⟨sj,sj1,sj2⟩:=oT hp ha hj e;obtain⟨sk,sk1,sk2⟩:=oT hp ha hk e2;have pj:=hp.2.2 j (by omega);have pk:=hp.2.2 k (by omega);have zj:vf a j=0->vf (cx a p n a) j=0:=λz=>by rw[nA hj ha e,z,wQ];omega
 have zk:vf a k=0->vf (cx a p n a) k=0:=λz=>by rw[nA hk ha e2,z,wQ];omega
 rcases rS hp.2.1 with h0|h0
 . have hs':∀j,j<n->vf a j<=0:=by
    rcases hs with hs|hs
    . have:=hs p hpn;omega
    . exact hs
   have hj':=hs' j hj;have hk':=hs' k hk;refine LP (p:=-vf a p) (m:=Mi a x j k) (u:=-vf (cx a p n a) j) (v:=-vf (cx a p n a) k) (U:=-vf a j) (V:=-vf a k) (A:=Mi a x p k) (B:=Mi a x p j) (by omega) ?_ ?_ ?_ ?_ ?_ ?_ ?_ ?_ hA hB hm
   . rw[lH,lH,lH,h1];omega
   . rw[lH,lH,lH,h2];omega
   . have:=sj2 h0;omega
   . by_cases z:vf a j=0
     . have:=zj z;omega
     . have:=pj z;omega
   . have:=sk2 h0;omega
   . by_cases z:vf a k=0
     . have:=zk z;omega
     . have:=pk z;omega
   . omega
   . omega
 . have hs':∀j,j<n->0<=vf a j:=by
    rcases hs with hs|hs
    . exact hs
    . have:=hs p hpn;omega
   have hj':=hs' j hj;have hk':=hs' k hk;refine LP (p:=vf a p) (m:=Mi a x j k) (u:=vf (cx a p n a) j) (v:=vf (cx a p n a) k) (U:=vf a j) (V:=vf a k) (A:=Mi a x p k) (B:=Mi a x p j) h0 h1 h2 (sj1 h0) ?_ (sk1 h0) ?_ ?_ ?_ hA hB hm
   . by_cases z:vf a j=0
     . have:=zj z;omega
     . have:=pj z;omega
   . by_cases z:vf a k=0
     . have:=zk z;omega
     . have:=pk z;omega
   . omega
   . omega
theorem Re(hp:qA a p)(ha:a.length=n):SG n (cx a p n a):=by
 have hpn:p<n:=by have:=hp.1;omega
 rcases rS hp.2.1 with h0|h0
 . refine .inr λj hj=>?_;by_cases e:j=p
   . subst e;rw[ma hj ha];omega
   . exact(oT hp ha hj e).2.2 h0
 . refine .inl λj hj=>?_;by_cases e:j=p
   . subst e;rw[ma hj ha];omega
   . exact(oT hp ha hj e).2.1 h0
theorem Tz{M X:Nat}(hp:qA a p)(ha:a.length=n)(hx:x.length=n)(h:MB n a x M)(hX:∀j,j<n->(vf x j).natAbs<=X):∀j,j<n->(vf (cx a p n x) j).natAbs<=M+X:=by
 have hpn:p<n:=by have:=hp.1;omega
 intro j hj;by_cases e:j=p
 . subst e;rw[ma hj hx];have:=hX j hj;omega
 have h1:=yy (k:=j) hpn ha hx hj;have h2:=h p hpn j hj;have hs:=(oT hp ha hj e).1;have hxp:=hX p hpn;unfold Mi at h1;rw[ma hpn ha,ma hpn hx]at h1;have h3:vf a p*vf (cx a p n x) j=Mi a x p j+vf (cx a p n a) j*vf x p:=by unfold Mi;omega
 have h4:(vf a p).natAbs*(vf (cx a p n x) j).natAbs<=M+(vf a p).natAbs*X:=by
  rw[<-zw,h3];have g1:(vf (cx a p n a) j*vf x p).natAbs<=(vf a p).natAbs*X:=by
   rw[zw];exact j7 (by omega) hxp
  omega
 have hpos:0<(vf a p).natAbs:=by have:=hp.2.1;omega
 have h5:(vf a p).natAbs*(vf (cx a p n x) j).natAbs<=(vf a p).natAbs*(M+X):=by
  rw[Nat.mul_add];have:1*M<=(vf a p).natAbs*M:=o5 _ hpos;omega
 exact Nat.le_of_mul_le_mul_left h5 hpos
end
def fi(a:List Int):Nat->Nat
 |0=>0
 |n+1=>fi a n+(vf a n).natAbs
theorem Ij{a b:List Int}:∀{n:Nat},(∀j,j<n->(vf a j).natAbs<=(vf b j).natAbs)->fi a n<=fi b n
 |0,_=>bO _
 |n+1,h=>by
  have:=Ij (n:=n) λj hj=>h j (by omega);have:=h n (by omega);simp only[fi];omega
theorem Lo{a b:List Int}{k:Nat}:∀{n:Nat},k<n->(∀j,j<n->(vf a j).natAbs<=(vf b j).natAbs)->(vf a k).natAbs<(vf b k).natAbs->fi a n<fi b n
 |n+1,hk,h,hlt=>by
  simp only[fi];by_cases e:k=n
  . subst e;have:=Ij (n:=k) λj hj=>h j (by omega);omega
  . have:=Lo (n:=n) (by omega) (λj hj=>h j (by omega)) hlt;have:=h n (by omega);omega
theorem E1{a:List Int}{C:Nat}:∀{n:Nat},(∀j,j<n->(vf a j).natAbs<=C)->fi a n<=n*C
 |0,_=>by simp[fi]
 |n+1,h=>by
  have:=E1 (n:=n) λj hj=>h j (by omega);have:=h n (by omega);simp only[fi];rw[ig];omega
theorem Q7{a:List Int}{n p:Nat}(hp:qA a p)(ha:a.length=n){k:Nat}(hk:k<n)(hkp:k≠p)(hk0:vf a k≠0):fi (cx a p n a) n<fi a n:=by
 have hpn:p<n:=by have:=hp.1;omega
 have key:∀j,j<n->(vf (cx a p n a) j).natAbs<=(vf a j).natAbs:=λj hj=>by
  by_cases e:j=p
  . subst e;rw[ma hj ha];exact bO _
  . by_cases z:vf a j=0
    . rw[nA hj ha e,z,wQ];simp
    . have:=(oT hp ha hj e).1;have:=hp.2.2 j (by omega) z;omega
 exact Lo hk key (by have:=(oT hp ha hk hkp).1;have:=hp.2.2 k (by omega) hk0;omega)
theorem KJ{a b:List Int}{p m:Nat}:∀{n:Nat},(∀j,j<n->2*(vf b j).natAbs<=(vf a j).natAbs+if j=p then m else 0)->2*fi b n<=fi a n+if p<n then m else 0
 |0,_=>by simp[fi]
 |n+1,h=>by
  have h1:=KJ (n:=n) λj hj=>h j (by omega);have h2:=h n (by omega);simp only[fi];by_cases e:n=p
  . subst e;rw[bD rfl]at h2;rw[aY (by omega)]at h1;rw[bD (by omega)];omega
  . rw[aY e]at h2;by_cases e2:p<n
    . rw[bD e2]at h1;rw[bD (by omega)];omega
    . rw[aY e2]at h1;rw[aY (by omega)];omega
theorem yt{a:List Int}{p m:Nat}:∀{n:Nat},p<n->m<=(vf a p).natAbs->m<=fi a n
 |n+1,hp,h=>by
  simp only[fi];by_cases e:n=p
  . subst e;omega
  . have:=yt (n:=n) (by omega) h;omega
theorem Mz{a:List Int}{p k m:Nat}:∀{n:Nat},p<n->k<n->k≠p->m<=(vf a p).natAbs->m<=(vf a k).natAbs->2*m<=fi a n
 |n+1,hp,hk,hkp,h1,h2=>by
  simp only[fi];by_cases e:n=p
  . subst e;have:=yt (n:=n) (by omega) h2;omega
  . by_cases e2:n=k
    . subst e2;have:=yt (n:=n) (by omega) h1;omega
    . have:=Mz (n:=n) (by omega) (by omega) hkp h1 h2;omega
theorem Vu{a:List Int}{n p k:Nat}(hp:qA a p)(hs:SG n a)(ha:a.length=n)(hk:k<n)(hkp:k≠p)(hk0:vf a k≠0):4*fi (cx a p n a) n<=3*fi a n:=by
 have hpn:p<n:=by have:=hp.1;omega
 have h2:=Mz (a:=a) (p:=p) (k:=k) (m:=(vf a p).natAbs) hpn hk hkp (bO _) (hp.2.2 k (by omega) hk0);have h1:=KJ (a:=a) (b:=cx a p n a) (p:=p) (m:=(vf a p).natAbs) (n:=n) λj hj=>by
  by_cases e:j=p
  . subst e;rw[ma hj ha,bD rfl];omega
  . rw[aY e,nA hj ha e];by_cases z:vf a j=0
    . rw[z,wQ];simp
    . have hm:=hp.2.2 j (by omega) z;rcases rS hp.2.1 with h0|h0
      . have hs':∀j,j<n->vf a j<=0:=by
         rcases hs with hs|hs
         . have:=hs p hpn;omega
         . exact hs
        have hj0:=hs' j hj;have hf:=Nf (a:=vf a j) h0;generalize(vf a j).fdiv (vf a p)=q at*;have hq:1<=q:=by
         rcases o9 q 1 with g|g
         . have:=eU (show q<=0 by omega) (show 0≤-vf a p by omega);simp only[lJ]at this;omega
         . exact g
        have:=eU hq (show 0≤-vf a p by omega);simp only[lJ]at this;omega
      . have hs':∀j,j<n->0<=vf a j:=by
         rcases hs with hs|hs
         . exact hs
         . have:=hs p hpn;omega
        have hj0:=hs' j hj;have hf:=mb (a:=vf a j) h0;generalize(vf a j).fdiv (vf a p)=q at*;have hq:1<=q:=by
         rcases o9 q 1 with g|g
         . have:=eU (show q<=0 by omega) (dY h0);omega
         . exact g
        have:=eU hq (dY h0);omega
 rw[bD hpn]at h1;omega
theorem TT{t S C:Nat}(hS:1<=S)(hC:C<=40000000000)(h:S*4^t<=3^t*C):t<=90:=by
 refine ji λhn=>?_;obtain⟨s,rfl⟩:∃s,t=90+s:=⟨t-90,by omega⟩;have h1:3^s<=4^s:=Nat.pow_le_pow_left (by decide) s;have h2:0<3^s:=Nat.pow_pos (by decide);have h3:4^90*3^s<=S*4^(90+s):=by
  rw[Nat.pow_add];have:4^90*3^s<=4^90*4^s:=zy _ h1;exact bU this (Nat.le_mul_of_pos_left _ hS)
 have h4:3^(90+s)*C<=(3^90*40000000000)*3^s:=by
  rw[Nat.pow_add];have:3^90*3^s*C<=3^90*3^s*40000000000:=zy _ hC;refine bU this (Nat.le_of_eq ?_);rw[Nat.mul_right_comm]
 have h5:4^90*3^s<=(3^90*40000000000)*3^s:=bU h3 (bU h h4);have h6:=CX h5 h2;revert h6
 decide
open Go Go.X
structure mG (K C:Nat)(s:St)(i p:Nat)(s':St):Prop where
 sim:ik s s'
 inv:Inv s'
 kn:s'.aA=s.aA
 st:s'.aU=s.aU
 aN:s'.aN=s.aN
 value:s'.value=s.value
 ed:s'.aK=s.aK
 n:s'.n=s.n
 pos:s'.aB.map AI.pos=s.aB.map AI.pos
 pn:p<s.n
 free:vf s.aN p=0
 unit:∀x,s'.aB[i]?=some x->∀j,j<s.n->vf x.g j=if j=p then 1 else 0
 co:∀x∈s'.aB,∀j,j<s.n->j≠p->(vf x.g j).natAbs<=4*(C*C)
 big:∀x∈s'.aB,∀j,j<s.n->(vf x.g j).natAbs<=C+90*(4*(C*C))
 su:SU (K+820) s'
theorem VC{n C:Nat}{a x:List Int}(ha:∀j,j<n->(vf a j).natAbs<=C)(hx:∀j,j<n->(vf x j).natAbs<=C):MB n a x ((2*(C*C):Nat):Int):=by
 intro j hj k hk;have key:∀{y z:Int},y.natAbs<=C->z.natAbs<=C->(y*z).natAbs<=C*C:=λh1 h2=>by rw[zw];exact j7 h1 h2
 have h1:=key (ha j hj) (hx k hk);have h2:=key (ha k hk) (hx j hj);unfold Mi;omega
structure IsoI (K C:Nat)(s:St)(i:Nat)(g:St):Prop where
 sim:ik s g
 inv:Inv g
 kn:g.aA=s.aA
 st:g.aU=s.aU
 aN:g.aN=s.aN
 value:g.value=s.value
 ed:g.aK=s.aK
 n:g.n=s.n
 pos:g.aB.map AI.pos=s.aB.map AI.pos
 t:∃t a,(g.aB[i]?).map AI.g=some a/\a.length=s.n/\(1<=fi a s.n/\fi a s.n*4^t<=3^t*(2*(s.n*C)))/\SU (K+9*t) g/\(∀j,j<s.n->(vf a j).natAbs<=C)/\
  (∀x∈g.aB,∀j,j<s.n->(vf x.g j).natAbs<=C+t*(4*(C*C)))/\
  ((t=0/\∀x∈g.aB,MB s.n a x.g ((2*(C*C):Nat):Int))\/(SG s.n a/\∀x∈g.aB,MB s.n a x.g ((4*(C*C):Nat):Int)))
theorem vQ{s0 s:St}(h:s0.n=s.n):aS.mk s0.to.n s.to.aA s.to.aU s.to.u s.to.aN s.to.value s.to.aB s.to.aK=s.to:=jc (x:=s.to) (by show(s0.n:Int)=s.n;rw[h])
theorem RO{K C:Nat}{s:St}{i:Nat}(hI:Inv s)(hu:SU K s)(hn:s.n<=4)(hil:s.aB.length<=1073741824)(hi:i<s.aB.length)(hC:∀x∈s.aB,∀j,j<s.n->(vf x.g j).natAbs<=C)(hCb:C<=4294967296)(hK8:8<=K)(hK:K+900<=dh):
 Tm (λN=>yY N s.to (i:Int)) (λr=>∃(p:Nat) (s':St),r=((p:Int),s'.to)/\mG K C s i p s'):=by
 have hL:dh=1099511627776:=rfl;unfold yY;have hC2:C*C<=4294967296*4294967296:=j7 hCb hCb;have hnC:s.n*C<=4*4294967296:=j7 hn hCb;have ha0:s.aB[i]∈s.aB:=dJ hi;refine Tm.bind (Q:=λr=>∃(p:Nat) (s':St),r=((p:Int),s'.to)/\mG K C s i p s')
  (Tm.vU (λ(g:St) t=>t=jf g/\IsoI K C s i g) (λg=>fi (((g.aB[i]?).map AI.g).getD []) s.n) s ⟨rfl,ik.refl s,hI,rfl,rfl,rfl,rfl,rfl,rfl,rfl,?_⟩ ?_) λr hr=>aI hr
 . refine⟨0,(s.aB[i]).g,by rw[cy hi];rfl,(hI.it _ ha0).2,?_,hu,hC _ ha0,λx hx j hj=>by have:=hC x hx j hj;omega,.inl ⟨rfl,λx hx=>VC (hC _ ha0) (hC x hx)⟩⟩;have:=E1 (a:=(s.aB[i]).g) (n:=s.n) (C:=C) (hC _ ha0);refine⟨?_,by rw[Nat.pow_zero];omega⟩;refine ji λh=>?_;have h1:=hI.gM _ ha0;have h2:(2:Int)∣((dC (s.aB[i]).g:Nat):Int):=oX λv hv=>by
    obtain⟨j,hj,rfl⟩:=gC hv;have:=yt (a:=(s.aB[i]).g) (p:=j) (m:=(vf (s.aB[i]).g j).natAbs) (n:=s.n) (by rw[(hI.it _ ha0).2]at hj;exact hj) (bO _);have:vf (s.aB[i]).g j=0:=by omega
    rw[this];exact wR 2
   rw[h1]at h2;omega
 . rintro g _ ⟨rfl,hg⟩;obtain⟨t,a,ea,al,hμ,hsu,hac,hX,hM⟩:=hg.t;have hgl:g.aB.length=s.aB.length:=by have:=dz List.length hg.pos;simpa using this
   have hig:i<g.aB.length:=by omega
   have eai:(g.aB[i]).g=a:=by rw[cy hig]at ea;exact jh ea
   have hxm:g.aB[i]∈g.aB:=dJ hig;have ht90:t<=90:=TT hμ.1 (by omega) hμ.2;have ht:t*(4*(C*C))<=90*(4*(C*C)):=o5 _ ht90;have hfit:∀x∈g.aB,kh g.n 8 x.g:=λx hx=>⟨(hg.inv.it x hx).2,λv hv=>by
    obtain⟨j,hj,rfl⟩:=gC hv;have h1:=hX x hx j (by rw[(hg.inv.it x hx).2,hg.n]at hj;exact hj);refine bU (p7 (k:=4) ?_) (by decide);have:aE^4=340282366920938463463374607431768211456:=by decide
    omega⟩
   have hnz:∃j,j<(g.aB[i]).g.length/\vf (g.aB[i]).g j≠0:=by
    refine ji λh=>?_;have h1:=hg.inv.gM _ hxm;have h2:(2:Int)∣((dC (g.aB[i]).g:Nat):Int):=oX λv hv=>by
     obtain⟨j,hj,rfl⟩:=gC hv;have:vf (g.aB[i]).g j=0:=ji λe=>h ⟨j,hj,e⟩;rw[this];exact wR 2
    rw[h1]at h2;omega
   show Tm (λN=>A2 N s.to (i:Int) (g.to.aA,g.to.aU,g.to.u,g.to.aN,g.to.value,g.to.aB,g.to.aK)) _;unfold A2;refine aL (a:=(g.aB[i]).to) (by show idx (g.aB.map AI.to) _=_;rw[dA (by simpa using hig),lG]) ?_;refine Tm.bind (Ra (x:=g.aB[i]) (by rw[(hg.inv.it _ hxm).2,hg.n];omega) (λv hv=>bU ((hfit _ hxm).2 v hv) (by decide)) hnz) ?_;rintro _ ⟨p,rfl,hp⟩;rw[eai]at hp hnz;have hpn:p<s.n:=by have:=hp.1;omega
   have hpg:p<g.n:=by rw[hg.n];exact hpn
   have hfree:vf g.aN p=0:=by
    refine ji λe=>hp.2.1 ?_;rw[<-eai];exact hg.inv.nf _ hxm p hpg e
   have hanf:∀j,j<g.n->vf g.aN j≠0->vf a j=0:=λj hj hst=>by rw[<-eai];exact hg.inv.nf _ hxm j hj hst
   have hr:=UX (s0:=s) (s:=g) (i:=i) (p:=p) hsu (by rw[hg.n];omega) hg.n.symm (by omega) hfit hig hpg (by omega) (by omega) true;rw[eai]at hr;refine Tm.bind hr ?_;rintro _ ⟨c,rfl,hc⟩;dsimp only;rw[TD]at*;have hb:=VQ (s:=g) (a:=a) hpg hfree hanf;have hsim2:=ik.ch hg.inv hb;have hinv2:=Inv.ch hg.inv hb;have hsu2:SU (K+9*(t+1)) (im g (cx a p g.n)):=by
    refine⟨⟨by show(g.u.map _).length=_;rw[cT];exact hsu.u.1,λl hl=>?_⟩,hsu.st,⟨hsu.v.1,λv hv=>by have:=hsu.v.2 v hv;omega⟩⟩;obtain⟨w,hw,rfl⟩:=dR.1 hl;have:=GU (a:=a) (p:=p) (k:=g.n) (hsu.u.2 w hw) (λj=>by rw[<-eai];exact(hfit _ hxm).vf j);exact⟨this.1,λv hv=>by have:=this.2 v hv;omega⟩
   cases c with
   |true=>
    refine cR rfl ?_;have hz:=(hc.1 rfl).2;rw[hg.n]at hz;have hzero:∀j,j<s.n->j≠p->vf a j=0:=hz;have hrow:∀l:List Int,cx a p g.n l=l:=λl=>by
     refine lS pZ λj hj=>?_;rw[pZ]at hj;unfold cx;rw[dF hj];split
     . rename_i h;rw[hzero j (by have:=h.1;rw[hg.n]at this;exact this) h.2,wQ];omega
     . rfl
    have hsame:im g (cx a p g.n)=g:=by
     unfold im;rw[show cx a p g.n=id from funext hrow];simp
    rw[hsame];have hap:(vf a p).natAbs=1:=by
     have h1:=hg.inv.gM _ hxm;rw[eai]at h1;have h2:vf a p∣((dC a:Nat):Int):=oX λv hv=>by
      obtain⟨j,hj,rfl⟩:=gC hv;by_cases e:j=p
      . subst e;exact Int.dvd_refl _
      . rw[hzero j (by omega) e];exact wR _
     rw[h1]at h2;have:=Int.natAbs_dvd_natAbs.2 h2;exact HE this
    have hco:∀x∈g.aB,∀j,j<s.n->j≠p->(vf x.g j).natAbs<=4*(C*C):=λx hx j hj hjp=>by
     have hm:-((4*(C*C):Nat):Int)<=Mi a x.g p j/\Mi a x.g p j<=((4*(C*C):Nat):Int):=by
      rcases hM with⟨_,hM⟩|⟨_,hM⟩
      . have:=hM x hx p hpn j hj;omega
      . exact hM x hx p hpn j hj
     unfold Mi at hm;rw[hzero j hj hjp,Int.zero_mul,Df]at hm;have:(vf a p*vf x.g j).natAbs=(vf x.g j).natAbs:=by rw[zw,hap,zn]
     omega
    have hbg:∀x∈g.aB,∀j,j<s.n->(vf x.g j).natAbs<=C+90*(4*(C*C)):=λx hx j hj=>by have:=hX x hx j hj;omega
    have hgi:idx (mB (g.aB[i]).g) (p:Int)=some (B (vf a p)):=by rw[eai];exact eD (by omega)
    refine aL hgi (aV (jK (bU (jB (by omega)) (by decide))) ?_);have hsu3:SU (K+820) g:=⟨⟨hsu.u.1,λr hr=>⟨(hsu.u.2 r hr).1,λv hv=>by have:=(hsu.u.2 r hr).2 v hv;omega⟩⟩,hsu.st,⟨hsu.v.1,λv hv=>by have:=hsu.v.2 v hv;omega⟩⟩;refine Tm.bind (Q:=λr=>∃s',r=jf s'/\mG K C s i p s') (bA (λh0=>?_) (λh0=>aI ⟨g,rfl,?_⟩)) ?_
    . have hneg:vf a p<0:=oN.1 h0;rw[vQ hg.n.symm];have hbf:=Qs (s:=g) hpg hfree;refine aV (P5 (K:=K+820) hsu3 (by rw[hg.n];omega) (by omega) (λx hx=>⟨(hfit x hx).1,λv hv=>by have:=(hfit x hx).2 v hv;omega⟩) hpg (by omega)) (aI ⟨flS g p,rfl,?_⟩);rw[RI];have hvs:∀x∈g.aB,∀j,vf (x.g.set p (-vf x.g p)) j=if p=j then-vf x.g p else vf x.g j:=λx hx j=>jZ (by rw[(hg.inv.it x hx).2];exact hpg);refine⟨hg.sim.trans (ik.ch hg.inv hbf),Inv.ch hg.inv hbf,hg.kn,hg.st,hg.aN,hg.value,hg.ed,hg.n,?_,hpn,by rw[<-hg.aN];exact hfree,λx hx j hj=>?_,λx hx j hj hjp=>?_,λx hx j hj=>?_,?_⟩
      . show(g.aB.map _).map AI.pos=_;rw[mV,<-hg.pos];rfl
      . have hx':(g.aB[i]?).map (λx:AI=>({x with g:=x.g.set p (-vf x.g p)}:AI))=some x:=by rw[<-ij];exact hx
        rw[cy hig]at hx';obtain rfl:=jh hx';show vf ((g.aB[i]).g.set p _) j=_;rw[hvs _ hxm j,eai];by_cases e:p=j
        . subst e;rw[bD rfl,bD rfl];omega
        . rw[aY e,aY λh=>e h.symm];exact hzero j hj λh=>e h.symm
      . obtain⟨z,hz',rfl⟩:=dR.1 hx;show(vf (z.g.set p _) j).natAbs<=_;rw[hvs z hz' j,aY λh=>hjp h.symm];exact hco z hz' j hj hjp
      . obtain⟨z,hz',rfl⟩:=dR.1 hx;show(vf (z.g.set p _) j).natAbs<=_;rw[hvs z hz' j];split
        . have:=hbg z hz' p hpn;omega
        . exact hbg z hz' j hj
      . refine⟨⟨by show(g.u.map _).length=_;rw[cT];exact hsu3.u.1,λl hl=>?_⟩,hsu3.st,hsu3.v⟩;obtain⟨w,hw,rfl⟩:=dR.1 hl;have hw':=hsu3.u.2 w hw;refine⟨by rw[iK];exact hw'.1,λv hv=>?_⟩;rcases qp hv with hv|rfl
        . exact hw'.2 v hv
        . rw[gx];exact hw'.vf p
    . have hpos:¬vf a p<0:=λe=>h0 (oN.2 e);refine⟨hg.sim,hg.inv,hg.kn,hg.st,hg.aN,hg.value,hg.ed,hg.n,hg.pos,hpn,by rw[<-hg.aN];exact hfree,λx hx j hj=>?_,hco,hbg,hsu3⟩;rw[cy hig]at hx;obtain rfl:=jh hx;rw[eai];by_cases e:j=p
      . subst e;rw[bD rfl];omega
      . rw[aY e];exact hzero j hj e
    . rintro⟨r1,r2,r3,r4,r5,r6,r7⟩ ⟨s',hs',hP⟩;obtain⟨rfl,rfl,rfl,rfl,rfl,rfl,rfl⟩:=by simpa[jf]using hs'
      refine aI ⟨p,s',?_,hP⟩;dsimp only;rw[vQ hP.n.symm]
   |false=>
    refine cD (by simp) (aI ?_);have hex:∃k,k<s.n/\k≠p/\vf a k≠0:=ji λh=>by
     have:=hc.2 ⟨rfl,λj hj hjp=>ji λe=>h ⟨j,by rw[<-hg.n];exact hj,hjp,e⟩⟩;cases this
    obtain⟨k,hk,hkp,hk0⟩:=hex;have hlt:=Q7 hp al hk hkp hk0;have hgn:=hg.n;have e1:(((im g (cx a p g.n)).aB[i]?).map AI.g)=some (cx a p s.n a):=by
     show((g.aB.map _)[i]?).map AI.g=_;rw[ij,cy hig];show some (cx a p g.n (g.aB[i]).g)=_;rw[eai,hgn]
    have e0:((g.aB[i]?).map AI.g)=some a:=ea;have hpos1:1<=fi (cx a p s.n a) s.n:=bU (show 1<=(vf a p).natAbs by have:=hp.2.1;omega) (yt (a:=cx a p s.n a) hpn (by rw[ma hpn al];exact bO _));refine⟨im g (cx a p g.n),⟨rfl,hg.sim.trans hsim2,hinv2,hg.kn,hg.st,hg.aN,hg.value,hg.ed,hg.n,?_,t+1,cx a p s.n a,e1,pZ.trans al,⟨?_,?_⟩,hsu2,λj hj=>?_,λx hx j hj=>?_,.inr ⟨Re hp al,λx hx=>?_⟩⟩,?_⟩
    . show(g.aB.map _).map AI.pos=_;rw[mV,<-hg.pos];rfl
    . exact hpos1
    . have hCn:=E1 (a:=a) (n:=s.n) (C:=C) hac;rcases hM with⟨rfl,_⟩|⟨hS,_⟩
      . rw[wO,wO,Nat.pow_zero];omega
      . have h34:=Vu hp hS al hk hkp hk0;have h5:4*fi (cx a p s.n a) s.n*4^t<=3*fi a s.n*4^t:=o5 _ h34;have h6:3*(fi a s.n*4^t)<=3*(3^t*(2*(s.n*C))):=zy _ hμ.2;have e1:fi (cx a p s.n a) s.n*4^(t+1)=4*fi (cx a p s.n a) s.n*4^t:=by rw[wO];grind
        have e2:3*fi a s.n*4^t=3*(fi a s.n*4^t):=by grind
        have e3:3^(t+1)*(2*(s.n*C))=3*(3^t*(2*(s.n*C))):=by rw[wO];grind
        omega
    . by_cases e:j=p
      . subst e;rw[ma hj al];exact hac j hj
      . have:=(oT hp al hj e).1;have:=hac p hpn;omega
    . obtain⟨z,hz',rfl⟩:=dR.1 hx;show(vf (cx a p g.n z.g) j).natAbs<=_;rw[hgn];have hzl:z.g.length=s.n:=(hg.inv.it z hz').2.trans hgn;have hMz:MB s.n a z.g ((4*(C*C):Nat):Int):=by
       rcases hM with⟨_,hM⟩|⟨_,hM⟩
       . intro j hj k hk;have:=hM z hz' j hj k hk;omega
       . exact hM z hz'
      have:=Tz hp al hzl hMz (hX z hz') j hj;rw[ig];omega
    . obtain⟨z,hz',rfl⟩:=dR.1 hx;show MB s.n (cx a p s.n a) (cx a p g.n z.g) _;rw[hgn];have hzl:z.g.length=s.n:=(hg.inv.it z hz').2.trans hgn;rcases hM with⟨_,hM⟩|⟨hS,hM⟩
      . have:=S7 (M:=((2*(C*C):Nat):Int)) (by omega) hp al hzl (hM z hz');intro j hj k hk;have:=this j hj k hk;omega
      . exact T3 hp hS al hzl (hM z hz')
    . show fi ((((im g (cx a p g.n)).aB[i]?).map AI.g).getD []) s.n<fi (((g.aB[i]?).map AI.g).getD []) s.n;rw[e1,e0];exact hlt
open Go Go.X
structure BT (n:Nat)(l:List AQ)(s:AS)(q:AQ):Prop where
 d:0<s.d
 dl:dl s.d<=4
 len:s.cU.length<=2
 cU:∀u∈s.cU,u.ix<l.length/\0<=u.n/\D.dl u.n<=4
 dvd:∀j,j<n->s.d∣eG l s.cU j
 q:q=nk n l s.cU s.d
inductive ir (n:Nat)(base:List AQ):List AS->List AQ->Prop where
 |nil:ir n base [] base
 |snoc {ss:List AS} {l:List AQ} {s:AS} {q:AQ} (h:ir n base ss l) (hs:BT n l s q):ir n base (ss++[s]) (l++[q])
structure Kept (s s':St):Prop where
 u:s'.u=s.u
 aN:s'.aN=s.aN
 value:s'.value=s.value
 ed:s'.aK=s.aK
 n:s'.n=s.n
 kn:∃e,s'.aA=s.aA++e
theorem Kept.refl(s:St):Kept s s:=⟨rfl,rfl,rfl,rfl,rfl,[],by simp⟩
theorem Kept.trans{a b c:St}(h:Kept a b)(h':Kept b c):Kept a c:=by
 obtain⟨e,he⟩:=h.kn;obtain⟨e',he'⟩:=h'.kn;exact⟨h'.u.trans h.u,h'.aN.trans h.aN,h'.value.trans h.value,h'.ed.trans h.ed,h'.n.trans h.n,e++e',by rw[he',he,jy]⟩
theorem Eg(s:St)(g:List Int)(us:List AU):Kept s (put s g us).2:=by
 obtain⟨h1,h2,h3,h4,h5⟩:=US s g us;obtain⟨e,he,_⟩:=Cu s g us;exact⟨h1,h2,h3,h4,h5,e,he⟩
theorem EM(s:St)(x:AI):Kept s (add s x):=⟨rfl,rfl,rfl,rfl,rfl,[],by simp[add]⟩
theorem AR:∀(L:List Act) (s:St),Kept s (cw s L).2
 |[],s=>Kept.refl s
 |.add x::r,s=>(EM s x).trans (AR r _)
 |.put g us::r,s=>by
  unfold cw;split
  . exact(Eg s g us).trans (AR r _)
  . exact Eg s g us
def nu(K:Nat)(s:St):Act->Prop
 |.add x=>kW s x
 |.put g us=>gT K s g us/\od s g us/\dl (dv g)<=4
def Cl(s:St)(y:Nat->Int):Act->Prop
 |.add x=>IH s y x
 |.put g us=>bK (vf g) y s.n<=gE s.aA us
theorem I4{kn e:List AQ}{j:Nat}:∀{us:List AU},(∀u∈us,u.ix<kn.length)->eG (kn++e) us j=eG kn us j
 |[],_=>rfl
 |u::us,h=>by
  show _+eG (kn++e) us j=_;rw[I4 λv hv=>h v (cO _ hv),iH (h u cX)];rfl
theorem IZ{kn e:List AQ}:∀{us:List AU},(∀u∈us,u.ix<kn.length)->gE (kn++e) us=gE kn us
 |[],_=>rfl
 |u::us,h=>by
  show _+gE (kn++e) us=_;rw[IZ λv hv=>h v (cO _ hv),iH (h u cX)];rfl
theorem kW.kept{s s':St}{x:AI}(h:kW s x)(k:Kept s s'):kW s' x:=by
 obtain⟨e,he⟩:=k.kn;exact⟨by rw[he];have:=h.pos;simp;omega,by rw[k.n];exact h.gl,λj hj=>by rw[k.n]at hj⊢;rw[k.u,he,iH h.pos];exact h.dH j hj,λj hj hst=>by rw[k.n]at hj;rw[k.aN]at hst;exact h.nf j hj hst,h.gM⟩
theorem nu.kept{K:Nat}{s s':St}{a:Act}(h:nu K s a)(k:Kept s s'):nu K s' a:=by
 obtain⟨e,he⟩:=k.kn;cases a with
 |add x=>exact kW.kept h k
 |put g us=>
  obtain⟨h1,h2,h3⟩:=h;have hix:∀u∈us,u.ix<s.aA.length:=λu hu=>(h1.u u hu).1;refine⟨mc.app (a:=.put g us) h1 k.n he,⟨λj hj=>?_,λj hj hst=>?_⟩,h3⟩
  . rw[k.n]at hj;rw[h2.dH j hj];unfold CM;rw[k.u,k.n,he];congr 1;exact Np λi _=>(I4 hix).symm
  . rw[k.n]at hj;rw[k.aN]at hst;exact h2.nf j hj hst
theorem Cl.kept{K:Nat}{s s':St}{a:Act}{y:Nat->Int}(hs:nu K s a)(k:Kept s s'):Cl s' y a↔Cl s y a:=by
 obtain⟨e,he⟩:=k.kn;cases a with
 |add x=>exact zh k.n he (kW.pos hs)
 |put g us=>
  show bK (vf g) y s'.n<=gE s'.aA us↔_;rw[k.n,he,IZ λu hu=>(hs.1.u u hu).1];rfl
theorem Mk{K n:Nat}{base:List AQ}{s:St}(h:Inv s){g:List Int}{us:List AU}(hn:n=s.n)(hp:gT K s g us)(hs:od s g us)(hd:dl (dv g)<=4)(hD:ir n base s.aU s.aA):ir n base (put s g us).2.aU (put s g us).2.aA:=by
 have e:(put s g us).2.aU=(dst s g us).aU/\(put s g us).2.aA=(dst s g us).aA:=by
  unfold put;dsimp only;split<;>exact⟨rfl,rfl⟩
 rw[e.1,e.2];unfold dst;split
 . refine hD.snoc ⟨ra g,hd,hp.ul,λu hu=>⟨(hp.u u hu).1,(hp.u u hu).2.1,(hp.u u hu).2.2.1⟩,λj hj=>Ky h hp.gl hs (by omega),by rw[hn]⟩
 . exact hD
def GB(M:Nat)(g:List Int):Prop:=∀v∈g,v.natAbs<=M
def xF(M:Nat):Act->Prop
 |.add x=>GB M x.g
 |.put g _=>GB M g
theorem O8{M n:Nat}{g:List Int}{d:Int}(hd:0<=d)(h:GB M g):GB M (vec n λj=>vf g j/d):=λv hv=>by
 obtain⟨j,hj,rfl⟩:=gC hv;rw[eZ]at hj;rw[dF hj];have:=Nd (a:=vf g j) (b:=d);rw[jQ _ hd]at this;have h2:(vf g j).natAbs<=M:=by
  rcases cH j g.length with h1|h1
  . exact h _ (gz h1)
  . rw[lO h1];omega
 omega
structure xV (K M:Nat)(s:St)(L:List Act)(ok:Bool)(s':St):Prop where
 kept:Kept s s'
 inv:Inv s'
 imp:ok=true->∀y,(∀z∈s'.aB,IH s' y z)->(∀z∈s.aB,IH s y z)/\∀a∈L,Cl s y a
 bad:ok=false->∃q∈s'.aA,(∀j,j<s.n->vf q.c j=0)/\q.b<0
 il:s'.aB.length<=s.aB.length+L.length
 kl:s'.aA.length<=s.aA.length+L.length
 sl:s'.aU.length<=s.aU.length+L.length
 gb:∀z∈s'.aB,GB M z.g
 jE:∀base,ir s.n base s.aU s.aA->ir s.n base s'.aU s'.aA
theorem va{K M:Nat}:∀(L:List Act) (s:St),Inv s->(∀a∈L,nu K s a)->(∀z∈s.aB,GB M z.g)->(∀a∈L,xF M a)->xV K M s L (cw s L).1 (cw s L).2
 |[],s,hI,_,hg,_=>⟨Kept.refl s,hI,λ_ y hy=>⟨hy,λa ha=>(by cases ha)⟩,λh=>(by cases h),bO _,bO _,bO _,hg,λ_ h=>h⟩
 |.add x::r,s,hI,hA,hg,hB=>by
  have hx:kW s x:=hA _ cX;have k:=EM s x;have hg':∀z∈(add s x).aB,GB M z.g:=λz hz=>(mv hz).elim (λe=>by subst e;exact hB _ cX) (hg z);have h:=va r (add s x) (hI.add hx) (λa ha=>(hA a (cO _ ha)).kept k) hg' λa ha=>hB a (cO _ ha);have hl:=uS (kn:=s.aA) (x:=x) (l:=s.aB);refine⟨k.trans h.kept,h.inv,λhok y hy=>?_,h.bad,?_,?_,?_,h.gb,h.jE⟩
  . obtain⟨h1,h2⟩:=h.imp hok y hy;obtain⟨g1,g2⟩:=Bz (s:=s) (x:=x) (y:=y) (l:=s.aB) h1;refine⟨g1,λa ha=>?_⟩;rcases ej.1 ha with rfl|ha
    . exact g2
    . exact(Cl.kept (hA a (cO _ ha)) k).1 (h2 a ha)
  . have:=h.il;have:(add s x).aB.length<=s.aB.length+1:=hl.2;simp only[cJ];show(cw (add s x) r).2.aB.length<=_;omega
  . have:=h.kl;have:(add s x).aA.length=s.aA.length:=rfl;simp only[cJ];show(cw (add s x) r).2.aA.length<=_;omega
  . have:=h.sl;have:(add s x).aU.length=s.aU.length:=rfl;simp only[cJ];show(cw (add s x) r).2.aU.length<=_;omega
 |.put g us::r,s,hI,hA,hg,hB=>by
  obtain⟨hp,hs,hd⟩:gT K s g us/\od s g us/\dl (dv g)<=4:=hA _ cX;have k:=Eg s g us;have hgb:GB M g:=hB (.put g us) cX;have hg':∀z∈(put s g us).2.aB,GB M z.g:=λz hz=>by
   have hi:=HT s g us;unfold put at hz;dsimp only at hz;split at hz
   . rcases mv hz with e|hz
     . subst e;exact O8 (dY (ra g)) hgb
     . rw[hi]at hz;exact hg z hz
   . rw[hi]at hz;exact hg z hz
  have hkl:(put s g us).2.aA.length<=s.aA.length+1:=by
   obtain⟨e,he,hel⟩:=Cu s g us;rw[he];simp;omega
  have hsl:(put s g us).2.aU.length<=s.aU.length+1:=by
   have:(put s g us).2.aU=(dst s g us).aU:=by unfold put;dsimp only;split<;>rfl
   rw[this];unfold dst;split<;>simp
  have hil:(put s g us).2.aB.length<=s.aB.length+1:=by
   have hi:=HT s g us;unfold put;dsimp only;split
   . have:=uS (kn:=(dst s g us).aA) (x:=lK s g us) (l:=(dst s g us).aB);show(eL _ _ _).length<=_;rw[hi]at this⊢;exact this.2
   . rw[hi];omega
  by_cases hok:(put s g us).1=true
  . have h:=va r (put s g us).2 (hI.put hp hs) (λa ha=>(hA a (cO _ ha)).kept k) hg' λa ha=>hB a (cO _ ha);have e:cw s (.put g us::r)=cw (put s g us).2 r:=by show(if _ then _ else _)=_;rw[bD hok]
    rw[e];refine⟨k.trans h.kept,h.inv,λhok' y hy=>?_,λhb=>by have:=h.bad hb;rwa[k.n]at this,?_,?_,?_,h.gb,λbase hD=>?_⟩
    . obtain⟨h1,h2⟩:=h.imp hok' y hy;obtain⟨g1,g2⟩:=QY hI hp hs hok h1;refine⟨g1,λa ha=>?_⟩;rcases ej.1 ha with rfl|ha
      . exact g2
      . exact(Cl.kept (hA a (cO _ ha)) k).1 (h2 a ha)
    . have:=h.il;simp only[cJ];omega
    . have:=h.kl;simp only[cJ];omega
    . have:=h.sl;simp only[cJ];omega
    . have:=h.jE base (by rw[k.n];exact Mk hI rfl hp hs hd hD);rwa[k.n]at this
  . have e:cw s (.put g us::r)=(false,(put s g us).2):=by show(if _ then _ else _)=_;rw[aY hok]
    rw[e];refine⟨k,hI.put hp hs,λh=>(by cases h),λ_=>Vp hI hp hs (by simpa using hok),?_,?_,?_,hg',λbase hD=>Mk hI rfl hp hs hd hD⟩
    . simp only[cJ];omega
    . simp only[cJ];omega
    . simp only[cJ];omega
open Go Go.X
def bJ(s:St)(k:Nat):AI:=s.aB.getD k ⟨0,[]⟩
theorem mP{s:St}{k:Nat}(h:k<s.aB.length):bJ s k=s.aB[k]:=by unfold bJ;rw[cN,cy h];rfl
theorem iA{s:St}{k:Nat}(h:k<s.aB.length):bJ s k∈s.aB:=by rw[mP h];exact dJ h
theorem ta{s:St}{k:Nat}(h:k<s.aB.length):idx s.to.aB (k:Int)=some (bJ s k).to:=by
 show idx (s.aB.map AI.to) _=_;rw[dA (by simpa using h),lG,mP h]
def eN(s:St)(i p:Nat):St:={s with aN:=s.aN.set p 1,value:=s.value.set p (aH s.aA (bJ s i).pos).b,aB:=[]}
def j5(s:St)(i j p k:Nat):List Act:= if k=i\/k=j then[]else if vf (bJ s k).g p=0 then[.add (bJ s k)] else[.put ((bJ s k).g.set p 0) [⟨(bJ s k).pos,1⟩,if vf (bJ s k).g p<0 then⟨(bJ s i).pos,-vf (bJ s k).g p⟩else⟨(bJ s j).pos,vf (bJ s k).g p⟩]]
def eJ(s:St)(i j p k:Nat):List Act:=((List.range s.aB.length).drop k).flatMap (j5 s i j p)
theorem Ld{s:St}{i j p k:Nat}(h:k<s.aB.length):eJ s i j p k=j5 s i j p k++eJ s i j p (k+1):=by
 unfold eJ;rw[fJ (by simpa using h),Dh,List.getElem_range]
theorem Kx{s:St}{i j p:Nat}:eJ s i j p s.aB.length=[]:=by unfold eJ;rw[C9 (by simp)];rfl
theorem Mw{s:St}{i j p k:Nat}:(j5 s i j p k).length<=1:=by unfold j5;(repeat' split)<;>simp
theorem Gb{s:St}{i j p:Nat}:∀(m k:Nat),k+m=s.aB.length->(eJ s i j p k).length<=m
  | 0, k, h => by obtain rfl : k = s.aB.length := by omega
                  rw[Kx];simp
  |m+1,k,h=>by
    rw[Ld (s:=s) (by omega),di];have:=Gb (s:=s) (i:=i) (j:=j) (p:=p) m (k+1) (by omega);have:=Mw (s:=s) (i:=i) (j:=j) (p:=p) (k:=k);omega
theorem U1{s:St}{i j p:Nat}{a:Act}(h:a∈eJ s i j p 0):∃k,k<s.aB.length/\k≠i/\k≠j/\j5 s i j p k=[a]:=by
 unfold eJ at h;rw[lC,wS]at h;obtain⟨k,hk,ha⟩:=h;have hk:k<s.aB.length:=by simpa using hk
 have hl:=Mw (s:=s) (i:=i) (j:=j) (p:=p) (k:=k);refine⟨k,hk,?_,?_,?_⟩
 . rintro rfl;unfold j5 at ha;simp at ha
 . rintro rfl;unfold j5 at ha;simp at ha
 . match he:j5 s i j p k,hl,ha with
   |[b],_,ha=>rw[cG.1 ha]
   |[],_,ha=>cases ha
theorem CF{s:St}{i j p k:Nat}(hk:k<s.aB.length){a:Act}(h:a∈j5 s i j p k):a∈eJ s i j p 0:=by
 unfold eJ;rw[lC,wS];exact⟨k,by simpa using hk,h⟩
theorem Ri{l:List Int}{p n:Nat}{y:Nat->Int}(hl:l.length=n)(hp:p<n):bK (vf (l.set p 0)) y n=bK (vf l) y n-vf l p*y p:=by
  have h:=tM (f:=y) (y:=vf l) (z:=0) (v:=p) hp;rw[kT (f:=vf l),kT (f:=vf (l.set p 0))]
  rw [eF (f := y) (f' := y) (g := vf (l.set p 0)) (g' := cS (vf l) p 0) (λ_ _ => rfl) (λj hj => by rw [jZ (by omega)]; unfold cS; by_cases e : p = j
                                                                                                   . rw[bD e,bD e.symm]
                                                                                                   . rw[aY e,aY λh=>e h.symm]),h]
  grind
section
variable {K C Kk:Nat} {s s1:St} {i j p:Nat}
structure sW (s:St)(i j:Nat):Prop where
 il:i<s.aB.length
 jl:j<s.aB.length
 ne:i≠j
 g:∀k,k<s.n->vf (bJ s j).g k=-vf (bJ s i).g k
 b:(aH s.aA (bJ s i).pos).b+(aH s.aA (bJ s j).pos).b=0
theorem oy(h:mG K C s i p s1)(k:Nat)(hk:k<s.aB.length):k<s1.aB.length/\(bJ s1 k).pos=(bJ s k).pos:=by
 have hl:s1.aB.length=s.aB.length:=by have:=dz List.length h.pos;simpa using this
 have hk1:k<s1.aB.length:=by omega
 refine⟨hk1,?_⟩;rw[mP hk1,mP hk];have:=dz (λl:List Nat=>l[k]?) h.pos;simp only[ij,cy hk1,cy hk,o6,ud]at this;exact this
theorem MQ(h:mG K C s i p s1):s1.aB.length=s.aB.length:=by have:=dz List.length h.pos;simpa using this
theorem BD(h:mG K C s i p s1)(he:sW s i j):∀k,k<s.n->vf (bJ s1 i).g k=if k=p then 1 else 0:=by
 have hi:=(oy h i he.il).1;exact h.unit _ (by rw[cy hi,mP hi])
theorem G0(hI:Inv s)(h:mG K C s i p s1)(he:sW s i j):∀k,k<s.n->vf (bJ s1 j).g k=if k=p then-1 else 0:=by
 intro k hk;obtain⟨hj,hjp⟩:=oy h j he.jl;obtain⟨hi,hip⟩:=oy h i he.il;obtain⟨w,hw⟩:=hI.kA;have hc:∀m,m<s.n->vf (aH s.aA (bJ s j).pos).c m=0+-1*vf (aH s.aA (bJ s i).pos).c m:=λm hm=>by
  rw[BR hw hm,BR hw hm,<-qi,Db];refine eF (λr hr=>?_) λ_ _=>rfl;rw[<-hI.dH _ (iA he.jl) r hr,<-hI.dH _ (iA he.il) r hr,he.g r hr];omega
 have h1:=h.inv.dH _ (iA hj) k (by rw[h.n];exact hk);have h2:=h.inv.dH _ (iA hi) k (by rw[h.n];exact hk);rw[hjp,h.kn,h.n]at h1;rw[hip,h.kn,h.n]at h2;have h3:cu s1.u s.n (aH s.aA (bJ s j).pos).c k=-1*cu s1.u s.n (aH s.aA (bJ s i).pos).c k:=CL λm hm=>by rw[hc m hm];omega
 rw[h1,h3,<-h2,BD h he k hk];split<;>omega
theorem OW{C:Nat}(hC:C<=4294967296):C+90*(4*(C*C))<340282366920938463463374607431768211456:=by
 have h1:C*C<=4294967296*4294967296:=j7 hC hC;omega
theorem AD{v:Int}(h:v.natAbs<340282366920938463463374607431768211456):dl v<=4:=p7 (by
 have:aE^4=340282366920938463463374607431768211456:=by decide
 omega)
theorem Bj(hn:s.n<=4)(hC:C<=4294967296)(h:mG K C s i p s1){x:AI}(hx:x∈s1.aB):∀v∈x.g,dl v<=4:=λv hv=>by
 obtain⟨k,hk,rfl⟩:=gC hv;have:=h.big x hx k (by rw[(h.inv.it x hx).2,h.n]at hk;exact hk);exact AD (C4 this (OW hC))
theorem MO(hI:Inv s)(hs:gJ Kk s)(hn:s.n<=4)(hC:C<=4294967296)(h:mG K C s i p s1)(he:sW s i j):
 ∀a∈eJ s1 i j p 0,(mc Kk (eN s1 i p) a/\xF (4*(C*C)) a)/\nu Kk (eN s1 i p) a:=by
 intro a ha;obtain⟨k,hk,hki,hkj,hke⟩:=U1 ha;have hkm:=iA hk;obtain⟨k1,k2⟩:=h.inv.it _ hkm;have hp1:p<s1.n:=by rw[h.n];exact h.pn
 have hn1:=h.n;have hvs:∀m,vf ((bJ s1 k).g.set p 0) m=if p=m then 0 else vf (bJ s1 k).g m:=λm=>jZ (by omega);have hstat:∀m,m<s1.n->vf (s1.aN.set p 1) m≠0->m=p\/vf s1.aN m≠0:=λm hm hst=>by
  rw[jZ (by rw[h.inv.gw];exact hp1)]at hst;by_cases e:p=m
  . exact .inl e.symm
  . rw[aY e]at hst;exact .inr hst
 unfold j5 at hke;rw[aY (by omega)]at hke;split at hke
 . rename_i hc;obtain rfl:=(wP hke).1;refine⟨⟨⟨k1,k2,λv hv=>bU (Bj hn hC h hkm v hv) (by decide)⟩,λv hv=>?_⟩,⟨k1,k2,h.inv.dH _ hkm,λm hm hst=>?_,h.inv.gM _ hkm⟩⟩
   . obtain⟨m,hm,rfl⟩:=gC hv;by_cases e:m=p
     . subst e;rw[hc];simp
     . exact h.co _ hkm m (by omega) e
   . rcases hstat m hm hst with rfl|hst
     . exact hc
     . exact h.inv.nf _ hkm m hm hst
 . rename_i hc;obtain rfl:=(wP hke).1;obtain⟨hi,hip⟩:=oy h i he.il;obtain⟨hj,hjp⟩:=oy h j he.jl;have hkn:(eN s1 i p).aA=s.aA:=h.kn;have hq:∀m,m<s1.aB.length->mO s1.n Kk s1.aA ⟨(bJ s1 m).pos,1⟩:=λm hm=>by
    have h1:=(h.inv.it _ (iA hm)).1;have h2:=hs.k (aH s1.aA (bJ s1 m).pos) (by rw[<-h.kn];exact fg h1);exact⟨h1,HD 1,bU jL (by decide),h2.1,h2.2.trans h.n.symm⟩
   have hcdl:dl (vf (bJ s1 k).g p)<=4:=Bj hn hC h hkm _ (gz (by omega));have hu2:mO s1.n Kk s1.aA (if vf (bJ s1 k).g p<0 then⟨(bJ s1 i).pos,-vf (bJ s1 k).g p⟩else⟨(bJ s1 j).pos,vf (bJ s1 k).g p⟩):=by
    split
    . obtain⟨g1,g2,g3,g4,g5⟩:=hq i hi;exact⟨g1,by dsimp only;omega,by dsimp only;rw[gx];exact hcdl,g4,g5⟩
    . obtain⟨g1,g2,g3,g4,g5⟩:=hq j hj;exact⟨g1,by dsimp only;omega,hcdl,g4,g5⟩
   have hg8:∀v∈(bJ s1 k).g.set p 0,dl v<=8:=λv hv=>by
    rcases qp hv with hv|rfl
    . exact bU (Bj hn hC h hkm v hv) (by decide)
    . rw[iq];omega
   have hP:gT Kk (eN s1 i p) ((bJ s1 k).g.set p 0) [⟨(bJ s1 k).pos,1⟩,if vf (bJ s1 k).g p<0 then⟨(bJ s1 i).pos,-vf (bJ s1 k).g p⟩else⟨(bJ s1 j).pos,vf (bJ s1 k).g p⟩]:=
    ⟨by rw[iK];exact k2,hg8,by simp,by simp,λu hu=>by
     rcases ej.1 hu with rfl|hu
     . exact hq k hk
     . rw[cG.1 hu];exact hu2⟩
   have hgb:GB (4*(C*C)) ((bJ s1 k).g.set p 0):=λv hv=>by
    obtain⟨m,hm,rfl⟩:=gC hv;rw[iK]at hm;rw[hvs m];split
    . simp
    . rename_i e;exact h.co _ hkm m (by omega) λe'=>e e'.symm
   refine⟨⟨hP,hgb⟩,hP,⟨λm hm=>?_,λm hm hst=>?_⟩,?_⟩
   . have hm:m<s1.n:=hm;rw[hvs m];have hup:=BD h he m (by omega);have hdn:=G0 hI h he m (by omega);have r0:=h.inv.dH _ hkm m hm;have r1:=h.inv.dH _ (iA hi) m hm;have r2:=h.inv.dH _ (iA hj) m hm;show _=cu s1.u s1.n (vec s1.n (eG s1.aA _)) m;by_cases hneg:vf (bJ s1 k).g p<0
     . rw[bD hneg];have e:cu s1.u s1.n (vec s1.n (eG s1.aA [⟨(bJ s1 k).pos,1⟩,⟨(bJ s1 i).pos,-vf (bJ s1 k).g p⟩])) m=cu s1.u s1.n (aH s1.aA (bJ s1 k).pos).c m+(-vf (bJ s1 k).g p)*cu s1.u s1.n (aH s1.aA (bJ s1 i).pos).c m:=Bp λr hr=>by
        rw[dF hr];show 1*_+(_+0)=_;dsimp only;omega
       rw[e,<-r0,<-r1,hup];by_cases e2:p=m
       . subst e2;rw[bD rfl,bD rfl];omega
       . rw[aY e2,aY λh=>e2 h.symm];omega
     . rw[aY hneg];have e:cu s1.u s1.n (vec s1.n (eG s1.aA [⟨(bJ s1 k).pos,1⟩,⟨(bJ s1 j).pos,vf (bJ s1 k).g p⟩])) m=cu s1.u s1.n (aH s1.aA (bJ s1 k).pos).c m+(vf (bJ s1 k).g p)*cu s1.u s1.n (aH s1.aA (bJ s1 j).pos).c m:=Bp λr hr=>by
        rw[dF hr];show 1*_+(_+0)=_;dsimp only;omega
       rw[e,<-r0,<-r2,hdn];by_cases e2:p=m
       . subst e2;rw[bD rfl,bD rfl];omega
       . rw[aY e2,aY λh=>e2 h.symm];omega
   . have hm:m<s1.n:=hm;rw[hvs m];rcases hstat m hm hst with rfl|hst
     . rw[bD rfl]
     . split
       . rfl
       . exact h.inv.nf _ hkm m hm hst
   . unfold dv;split
     . exact bU jL (by decide)
     . exact vu λv hv=>by
        have:=hgb v hv;refine AD (C4 this ?_);have h1:C*C<=4294967296*4294967296:=j7 hC hC;omega
theorem PT(hI:Inv s)(h:mG K C s i p s1):Inv (eN s1 i p)where
 ul:=h.inv.ul
 gw:=by show(s1.aN.set p 1).length=_;rw[iK];exact h.inv.gw
 vl:=by show(s1.value.set p _).length=_;rw[iK];exact h.inv.vl
 kl:=h.inv.kl
 it x hx:=by cases hx
 dH x hx:=by cases hx
 nf x hx:=by cases hx
 gM x hx:=by cases hx
 kP:=List.Pairwise.nil
 kA:=h.inv.kA
 stat m hm:=by
  show vf (s1.aN.set p 1) m=0\/vf (s1.aN.set p 1) m=1\/vf (s1.aN.set p 1) m=2;rw[jZ (by rw[h.inv.gw,h.n];exact h.pn)];split
  . exact .inr (.inl rfl)
  . exact h.inv.stat m hm
 sv e he:=by
  obtain⟨e1,e2,e3⟩:=h.inv.sv e he;refine⟨e1,?_,e3⟩;show vf (s1.aN.set p 1) e.v=2;rw[jZ (by rw[h.inv.gw,h.n];exact h.pn),aY]
  . exact e2
  . intro e';have:=h.free;rw[h.aN]at e2;rw[e',e2]at this;omega
 s2 m hm hst:=by
  have hst:vf (s1.aN.set p 1) m=2:=hst;rw[jZ (by rw[h.inv.gw,h.n];exact h.pn)]at hst;split at hst
  . omega
  . exact h.inv.s2 m hm hst
 sd:=h.inv.sd
theorem RJ(hI:Inv s)(h:mG K C s i p s1)(he:sW s i j){M:Nat}{s3:St}(hA:xV Kk M (eN s1 i p) (eJ s1 i j p 0) true s3)(hL:∀a∈eJ s1 i j p 0,nu Kk (eN s1 i p) a):ik s s3:=by
 refine h.sim.trans ?_;have hp1:p<s1.n:=by rw[h.n];exact h.pn
 obtain⟨e,hek⟩:=hA.kept.kn;have hst:∀m,vf s3.aN m=if p=m then 1 else vf s1.aN m:=λm=>by
  rw[hA.kept.aN];exact jZ (by rw[h.inv.gw];exact hp1)
 have hva:∀m,vf s3.value m=if p=m then(aH s1.aA (bJ s1 i).pos).b else vf s1.value m:=λm=>by
  rw[hA.kept.value];exact jZ (by rw[h.inv.vl];exact hp1)
 have hfree:vf s1.aN p=0:=by rw[h.aN];exact h.free
 have hn3:s3.n=s1.n:=hA.kept.n;have hux:∀y i,ux s3 y i=ux s1 y i:=λy i=>by unfold ux;rw[hA.kept.u,hn3];rfl
 refine⟨hn3,⟨e,hek⟩,⟨[],by rw[hA.kept.ed];simp[eN]⟩,λm hm hs=>?_,λy=>⟨y,λi _=>hux y i,λ_ _ _=>rfl,λk hk ⟨h1,h2,h3⟩=>?_⟩⟩
 . have hpm:p≠m:=λe=>hs (by rw[<-e];exact hfree);exact⟨by rw[hst,aY hpm],λ_=>by rw[hva,aY hpm],λi _=>by rw[hA.kept.u];rfl⟩
 . obtain⟨_,hcl⟩:=hA.imp rfl y h2;have hyp:y p=(aH s1.aA (bJ s1 i).pos).b:=by
    have:=h1 p (by rw[hn3];exact hp1) (by rw[hst,bD rfl]);rw[hva,bD rfl]at this;exact this
   obtain⟨hi,hip⟩:=oy h i he.il;obtain⟨hj,hjp⟩:=oy h j he.jl;have hbj:(aH s1.aA (bJ s1 j).pos).b=-(aH s1.aA (bJ s1 i).pos).b:=by
    have:=he.b;rw[hjp,hip,h.kn];omega
   refine⟨λm hm hs=>?_,λx hx=>?_,λe' he' q hq=>?_⟩
   . have hpm:p≠m:=λe=>by rw[<-e,hfree]at hs;omega
     have:=h1 m (by rw[hn3];exact hm) (by rw[hst,aY hpm];exact hs);rw[hva,aY hpm]at this;exact this
   . obtain⟨k',hk',rfl⟩:=nU hx;rw[<-mP hk'];unfold IH;by_cases e1:k'=i
     . subst e1;rw[oq hp1 λm hm hmp=>by rw[BD h he m (by rw[<-h.n];exact hm),aY hmp],BD h he p h.pn,bD rfl,hyp];omega
     by_cases e2:k'=j
     . subst e2;rw[oq hp1 λm hm hmp=>by rw[G0 hI h he m (by rw[<-h.n];exact hm),aY hmp],G0 hI h he p h.pn,bD rfl,hyp,hbj];omega
     by_cases hc:vf (bJ s1 k').g p=0
     . have:=hcl (.add (bJ s1 k')) (CF hk' (by unfold j5;rw[aY (by omega),bD hc];simp));exact this
     . have:=hcl _ (CF (a:=.put ((bJ s1 k').g.set p 0) [⟨(bJ s1 k').pos,1⟩,if vf (bJ s1 k').g p<0 then⟨(bJ s1 i).pos,-vf (bJ s1 k').g p⟩else⟨(bJ s1 j).pos,vf (bJ s1 k').g p⟩]) hk' (by unfold j5;rw[aY (by omega),aY hc];simp));have this:bK (vf ((bJ s1 k').g.set p 0)) y s1.n<=1*(aH s1.aA (bJ s1 k').pos).b+(_+0):=this;rw[Ri (h.inv.it _ (iA hk')).2 hp1,hyp]at this;generalize hcv:vf (bJ s1 k').g p=c at*;by_cases hneg:c<0
       . rw[bD hneg]at this;dsimp only at this;rw[show(eN s1 i p).aA=s1.aA from rfl,show-c*(aH s1.aA (bJ s1 i).pos).b=-(c*(aH s1.aA (bJ s1 i).pos).b) by rw[lH]]at this;omega
       . rw[aY hneg]at this;dsimp only at this;rw[show(eN s1 i p).aA=s1.aA from rfl,hbj,show c*-(aH s1.aA (bJ s1 i).pos).b=-(c*(aH s1.aA (bJ s1 i).pos).b) by rw[lJ]]at this;omega
   . have h4:=h3 e' (by rw[hA.kept.ed];exact he') q hq;exact(so hn3 hek ((h.inv.sv e' (Hm he')).2.2 q hq) λi _=>hux y i).1 h4
end
end Go.D
set_option maxHeartbeats 1000000
namespace Go.D
open Go Go.X
theorem Bd{l:List Int}{k:Nat}(h:k<l.length):idx l (k:Int)=some (vf l k):=by rw[dA h,oG h]
theorem Qe{K C Kk:Nat}{s:St}{i j:Nat}(hI:Inv s)(hs:gJ Kk s)(hu:SU K s)(hn:s.n<=4)(he:sW s i j)(hC:∀x∈s.aB,∀k,k<s.n->(vf x.g k).natAbs<=C)(hCb:C<=4294967296)(hK8:8<=K)(hK:K+900<=dh)
 (hkl:s.aA.length+s.aB.length<=1073741824)(hsl:s.aU.length+s.aB.length<=1073741824)(hKk:Kk+6<=1099511627000):
 Tm (λN=>tJ N s.to (i:Int) (j:Int)) (λr=>∃(p:Nat) (s1:St),mG K C s i p s1/\r=((cw (eN s1 i p) (eJ s1 i j p 0)).1,(cw (eN s1 i p) (eJ s1 i j p 0)).2.to)):=by
 have hL:dh=1099511627776:=rfl;have hil:=hs.il;unfold tJ;refine Tm.bind (RO hI hu hn hs.il he.il hC hCb hK8 hK) ?_;rintro _ ⟨p,s1,rfl,hP⟩;obtain⟨hi,hip⟩:=oy hP i he.il;obtain⟨hj,hjp⟩:=oy hP j he.jl;have hn1:=hP.n;have hlen:=MQ hP;have hp1:p<s1.n:=by rw[hP.n];exact hP.pn
 have hkn:=hP.kn;dsimp only;refine aL (ta hi) (aL (ta hj) ?_);rw[vQ hn1.symm];refine aV (sN (hP.inv.it _ (iA hi)).1) ?_;refine aL (Bd (l:=s1.aN) (by rw[hP.inv.gw];exact hp1)) (aL (eE (xs:=s1.aN) rfl (by rw[hP.inv.gw];exact hp1)) ?_);refine aL (eD (l:=s1.value) (by rw[hP.inv.vl];exact hp1)) (aL (eE (xs:=mB s1.value) rfl (by rw[dT,hP.inv.vl];exact hp1)) ?_);have hok2:gJ (Kk+6) (eN s1 i p):=⟨by show s1.n<=_;omega,by show s1.aA.length<=_;rw[hkn];exact hs.kl,by show s1.aU.length<=_;rw[hP.st];exact hs.sl,by simp[eN],λq hq=>by
  have hq:q∈s1.aA:=hq;rw[hkn]at hq;exact⟨(hs.k q hq).1.mono (by omega),by rw[(hs.k q hq).2];exact hn1.symm⟩,λx hx=>(by cases hx),hKk⟩
 have hLl:=Gb (s:=s1) (i:=i) (j:=j) (p:=p) s1.aB.length 0 (by omega);have hroom:jJ (eJ s1 i j p 0).length (eN s1 i p):=⟨by show s1.aA.length+_<=_;rw[hkn];omega,by show s1.aU.length+_<=_;rw[hP.st];omega,by show 0+_<=_;omega⟩;have hA:=MO hI hs hn hCb hP he;have hmi:s1.to.aB.length=s1.aB.length:=cT ..;refine Tm.bind (Q:=λr=>(∃s',r=.inl (jf s')/\cw (eN s1 i p) (eJ s1 i j p 0)=(true,s')/\s'.n=s1.n)\/r=.inr ((cw (eN s1 i p) (eJ s1 i j p 0)).1,(cw (eN s1 i p) (eJ s1 i j p 0)).2.to))
  (e9 s1.aB.length (λk t=>∃s' k',iS (Kk+6) (eN s1 i p) (eJ s1 i j p 0) k' s'/\(eJ s1 i j p 0).drop k'=eJ s1 i j p k/\t=(s'.to.aA,s'.to.aU,s'.to.u,s'.to.aN,s'.to.value,s'.to.aB,s'.to.aK,(k:Int))) ⟨eN s1 i p,0,iS.first hok2 hroom,rfl,?_⟩ ?_) ?_
 . show(s1.to.aA,s1.to.aU,s1.to.u,s1.aN.set p 1,(mB s1.value).set p _,[],s1.to.aK,(0:Int))=_;rw[sV];rfl
 . rintro k hk _ ⟨s',k',hv,hd,rfl⟩;dsimp only[D8];refine bA (λhlt=>?_) (λhge=>aI ?_)
   . have hlt:k<s1.aB.length:=by omega
     have hstp:=Ld (i:=i) (j:=j) (p:=p) hlt;have hxg:=(hP.inv.it _ (iA hlt)).2;have hcd:dl (vf (bJ s1 k).g p)<=4:=Bj hn hCb hP (iA hlt) _ (gz (by omega));have hns:s.to.n=s'.to.n:=by show(s.n:Int)=s'.n;rw[hv.n];show(s.n:Int)=s1.n;rw[hn1]
     refine Tm.bind (Q:=λr=>(∃s'' k'',r=.inl (jf s'')/\iS (Kk+6) (eN s1 i p) (eJ s1 i j p 0) k'' s''/\(eJ s1 i j p 0).drop k''=eJ s1 i j p (k+1))\/r=.inr ((cw (eN s1 i p) (eJ s1 i j p 0)).1,(cw (eN s1 i p) (eJ s1 i j p 0)).2.to)) (aL (ta hlt) (Tm.bind (Q:=λc=>c=decide (k=i\/k=j)) (bA (λh=>aI ?_) (λh=>aI ?_)) ?_)) ?_
     . rw[iM];omega
     . apply decide_eq_decide.2;omega
     . rintro _ rfl;refine bA (λh=>aI (.inl ⟨s',k',rfl,hv,?_⟩)) (λh=>?_)
       . rw[hd,hstp];unfold j5;rw[bD (iL h)];rfl
       have hne:¬(k=i\/k=j):=λe=>h (iM e);refine aL (eD (l:=(bJ s1 k).g) (by omega)) (aV (jK (by omega)) (bA (λh0=>?_) (λh0=>?_)))
       . have h0:vf (bJ s1 k).g p=0:=ji λe=>py.2 e h0;have ha:j5 s1 i j p k=[.add (bJ s1 k)]:=by unfold j5;rw[aY hne,bD h0]
         rw[ha]at hstp;have hk'l:k'<(eJ s1 i j p 0).length:=by
          rcases cH k' (eJ s1 i j p 0).length with h1|h1
          . exact h1
          . rw[C9 h1,hstp]at hd;cases hd
         rw[fJ hk'l,hstp]at hd;obtain⟨hd1,hd2⟩:=wP hd;obtain⟨g1,g2⟩:=hv.add hk'l hd1 (K0:=Kk) (hA _ (CF hlt (by rw[ha];simp))).1.1;rw[jc (x:=s'.to) hns];refine aV (vj hv.ok g1) (aI (.inl ⟨add s' (bJ s1 k),k'+1,rfl,g2,hd2⟩))
       . have h0:vf (bJ s1 k).g p≠0:=py.1 h0;refine aV (BF (by omega)) (aL (eD (l:=(bJ s1 k).g) (by omega)) (aL (eE (xs:=mB (bJ s1 k).g) rfl (by rw[dT];omega)) (aV (jK (by omega)) ?_)));have hset:(mB (bJ s1 k).g).set p ⟨false,[]⟩=mB ((bJ s1 k).g.set p 0):=by rw[<-sV,B0]
         rw[hset];have ha:j5 s1 i j p k=[.put ((bJ s1 k).g.set p 0) [⟨(bJ s1 k).pos,1⟩,if vf (bJ s1 k).g p<0 then⟨(bJ s1 i).pos,-vf (bJ s1 k).g p⟩else⟨(bJ s1 j).pos,vf (bJ s1 k).g p⟩]]:=by unfold j5;rw[aY hne,aY h0]
         refine aV (a:=(if vf (bJ s1 k).g p<0 then(⟨(bJ s1 i).pos,-vf (bJ s1 k).g p⟩:AU)else⟨(bJ s1 j).pos,vf (bJ s1 k).g p⟩).to) (bA (λh1=>?_) (λh1=>aI ?_)) ?_
         . rw[bD (oN.1 h1)];exact aV (ou (by omega)) (aI rfl)
         . rw[aY λe=>h1 (oN.2 e)];rfl
         rw[ha]at hstp;have hk'l:k'<(eJ s1 i j p 0).length:=by
          rcases cH k' (eJ s1 i j p 0).length with h1|h1
          . exact h1
          . rw[C9 h1,hstp]at hd;cases hd
         rw[fJ hk'l,hstp]at hd;obtain⟨hd1,hd2⟩:=wP hd;obtain⟨g1,g2,g3,g4⟩:=hv.put hk'l hd1 (K0:=Kk) (hA _ (CF hlt (by rw[ha];simp))).1.1 (by omega);refine aV (iO (by decide) (by decide)) ?_;rw[jc (x:=s'.to) hns];refine aV g1 ?_;have hns2:s.to.n=(put s' ((bJ s1 k).g.set p 0) [⟨(bJ s1 k).pos,1⟩,if vf (bJ s1 k).g p<0 then⟨(bJ s1 i).pos,-vf (bJ s1 k).g p⟩else⟨(bJ s1 j).pos,vf (bJ s1 k).g p⟩]).2.to.n:=by
          show(s.n:Int)=((put s' _ _).2.n:Int);rw[g4];show(s.n:Int)=s1.n;rw[hn1]
         refine bA (λhf=>aI (.inr ?_)) (λht=>aI (.inl ⟨_,k'+1,rfl,g2 (by simpa using ht),hd2⟩));dsimp only;rw[jc hns2,g3 (by simpa using hf)]
     . rintro r (⟨s'',k'',rfl,h1,h2⟩|rfl)
       . exact aI ⟨hlt,s'',k'',h1,h2,by rw[eK (by omega)]⟩
       . exact aI (.inr rfl)
   . have:k=s1.aB.length:=by omega
     subst this;rw[Kx]at hd;refine .inl ⟨s',rfl,?_,hv.n⟩;rw[hv.run,hd];rfl
 . rintro r (⟨s',rfl,h1,h2⟩|rfl)
   . refine aI ⟨p,s1,hP,?_⟩;show(true,aS.mk s.to.n s'.to.aA s'.to.aU s'.to.u s'.to.aN s'.to.value s'.to.aB s'.to.aK)=_;rw[vQ (h2.trans hn1).symm,h1]
   . exact aI ⟨p,s1,hP,rfl⟩
theorem Dl{K V:Type}[DecidableEq K]{k k':K}{v z:V}:∀{m:List (K×V)},fU (kN m k v) k' z=if k=k' then(v,true)else fU m k' z
 |[]=>by simp only[kN,fU]
 |p::m=>by
  simp only[kN];by_cases e:p.1=k
  . rw[bD e];simp only[fU];by_cases e2:k=k'
    . rw[bD e2,bD e2]
    . rw[aY e2,aY e2,aY (by rw[e];exact e2)]
  . rw[aY e];simp only[fU];by_cases e2:p.1=k'
    . rw[bD e2];by_cases e3:k=k'
      . exact bV (e2.trans e3.symm) e
      . rw[aY e3,bD e2]
    . rw[aY e2,Dl];by_cases e3:k=k'
      . rw[bD e3,bD e3]
      . rw[aY e3,aY e3,aY e2]
inductive vP (K:Nat)(s:St):Int×Int×Bool×Bool×aS->Prop where
 |none (h:∀i j,i<s.aB.length->j<s.aB.length->(∀k,k<s.n->vf (bJ s j).g k=-vf (bJ s i).g k)->0<(aH s.aA (bJ s i).pos).b+(aH s.aA (bJ s j).pos).b):vP K s (0,0,false,true,s.to)
 |some (i j:Nat) (h:sW s i j):vP K s (i,j,true,true,s.to)
 |bad (s':St) (L:List Act) (hL:∀a∈L,nu K s a) (hO:∀a∈L,mc K s a) (hB:∀a∈L,xF 0 a) (hl:L.length<=1) (hb:cw s L=(false,s')):vP K s (0,0,false,false,s'.to)
theorem wZ{n:Nat}:(List.replicate n (0:Int))=vec n λ_=>0:=by
 apply qv (by simp[vec]);intro i h1 h2;simp[vec]
theorem Jf:∀m,dC (List.replicate m (0:Int))=0
 |0=>rfl
 |m+1=>by rw[zo];show Int.gcd 0 (dC _:Nat)=0;rw[Jf m];rfl
theorem PQ{Kk:Nat}{s:St}(hI:Inv s)(hKq:∀q∈s.aA,fW Kk q){k o:Nat}(hlt:k<s.aB.length)(ho:o<s.aB.length)(hog:(bJ s o).g=cv (bJ s k).g)(hlt0:(aH s.aA (bJ s k).pos).b+(aH s.aA (bJ s o).pos).b<0):
 nu Kk s (.put (List.replicate s.n 0) [⟨(bJ s k).pos,1⟩,⟨(bJ s o).pos,1⟩])/\cw s [.put (List.replicate s.n 0) [⟨(bJ s k).pos,1⟩,⟨(bJ s o).pos,1⟩]]=(false,(put s (List.replicate s.n 0) [⟨(bJ s k).pos,1⟩,⟨(bJ s o).pos,1⟩]).2):=by
 have hUO:∀m,m<s.aB.length->mO s.n Kk s.aA ⟨(bJ s m).pos,1⟩:=λm hm=>by
  have h1:=(hI.it _ (iA hm)).1;exact⟨h1,HD 1,bU jL (by decide),hKq _ (fg h1),hI.kl _ (fg h1)⟩
 have hP:gT Kk s (List.replicate s.n 0) [⟨(bJ s k).pos,1⟩,⟨(bJ s o).pos,1⟩]:=⟨by simp,λv hv=>by rw[(zr.1 hv).2,iq];omega,by simp,by simp,λu hu=>by
  rcases ej.1 hu with rfl|hu
  . exact hUO k hlt
  . rw[cG.1 hu];exact hUO o ho⟩
 have hz:∀j,j<s.n->vf (List.replicate s.n (0:Int)) j=0:=λj hj=>by rw[wZ,dF hj]
 have hgc:dC (List.replicate s.n (0:Int))=0:=Jf _;have hdv:dv (List.replicate s.n (0:Int))=1:=by unfold dv;rw[bD hgc]
 have hPS:od s (List.replicate s.n 0) [⟨(bJ s k).pos,1⟩,⟨(bJ s o).pos,1⟩]:=⟨λj hj=>by
  rw[hz j hj];have e:CM s [⟨(bJ s k).pos,1⟩,⟨(bJ s o).pos,1⟩] j=cu s.u s.n (aH s.aA (bJ s k).pos).c j+1*cu s.u s.n (aH s.aA (bJ s o).pos).c j:=Bp λr hr=>by
   rw[dF hr];show 1*_+(1*_+0)=_;dsimp only;omega
  rw[e,<-hI.dH _ (iA hlt) j hj,<-hI.dH _ (iA ho) j hj,hog,jb];omega,λj hj _=>hz j hj⟩
 have hdok:(put s (List.replicate s.n 0) [⟨(bJ s k).pos,1⟩,⟨(bJ s o).pos,1⟩]).1=false:=by
  show ng s _ _=false;unfold ng;rw[MZ hP,hdv,hgc];have:gE s.aA [⟨(bJ s k).pos,1⟩,⟨(bJ s o).pos,1⟩]=(aH s.aA (bJ s k).pos).b+(aH s.aA (bJ s o).pos).b:=by
   show 1*_+(1*_+0)=_;dsimp only;omega
  rw[this];simp;omega
 refine⟨⟨hP,hPS,by rw[hdv];exact bU jL (by decide)⟩,?_⟩;show(if _ then _ else _)=_;rw[aY (by rw[hdok];simp)]
theorem OK{K Kk:Nat}{s:St}(hI:Inv s)(hs:gJ K s)(hK:Kk+6<=K)(hKq:∀q∈s.aA,fW Kk q)(hr:jJ 1 s):Tm (λN=>vd N s.to) (vP Kk s):=by
 have hL:dh=1099511627776:=rfl;have hil:=hs.il;have hKK:=hs.K;have hn:=hs.n;have hmi:s.to.aB.length=s.aB.length:=cT ..;have hgl:∀k,k<s.aB.length->(bJ s k).g.length=s.n:=λk hk=>(hI.it _ (iA hk)).2;have hgd:∀k,k<s.aB.length->∀v∈(bJ s k).g,dl v<=8:=λk hk=>(hs.i _ (iA hk)).2.2;have hdis:∀i j,i<s.aB.length->j<s.aB.length->(bJ s i).g=(bJ s j).g->i=j:=λi j hi hj e=>by
  have:=Oh.1 hI.kP;rcases N8 i j with h|h|h
  . exact bV (by rw[<-mP hi,<-mP hj];exact e) (this i j hi hj h)
  . exact h
  . exact bV (by rw[<-mP hi,<-mP hj];exact e.symm) (this j i hj hi h)
 unfold vd;refine Tm.bind (Q:=λm=>(∀k,k<s.aB.length->fU m (keyOf (bJ s k).g) (0:Int)=((k:Int),true))/\∀t:List UInt8,(∀k,k<s.aB.length->keyOf (bJ s k).g≠t)->fU m t (0:Int)=(0,false)) (e9 s.aB.length (λk t=>t.2=(k:Int)/\(∀j,j<k->fU t.1 (keyOf (bJ s j).g) (0:Int)=((j:Int),true))/\∀u:List UInt8,(∀j,j<k->keyOf (bJ s j).g≠u)->fU t.1 u (0:Int)=(0,false)) ⟨rfl,λj hj=>by omega,λu _=>rfl⟩ ?_) ?_
 . rintro k hk ⟨m,i⟩ ⟨rfl,h1,h2⟩;dsimp only at h1 h2;dsimp only[DM];refine bA (λhlt=>?_) (λhge=>aI ?_)
   . have hlt:k<s.aB.length:=by omega
     refine aL (ta hlt) (aV (Ke (g:=(bJ s k).g) (by rw[hgl k hlt];omega) (λv hv=>bU (hgd k hlt v hv) (by decide))) (aI ⟨hlt,eK (by omega),λj hj=>?_,λu hu=>?_⟩))
     . dsimp only;rw[Dl];by_cases e:k=j
       . subst e;rw[bD rfl]
       . rw[aY,h1 j (by omega)];intro e2;exact e (hdis k j hlt (by omega) (IB (by rw[hgl k hlt,hgl j (by omega)]) e2))
     . dsimp only;rw[Dl,aY (hu k (by omega)),h2 u λj hj=>hu j (by omega)]
   . have:k=s.aB.length:=by omega
     subst this;exact⟨h1,h2⟩
 rintro m ⟨m1,m2⟩;dsimp only;have hopp:∀k,k<s.aB.length->(∃o,o<s.aB.length/\(bJ s o).g=cv (bJ s k).g/\fU m (keyOf (cv (bJ s k).g)) (0:Int)=((o:Int),true))\/((∀o,o<s.aB.length->(bJ s o).g≠cv (bJ s k).g)/\fU m (keyOf (cv (bJ s k).g)) (0:Int)=(0,false)):=λk hk=>by
  by_cases h:∃o,o<s.aB.length/\(bJ s o).g=cv (bJ s k).g
  . obtain⟨o,ho,he⟩:=h;exact .inl ⟨o,ho,he,by rw[<-he];exact m1 o ho⟩
  . have h':∀o,o<s.aB.length->(bJ s o).g≠cv (bJ s k).g:=λo ho e=>h ⟨o,ho,e⟩;refine .inr ⟨h',m2 _ λo ho e=>h' o ho (IB (by rw[hgl o ho,jq,hgl k hk]) e)⟩
 have hbd:∀k,k<s.aB.length->dl (aH s.aA (bJ s k).pos).b<=Kk:=λk hk=>(hKq _ (fg (hI.it _ (iA hk)).1)).2;refine Tm.bind (Q:=λr=>(r=.inl ()/\∀k o,k<s.aB.length->o<s.aB.length->k<=o->(bJ s o).g=cv (bJ s k).g->0<(aH s.aA (bJ s k).pos).b+(aH s.aA (bJ s o).pos).b)\/∃z,r=.inr z/\vP Kk s z)
  (e9 s.aB.length (λk t=>t=(k:Int)/\∀k' o,k'<k->o<s.aB.length->k'<=o->(bJ s o).g=cv (bJ s k').g->0<(aH s.aA (bJ s k').pos).b+(aH s.aA (bJ s o).pos).b) ⟨rfl,λk' o h=>by omega⟩ ?_) ?_
 . rintro k hk _ ⟨rfl,hp⟩;dsimp only[Ge];refine bA (λhlt=>?_) (λhge=>aI (.inl ⟨rfl,λk' o h1=>hp k' o (by omega)⟩));have hlt:k<s.aB.length:=by omega
   have hng:∀v∈cv (bJ s k).g,dl v<=8:=λv hv=>by rw[<-gx];exact hgd k hlt _ (Du hv)
   refine Tm.bind (Q:=λr=>(r=.inl ()/\∀o,o<s.aB.length->k<=o->(bJ s o).g=cv (bJ s k).g->0<(aH s.aA (bJ s k).pos).b+(aH s.aA (bJ s o).pos).b)\/∃z,r=.inr z/\vP Kk s z)
    (aL (ta hlt) (aV (tU (l:=(bJ s k).g) (K:=8) (by omega) (by rw[hgl k hlt];omega) (hgd k hlt)) (aV (Ke (g:=cv (bJ s k).g) (by rw[jq,hgl k hlt];omega) (λv hv=>bU (hng v hv) (by decide))) ?_))) ?_
   . rcases hopp k hlt with⟨o,ho,hog,hom⟩|⟨hno,hom⟩
     . rw[hom];dsimp only;refine Tm.bind (Q:=λc=>c=decide ((o:Int)<(k:Int))) (cD (by simp) (aI rfl)) ?_;rintro _ rfl;refine bA (λhlt'=>aI (.inl ⟨rfl,λo' ho' hko hg=>?_⟩)) (λhlt'=>?_)
       . have:o'=o:=hdis o' o ho' ho (hg.trans hog.symm);have:=iL hlt';omega
       . have hko:k<=o:=by
          have:¬((o:Int)<(k:Int)):=λe=>hlt' (iM e);omega
         have b1:=hbd k hlt;have b2:=hbd o ho;refine aV (sN (hI.it _ (iA hlt)).1) (aL (ta ho) (aV (sN (hI.it _ (iA ho)).1) (aV (mf (by omega) (by omega)) (aV (jK (bU (oz b1 b2) (by omega))) ?_))));refine bA (λhs1=>?_) (λhs1=>bA (λhs2=>aI (.inr ⟨_,rfl,?_⟩)) (λhs2=>aI (.inl ⟨rfl,λo' ho' _ hg=>?_⟩)))
         . 
           have hlt0:(aH s.aA (bJ s k).pos).b+(aH s.aA (bJ s o).pos).b<0:=oN.1 (by omega);obtain⟨hP,hb⟩:=PQ hI hKq hlt ho hog hlt0;refine aL (iy (n:=s.n) rfl (by omega) (by decide)) (aV (iO (by decide) (by decide)) (aL (ta ho) (aV (iO (by decide) (by decide)) ?_)));rw[<-og];have hput:=H9 hs hP.1 hK hr;refine aV hput (aI (.inr ⟨_,rfl,?_⟩));dsimp only;rw[jc (by show(s.n:Int)=((put s _ _).2.n:Int);rw[Ap])];exact .bad _ [.put (List.replicate s.n 0) [⟨(bJ s k).pos,1⟩,⟨(bJ s o).pos,1⟩]] (λa ha=>by rw[cG.1 ha];exact hP) (λa ha=>by rw[cG.1 ha];exact hP.1) (λa ha=>by rw[cG.1 ha];exact λv hv=>by rw[(zr.1 hv).2];simp) (by simp) hb
         . refine .some k o ⟨hlt,ho,λe=>?_,λm hm=>by rw[hog,jb],?_⟩
           . subst e;have h1:=hI.gM _ (iA hlt);have h2:(2:Int)∣((dC (bJ s k).g:Nat):Int):=oX λv hv=>by
              obtain⟨m,hm,rfl⟩:=gC hv;have:=dz (λl=>vf l m) hog;simp only[jb]at this;have:vf (bJ s k).g m=0:=by omega
              rw[this];exact wR 2
             rw[h1]at h2;omega
           . exact ji λe=>py.2 e hs2
         . have:o'=o:=hdis o' o ho' ho (hg.trans hog.symm);subst this;revert hs1 hs2;unfold bT;(repeat' split)<;>omega
     . rw[hom];refine Tm.bind (Q:=λc=>c=true) (cR (by simp) (aI rfl)) ?_;rintro _ rfl;exact cR rfl (aI (.inl ⟨rfl,λo ho _ hg=>bV hg (hno o ho)⟩))
   . rintro r (⟨rfl,h⟩|⟨z,rfl,hz⟩)
     . refine aI ⟨hlt,eK (by omega),λk' o h1 h2 h3 h4=>?_⟩;rcases cH k' k with h5|h5
       . exact hp k' o h5 h2 h3 h4
       . obtain rfl:k'=k:=by omega
         exact h o h2 h3 h4
     . exact aI (.inr ⟨z,rfl,hz⟩)
 . rintro r (⟨rfl,h⟩|⟨z,rfl,hz⟩)
   . refine aI (.none λi j hi hj hg=>?_);have hg1:(bJ s j).g=cv (bJ s i).g:=lS (by rw[jq,hgl i hi,hgl j hj]) λk hk=>by rw[jb];exact hg k (by rw[hgl j hj]at hk;exact hk)
     rcases Nat.le_total i j with h1|h1
     . exact h i j hi hj h1 hg1
     . have:=h j i hj hi h1 (by rw[hg1,DC]);omega
   . exact aI hz
open Go Go.X
def F0(N:Nat)(s:aS)(v:Int):((List bB)×(List bB)×Int)->Option (aJ ((List bB)×(List bB)×Int) ((List bB)×(List bB)))
 |(a,b,c)=>(if(c:Int)<(List.length s.aB:Int)then ((((idx s.aB c).bind λd=>(idx d.g v).bind λf=>(gV N f).bind λe=>(if(e:Int)=1 then (cZ 32 a [d]).bind λi=>some (i,b) else (if(e:Int)=(-1)then (cZ 32 b [d]).bind λj=>some (a,j) else some (a,b)))):Option ((List bB)×(List bB)))).bind λss=>match ss with
    |(k,l)=>some (aJ.next (k,l,(iw (c+1)))) else some (aJ.done (a,b)))
def sM(N:Nat)(s:aS)(v:Int):Option ((List bB)×(List bB)):=(bS (F0 N s v) N (([]:(List bB)),([]:(List bB)),0)).bind λss=>match ss with
  |(a,b)=>some (a,b)
def Ju(N:Nat)(s:aS)(v:Int):((List bB)×(List bB)×Int)->Option (aJ ((List bB)×(List bB)×Int) ((List bB)×(List bB)))
 |(a,b,c)=>(if(c:Int)<(List.length s.aB:Int)then ((((idx s.aB c).bind λd=>(idx d.g v).bind λf=>(gV N f).bind λe=>(if(e:Int)=1 then (cZ 32 a [d]).bind λi=>some (i,b) else (if(e:Int)=(-1)then (cZ 32 b [d]).bind λj=>some (a,j) else some (a,b)))):Option ((List bB)×(List bB)))).bind λss=>match ss with
    |(k,l)=>some (aJ.next (k,l,(iw (c+1)))) else some (aJ.done (a,b)))
def tH(N:Nat)(s:aS)(v:Int):Option ((List bB)×(List bB)):=(bS (Ju N s v) N (([]:(List bB)),([]:(List bB)),0)).bind λss=>match ss with
  |(a,b)=>some (a,b)
def GK(N:Nat)(v:Int)(r1:((List bB)×(List bB))):(aC×Int)->Option (aJ (aC×Int) aC)
 |(a,b)=>(if(b:Int)<(List.length r1.2:Int)then ((((idx r1.2 b).bind λd=>(pB N v d r1.1).bind λc=>(gV N c).bind λe=>(if(e:Int)≥0 then (gj N 1000).bind λf=>(js N c f).bind λg=>(kB N a g).bind λi=>some i else some a)):Option aC)).bind λss=>match ss with
    |j=>some (aJ.next (j,(iw (b+1)))) else some (aJ.done a))
def xT(N:Nat)(s:aS)(v:Int):Option (aC×Bool):=(sM N s v).bind λr1=>(if((iw ((List.length r1.1:Int)+(List.length r1.2:Int))):Int)=0 then some ((aC.mk false ([]:(List Int))),false) else ((((if((List.length r1.1:Int):Int)=0 then some true else some (decide (((List.length r1.2:Int):Int)=0)))):Option Bool)).bind λss=>match ss with
   |x7=>(if x7=true then some ((aC.mk false ([]:(List Int))),true) else (gj N (iw ((List.length r1.1:Int)*(List.length r1.2:Int)))).bind λa=>(bS (GK N v r1) N (a,0)).bind λss=>match ss with
      |b=>some (b,true)))
def GA(N:Nat)(s:aS):(Int×Bool×aC×Int)->Option (aJ (Int×Bool×aC×Int) (Int×Bool))
 |(c,b,d,a)=>(if(a:Int)<s.n then ((((idx s.aN a).bind λf=>(if(f:Int)≠0 then some (c,b,d) else (xT N s a).bind λe=>((((if e.2=true then (if(!b)=true then some true else (iY N e.1 d).bind λg=>some (decide ((g:Int)<0))) else some false)):Option Bool)).bind λss=>match ss with
     |i=>(if i=true then some (a,true,e.1) else some (c,b,d)))):Option (Int×Bool×aC))).bind λss=>match ss with
    |(j,k,l)=>some (aJ.next (j,k,l,(iw (a+1)))) else some (aJ.done (c,b)))
def uG(N:Nat)(s:aS):Option (Int×Bool):=(bS (GA N s) N (0,false,(aC.mk false ([]:(List Int))),0)).bind λss=>match ss with
  |(a,b)=>some (a,b)
def wo(N:Nat)(s:aS)(v:Int):Option Bool:=(sM N s v).bind λr1=>(if((List.length r1.1:Int):Int)=0 then some true else (AL N r1.2 (λy0=>uC N y0 v r1.1)).bind λr5=>some (!r5))
def Gp(N:Nat)(r2:(List bB)):((List Int)×Int)->Option (aJ ((List Int)×Int) (List Int))
 |(b,a)=>(if(a:Int)<(List.length r2:Int)then (idx r2 a).bind λc=>(cZ 8 b [c.pos]).bind λd=>some (aJ.next (d,(iw (a+1)))) else some (aJ.done b))
def CA(N:Nat)(c:(List aC))(d:bB)(e:aC)(f:bB)(i:aC):((List aC)×Int)->Option (aJ ((List aC)×Int) (List aC))
 |(b,a)=>(if(a:Int)<(List.length c:Int)then (idx d.g a).bind λj=>(kB N e j).bind λk=>(idx f.g a).bind λl=>(kB N i l).bind λm=>(js N k m).bind λn=>(idx b a).bind λp=>(dM b a n).bind λo=>some (aJ.next (o,(iw (a+1)))) else some (aJ.done b))
def Ew(N:Nat)(s:aS)(v:Int)(r1:((List bB)×(List bB)))(b:bB):((List bG)×(List Step)×(List (List aC))×(List Int)×(List aC)×(List bB)×(List dW)×Int)->Option (aJ ((List bG)×(List Step)×(List (List aC))×(List Int)×(List aC)×(List bB)×(List dW)×Int) (Sum ((List bG)×(List Step)×(List (List aC))×(List Int)×(List aC)×(List bB)×(List dW)) (Bool×aS)))
 |(e,f,i,j,k,l,m,c)=>(if(c:Int)<(List.length r1.2:Int)then (idx r1.2 c).bind λd=>(idx b.g v).bind λo=>(idx d.g v).bind λa0=>(jA N a0).bind λp=>(gF (α:=aC) 32 (aC.mk false ([]:(List Int))) s.n).bind λy=>(bS (CA N y b p d o) N (y,0)).bind λss=>match ss with
    |a1=>(nN N (aS.mk s.n e f i j k l m) a1 [(eh.mk b.pos p),(eh.mk d.pos o)]).bind λa=>(if(!a.1)=true then some (aJ.done (Sum.inr (false,(aS.mk s.n a.2.aA a.2.aU a.2.u a.2.aN a.2.value a.2.aB a.2.aK)))) else some (aJ.next (a.2.aA,a.2.aU,a.2.u,a.2.aN,a.2.value,a.2.aB,a.2.aK,(iw (c+1))))) else some (aJ.done (Sum.inl (e,f,i,j,k,l,m))))
def G7(N:Nat)(s:aS)(v:Int)(r1:((List bB)×(List bB))):((List bG)×(List Step)×(List (List aC))×(List Int)×(List aC)×(List bB)×(List dW)×Int)->Option (aJ ((List bG)×(List Step)×(List (List aC))×(List Int)×(List aC)×(List bB)×(List dW)×Int) (Sum ((List bG)×(List Step)×(List (List aC))×(List Int)×(List aC)×(List bB)×(List dW)) (Bool×aS)))
 |(b,c,d,e,f,g,i,a)=>(if(a:Int)<(List.length r1.1:Int)then (idx r1.1 a).bind λj=>(bS (Ew N s v r1 j) N (b,c,d,e,f,g,i,0)).bind λss=>match ss with
    |(Sum.inl (k,l,m,n,o,p,u))=>some (aJ.next (k,l,m,n,o,p,u,(iw (a+1))))
    |(Sum.inr z)=>some (aJ.done (Sum.inr z)) else some (aJ.done (Sum.inl (b,c,d,e,f,g,i))))
def oS(N:Nat)(s:aS)(v:Int)(dP:Bool):Option (Bool×aS):=(sM N s v).bind λr1=>(vz N [r1.1,r1.2]).bind λr2=>(bS (Gp N r2) N (([]:(List Int)),0)).bind λss=>match ss with
  |a=>(cZ 40 s.aK [(dW.mk v a dP)]).bind λb=>(idx s.aN v).bind λo=>(dM s.aN v 2).bind λc=>(rE N s.aB).bind λd=>(xC N d (λy0=>uz N y0 v)).bind λe=>(bS (G7 N s v r1) N (s.aA,s.aU,s.u,c,s.value,e,b,0)).bind λss=>match ss with
    |(Sum.inl (f,g,i,j,k,l,m))=>some (true,(aS.mk s.n f g i j k l m))
    |(Sum.inr z)=>some z
def DA(N:Nat)(s:aS)(j:Int)(x1:bG):(aC×Int)->Option (aJ (aC×Int) aC)
 |(b,a)=>(if(a:Int)<(List.length x1.bE:Int)then (idx x1.bE a).bind λc=>(idx s.u a).bind λd=>(idx d j).bind λe=>(kB N c e).bind λf=>(js N b f).bind λg=>some (aJ.next (g,(iw (a+1)))) else some (aJ.done b))
def wh(N:Nat)(s:aS)(vat1:Int)(j:Int):Option aC:=(idx s.aA vat1).bind λx1=>(bS (DA N s j x1) N ((aC.mk false ([]:(List Int))),0)).bind λss=>match ss with
  |a=>some a
def CG(N:Nat)(s:aS)(e:dW)(y:(List aC))(c:Int):(aC×Int)->Option (aJ (aC×Int) aC)
 |(b,a)=>(if(a:Int)<(List.length y:Int)then ((((if(a:Int)≠e.v then (wh N s c a).bind λd=>(idx y a).bind λf=>(kB N d f).bind λg=>(jk N b g).bind λi=>some i else some b)):Option aC)).bind λss=>match ss with
    |j=>some (aJ.next (j,(iw (a+1)))) else some (aJ.done b))
def DD(N:Nat)(s:aS)(e:dW)(y:(List aC)):(aC×aC×Bool×Bool×Int)->Option (aJ (aC×aC×Bool×Bool×Int) (aC×aC×Bool×Bool))
 |(a,b,c,d,f)=>(if(f:Int)<(List.length e.aB:Int)then ((((idx e.aB f).bind λg=>(idx s.aA g).bind λm=>(bS (CG N s e y g) N (m.dO,0)).bind λss=>match ss with
    |j=>(wh N s g e.v).bind λi=>(gV N i).bind λn=>(if(n:Int)>0 then (kS N j i).bind λk=>((((if(!d)=true then some true else (iY N k.1 b).bind λo=>some (decide ((o:Int)<0)))):Option Bool)).bind λss=>match ss with
       |p=>(if p=true then some (a,k.1,c,true) else some (a,b,c,d)) else (jA N i).bind λu=>(kS N j u).bind λa0=>(jA N a0.1).bind λl=>((((if(!c)=true then some true else (iY N l a).bind λa1=>some (decide ((a1:Int)>0)))):Option Bool)).bind λss=>match ss with
       |a2=>(if a2=true then some (l,b,true,d) else some (a,b,c,d)))):Option (aC×aC×Bool×Bool))).bind λss=>match ss with
    |(a3,a4,a5,a6)=>some (aJ.next (a3,a4,a5,a6,(iw (f+1)))) else some (aJ.done (a,b,c,d)))
def oB(N:Nat)(s:aS)(e:dW)(y:(List aC)):Option (aC×Bool):=(bS (DD N s e y) N ((aC.mk false ([]:(List Int))),(aC.mk false ([]:(List Int))),false,false,0)).bind λss=>match ss with
  |(a,b,c,d)=>(if(!c)=true then some (b,true) else (if(!d)=true then some (a,true) else (iY N a b).bind λf=>some (a,(decide ((f:Int)<=0)))))
def jT(N:Nat)(s:aS):Option cz:= some (cz.mk 1 ([]:(List aC)) (Proof.mk s.aU ([]:(List aC)) (aC.mk false ([]:(List Int))) ([]:(List Proof))) 0)
def DU(N:Nat)(n:Int):((List (List aC))×Int)->Option (aJ ((List (List aC))×Int) (List (List aC)))
 |(b,a)=>(if(a:Int)<n then (gF (α:=aC) 32 (aC.mk false ([]:(List Int))) n).bind λc=>(gj N 1).bind λd=>(idx c a).bind λg=>(dM c a d).bind λe=>(cZ 24 b [e]).bind λf=>some (aJ.next (f,(iw (a+1)))) else some (aJ.done b))
def w5(N:Nat)(n:Int)(system:(List bG)):Option aS:=(Ay N system).bind λr1=>(gF (α:=Int) 8 0 n).bind λx2=>(gF (α:=aC) 32 (aC.mk false ([]:(List Int))) n).bind λx3=>(bS (DU N n) N (([]:(List (List aC))),0)).bind λss=>match ss with
  |a=>some (aS.mk n r1 ([]:(List Step)) a x2 x3 ([]:(List bB)) ([]:(List dW)))
def qy(N:Nat)(s:aS):Option aS:=(CQ N s.aA).bind λr1=>(E7 N s.aU).bind λr2=>(zU N s.u).bind λr3=>(By N s.aN).bind λr4=>(oP N s.value).bind λr5=>(rE N s.aB).bind λr6=>(El N s.aK).bind λr7=>some (aS.mk s.n r1 r2 r3 r4 r5 r6 r7)
def nt(N:Nat)(s:aS)(q:bG):Option aS:=(qy N s).bind λr1=>(cZ 56 r1.aA [q]).bind λx2=>some (aS.mk r1.n x2 ([]:(List Step)) r1.u r1.aN r1.value r1.aB r1.aK)
def rA(N:Nat)(s:aS)(form:(List aC))(bound:aC)(left:cz)(right:cz):Option cz:= some (cz.mk 1 ([]:(List aC)) (Proof.mk s.aU form bound [left.proof,right.proof]) 0)
def Gn(N:Nat)(v:Int)(r1:((List bB)×(List bB))):(aC×Int)->Option (aJ (aC×Int) aC)
 |(a,b)=>(if(b:Int)<(List.length r1.2:Int)then ((((idx r1.2 b).bind λd=>(pB N v d r1.1).bind λc=>(gV N c).bind λe=>(if(e:Int)≥0 then (gj N 1).bind λf=>(js N c f).bind λg=>(js N a g).bind λi=>some i else some a)):Option aC)).bind λss=>match ss with
    |j=>some (aJ.next (j,(iw (b+1)))) else some (aJ.done a))
def xh(N:Nat)(s:aS)(v:Int):Option aC:=(tH N s v).bind λr1=>(bS (Gn N v r1) N ((aC.mk false ([]:(List Int))),0)).bind λss=>match ss with
  |a=>some a
def E0(N:Nat)(s:aS)(e:(Int×Bool))(f:bB):(gZ×Bool×Int)->Option (aJ (gZ×Bool×Int) (gZ×Bool))
 |(a,b,c)=>(if(c:Int)<(List.length s.aB:Int)then ((((idx s.aB c).bind λd=>(uq N d).bind λi=>((((if(!i.2)=true then some true else (if(i.1:Int)≠e.1 then some true else (idx d.g e.1).bind λl=>(gV N l).bind λm=>some (decide ((m:Int)>0))))):Option Bool)).bind λss=>match ss with
    |n=>(if n=true then some (a,b) else (yU N s d).bind λo=>(jA N o).bind λj=>(yU N s f).bind λk=>((((if(!b)=true then some true else (jk N k j).bind λp=>(jk N a.high a.low).bind λu=>(iY N p u).bind λv=>some (decide ((v:Int)<0)))):Option Bool)).bind λss=>match ss with
       |y=>(if y=true then some ((gZ.mk f j k),true) else some (a,b)))):Option (gZ×Bool))).bind λss=>match ss with
    |(a0,a1)=>some (aJ.next (a0,a1,(iw (c+1)))) else some (aJ.done (a,b)))
def Fm(N:Nat)(s:aS):(gZ×Bool×Int)->Option (aJ (gZ×Bool×Int) (gZ×Bool))
 |(a,b,c)=>(if(c:Int)<(List.length s.aB:Int)then ((((idx s.aB c).bind λd=>(uq N d).bind λe=>((((if(!e.2)=true then some true else (idx d.g e.1).bind λf=>(gV N f).bind λi=>some (decide ((i:Int)<0)))):Option Bool)).bind λss=>match ss with
    |j=>(if j=true then some (a,b) else (bS (E0 N s e d) N (a,b,0)).bind λss=>match ss with
       |(k,l)=>some (k,l))):Option (gZ×Bool))).bind λss=>match ss with
    |(m,n)=>some (aJ.next (m,n,(iw (c+1)))) else some (aJ.done (a,b)))
def xk(N:Nat)(s:aS):Option (gZ×Bool):=(bS (Fm N s) N ((gZ.mk (bB.mk 0 ([]:(List aC))) (aC.mk false ([]:(List Int))) (aC.mk false ([]:(List Int)))),false,0)).bind λss=>match ss with
  |(a,b)=>some (a,b)
end Go.D
namespace Go.D
open Go Go.X
def cM(v:Nat)(l:List AI):List AI:=l.filter λx=>decide (0<vf x.g v)
def dL(v:Nat)(l:List AI):List AI:=l.filter λx=>decide (vf x.g v<0)
theorem kM{v:Nat}{l:List AI}{x:AI}:x∈cM v l↔x∈l/\0<vf x.g v:=by simp[cM]
theorem iF{v:Nat}{l:List AI}{x:AI}:x∈dL v l↔x∈l/\vf x.g v<0:=by simp[dL]
def mI(l:List AI):List bB:=l.map AI.to
theorem fG(l:List AI):(mI l).length=l.length:=cT ..
theorem pT{l:List AI}{k:Nat}(h:k<l.length):idx (mI l) (k:Int)=some (l[k]).to:=by
 unfold mI;rw[dA (by simpa using h),lG]
def jd(n:Nat)(l:List AI):Prop:=l.length<=1073741824/\∀x∈l,x.g.length=n/\∀w∈x.g,dl w<=8
theorem jd.vf{n:Nat}{l:List AI}(h:jd n l){x:AI}(hx:x∈l)(v:Nat):dl (vf x.g v)<=8:=kh.vf ⟨(h.2 x hx).1,(h.2 x hx).2⟩ v
theorem jd.sub{n:Nat}{l m:List AI}(h:jd n l)(hl:m.length<=l.length)(hm:∀x∈m,x∈l):jd n m:=⟨by have:=h.1;omega,λx hx=>h.2 x (hm x hx)⟩
theorem qj{n v:Nat}{l:List AI}(h:jd n l):jd n (cM v l):=h.sub (ue ..) λx hx=>(kM.1 hx).1
theorem yR{n v:Nat}{l:List AI}(h:jd n l):jd n (dL v l):=h.sub (ue ..) λx hx=>(iF.1 hx).1
theorem Lz{a:Int}:bT a 0=1↔0<a:=by unfold bT;(repeat' split)<;>omega
theorem Iq{a:Int}:bT a 0=-1↔a<0:=by unfold bT;(repeat' split)<;>omega
theorem RC{a:Int}:bT a 0≥0↔0<=a:=by unfold bT;(repeat' split)<;>omega
theorem Uw{v:Nat}{l:List AI}{k:Nat}(h:k<l.length):cM v (l.take (k+1))=cM v (l.take k)++(if 0<vf (l[k]).g v then[l[k]]else[]):=by
 unfold cM;rw[<-j9 h,Di];congr 1;by_cases e:0<vf (l[k]).g v<;>simp[e]
theorem OP{v:Nat}{l:List AI}{k:Nat}(h:k<l.length):dL v (l.take (k+1))=dL v (l.take k)++(if vf (l[k]).g v<0 then[l[k]]else[]):=by
 unfold dL;rw[<-j9 h,Di];congr 1;by_cases e:vf (l[k]).g v<0<;>simp[e]
theorem B4{s:St}{v:Nat}(hi:jd s.n s.aB)(hv:v<s.n):Tm (λN=>sM N s.to (v:Int)) (·=(mI (cM v s.aB),mI (dL v s.aB))):=by
 have hl:=hi.1;have hmi:s.to.aB.length=s.aB.length:=cT ..;unfold sM;refine aV (a:=(mI (cM v s.aB),mI (dL v s.aB))) (e9 s.aB.length (λk t=>t=(mI (cM v (s.aB.take k)),mI (dL v (s.aB.take k)),(k:Int))) rfl ?_) (aI rfl);rintro k hk _ rfl;dsimp only[F0];refine bA (λhlt=>?_) (λhge=>aI ?_)
 . have hlt:k<s.aB.length:=by omega
   have hm:=dJ hlt;have hd:=hi.vf hm v;have lu:(cM v (s.aB.take k)).length<=k:=bU (ue ..) (by rw[fA];omega);have ll:(dL v (s.aB.take k)).length<=k:=bU (ue ..) (by rw[fA];omega);refine aV (a:=(mI (cM v (s.aB.take (k+1))),mI (dL v (s.aB.take (k+1))))) ?_ (aI ⟨hlt,by rw[eK (by omega)]⟩);rw[Uw hlt,OP hlt];refine aL (a:=(s.aB[k]).to) (by show idx (mI s.aB) _=_;exact pT hlt) (aL (eD (l:=(s.aB[k]).g) (by rw[(hi.2 _ hm).1];exact hv)) (aV (jK (bU hd (by decide))) ?_));refine bA (λh1=>?_) (λh1=>bA (λh2=>?_) (λh2=>aI ?_))
   . have h1:=Lz.1 h1;refine aL (eb (by rw[fG];simp only[cJ,dZ];omega) (by decide)) (aI ?_);rw[bD h1,aY (by omega)];simp[mI]
   . have h2:=Iq.1 h2;refine aL (eb (by rw[fG];simp only[cJ,dZ];omega) (by decide)) (aI ?_);rw[bD h2,aY (by omega)];simp[mI]
   . rw[aY λe=>h1 (Lz.2 e),aY λe=>h2 (Iq.2 e)];simp[mI]
 . show _=_;rw[fC (by omega)]
theorem yW{s:St}{v:Nat}(hi:jd s.n s.aB)(hv:v<s.n):Tm (λN=>tH N s.to (v:Int)) (·=(mI (cM v s.aB),mI (dL v s.aB))):=B4 hi hv
def kC(v:Nat)(l:List AI)(a:Int):Int:=l.foldl (λa y=>if a<vf y.g v then vf y.g v else a) a
theorem Jj{v:Nat}:∀{l:List AI} {a:Int},a<=kC v l a/\∀x∈l,vf x.g v<=kC v l a
 |[],a=>⟨lF _,λx hx=>by cases hx⟩
 |y::l,a=>by
  obtain⟨h1,h2⟩:=Jj (v:=v) (l:=l) (a:=if a<vf y.g v then vf y.g v else a);refine⟨?_,λx hx=>?_⟩
  . show a<=kC v l _;split at h1<;>rename_i h<;>simp only[h,if_true,if_false]<;>omega
  . rcases ej.1 hx with rfl|hx
    . show _<=kC v l _;split at h1<;>rename_i h<;>simp only[h,if_true,if_false]<;>omega
    . exact h2 x hx
theorem Fa{v:Nat}:∀{l:List AI} {a:Int},kC v l a=a\/∃x∈l,kC v l a=vf x.g v
 |[],a=>.inl rfl
 |y::l,a=>by
  have e:kC v (y::l) a=kC v l (if a<vf y.g v then vf y.g v else a):=rfl;rw[e];rcases Fa (v:=v) (l:=l) (a:=if a<vf y.g v then vf y.g v else a)with h|⟨x,hx,h⟩
  . rw[h];split
    . exact .inr ⟨y,cX,rfl⟩
    . exact .inl rfl
  . exact .inr ⟨x,cO _ hx,h⟩
def eI(v:Nat)(l:List AI):Int:=kC v l (vf (l.headD ⟨0,[]⟩).g v)
theorem Km{v:Nat}{l:List AI}:∀x∈l,vf x.g v<=eI v l:=Jj.2
theorem E5{v:Nat}{l:List AI}(h:l≠[]):∃x∈l,eI v l=vf x.g v:=by
 cases l with
 |nil=>exact bV rfl h
 |cons y r=>
  rcases Fa (v:=v) (l:=y::r) (a:=vf y.g v)with h|h
  . exact⟨y,cX,h⟩
  . exact h
def ic(v:Nat)(low:AI)(cr:List AI):Int:=(eI v cr*-vf low.g v-eI v cr- -vf low.g v).fdiv (eI v cr)
theorem yJ{n v:Nat}{low:AI}{cr:List AI}(h:jd n cr)(h0:cr≠[])(hl:dl (vf low.g v)<=8):dl (ic v low cr)<=18:=by
 obtain⟨x,hx,e⟩:=E5 (v:=v) h0;have h1:=h.vf hx v;rw[<-e]at h1;have h2:=kD (eI v cr) (-vf low.g v);rw[gx]at h2;have h3:=jW (K:=16) (a:=eI v cr*-vf low.g v) (b:=eI v cr) (by omega) (by omega);have h4:=jW (K:=17) (a:=eI v cr*-vf low.g v-eI v cr) (b:=-vf low.g v) (by omega) (by rw[gx];omega);exact bU (rU _ _) (by omega)
theorem xO{n v:Nat}{low:AI}{cr:List AI}(h:jd n cr)(h0:cr≠[])(hll:low.g.length=n)(hl:dl (vf low.g v)<=8)(hv:v<n):Tm (λN=>pB N (v:Int) low.to (mI cr)) (·=B (ic v low cr)):=by
 have hL:dh=1099511627776:=rfl;have hul:=h.1;have hlen:0<cr.length:=rQ.2 h0;obtain⟨u0,r,hur⟩:∃u r,cr=u::r:=by
  cases cr with
  |nil=>exact bV rfl h0
  |cons u r=>exact⟨u,r,rfl⟩
 have hmem0:u0∈cr:=by rw[hur];exact cX
 have hdl:∀k,dl (kC v (cr.take k) (vf u0.g v))<=8:=λk=>by
  rcases Fa (v:=v) (l:=cr.take k) (a:=vf u0.g v)with e|⟨x,hx,e⟩
  . rw[e];exact h.vf hmem0 v
  . rw[e];exact h.vf (uc hx) v
 unfold pB;refine aL (a:=u0.to) (by rw[hur];rfl) (aL (eD (l:=u0.g) (by rw[(h.2 _ hmem0).1];exact hv)) ?_);refine aV (a:=B (eI v cr)) (e9 cr.length (λk t=>t=(B (kC v (cr.take k) (vf u0.g v)),(k:Int))) rfl ?_) ?_
 . rintro k hk _ rfl;dsimp only[G5];rw[fG];refine bA (λhlt=>?_) (λhge=>aI ?_)
   . have hlt:k<cr.length:=by omega
     have hm:=dJ hlt;have hstep:kC v (cr.take (k+1)) (vf u0.g v)=if kC v (cr.take k) (vf u0.g v)<vf (cr[k]).g v then vf (cr[k]).g v else kC v (cr.take k) (vf u0.g v):=by
      unfold kC;rw[<-j9 hlt,NX];rfl
     have hi:=eD (l:=(cr[k]).g) (k:=v) (by rw[(h.2 _ hm).1];exact hv);have hvk:=h.vf hm v;have hdk:=hdl k;refine aL (pT hlt) (aL hi (aV (ko (by omega) (by omega)) (bA (λh1=>aL hi (aI ⟨hlt,?_⟩)) (λh1=>aI ⟨hlt,?_⟩))))
     . rw[eK (by omega),hstep,bD (by unfold bT at h1;(repeat' split at h1)<;>omega)]
     . rw[eK (by omega),hstep,aY (by unfold bT at h1;(repeat' split at h1)<;>omega)]
   . show _=_;rw[fC (by omega)];unfold eI;rw[hur];rfl
 . dsimp only;have ha:dl (eI v cr)<=8:=by
    obtain⟨x,hx,e⟩:=E5 (v:=v) h0;rw[e];exact h.vf hx v
   have h2:=kD (eI v cr) (-vf low.g v);rw[gx]at h2;have h3:=jW (K:=16) (a:=eI v cr*-vf low.g v) (b:=eI v cr) (by omega) (by omega);have h4:=jW (K:=17) (a:=eI v cr*-vf low.g v-eI v cr) (b:=-vf low.g v) (by omega) (by rw[gx];omega);refine aL (eD (l:=low.g) (by omega)) (aV (ou (by omega)) (aV (ox (by omega) (by rw[gx];omega)) (aV (ld (by omega) (by omega)) (aV (ld (by omega) (by rw[gx];omega)) (Tm.bind (pP (by omega) (by omega)) λr hr=>aI ?_)))));rw[hr];rfl
theorem QD{s:St}{v:Nat}(hi:jd s.n s.aB)(hv:v<s.n):Tm (λN=>xT N s.to (v:Int)) (λr=>(r.2=true↔∃x∈s.aB,vf x.g v≠0)/\∃c,r.1=B c/\dl c<=dh):=by
 have hL:dh=1099511627776:=rfl;have hl:=hi.1;have hu:=(qj (v:=v) hi).1;have hw:=(yR (v:=v) hi).1;have hex:(∃x∈s.aB,vf x.g v≠0)↔cM v s.aB≠[]\/dL v s.aB≠[]:=by
  constructor
  . rintro⟨x,hx,h⟩;rcases rS h with h|h
    . exact .inr (HI (iF.2 ⟨hx,h⟩))
    . exact .inl (HI (kM.2 ⟨hx,h⟩))
  . rintro(h|h)
    . obtain⟨x,hx⟩:=V3 _ h;exact⟨x,(kM.1 hx).1,by have:=(kM.1 hx).2;omega⟩
    . obtain⟨x,hx⟩:=V3 _ h;exact⟨x,(iF.1 hx).1,by have:=(iF.1 hx).2;omega⟩
 have hul:∀{l:List AI},l≠[]↔l.length≠0:=λ{l}=>by rw[ne_eq,<-mU]
 rw[hex,hul,hul];unfold xT;refine aV (B4 hi hv) ?_;dsimp only;rw[fG,fG];refine bA (λh0=>aI ⟨?_,0,B0.symm,by rw[iq];omega⟩) (λh0=>?_)
 . rw[bL (by omega) (by omega)]at h0;exact⟨λe=>(by cases e),λe=>by omega⟩
 . rw[bL (by omega) (by omega)]at h0;refine Tm.bind (Q:=λc=>c=decide ((cM v s.aB).length=0\/(dL v s.aB).length=0)) (bA (λh=>aI ?_) (λh=>aI ?_)) ?_
   . rw[iM];omega
   . apply decide_eq_decide.2;omega
   rintro _ rfl;refine bA (λh1=>aI ⟨?_,0,B0.symm,by rw[iq];omega⟩) (λh1=>?_)
   . exact⟨λ_=>by omega,λ_=>rfl⟩
   . have h1:¬((cM v s.aB).length=0\/(dL v s.aB).length=0):=λe=>h1 (iM e);have hun:cM v s.aB≠[]:=hul.2 (by omega);have hmul:((cM v s.aB).length:Int)*((dL v s.aB).length:Int)<=1073741824*1073741824:=mW (by omega) (by omega) (by omega) (by omega);have hmul0:0<=((cM v s.aB).length:Int)*((dL v s.aB).length:Int):=eW (by omega) (by omega);rw[bL (by omega) (by omega)];refine aV (iO (by omega) (by omega)) ?_;refine Tm.bind (Q:=λr=>∃c,r=B c/\dl c<=dh) (e9 (dL v s.aB).length (λk t=>∃c,t=(B c,(k:Int))/\dl c<=2+20*k) ⟨_,rfl,Fv (by omega)⟩ ?_) ?_
     . rintro k hk _ ⟨c,rfl,hc⟩;dsimp only[GK];rw[fG];refine bA (λhlt=>?_) (λhge=>aI ⟨c,rfl,by omega⟩);have hlt:k<(dL v s.aB).length:=by omega
       have hm:=dJ hlt;have hlo:=(yR (v:=v) hi);have hsd:=yJ (low:=(dL v s.aB)[k]) (qj (v:=v) hi) hun (hlo.vf hm v);refine Tm.bind (Q:=λr=>∃c,r=B c/\dl c<=2+20*(k+1)) (aL (pT hlt) (aV (xO (qj (v:=v) hi) hun (hlo.2 _ hm).1 (hlo.vf hm v) hv) (aV (jK (by omega)) (bA (λh2=>?_) (λh2=>aI ⟨c,rfl,by omega⟩))))) ?_
       . have h1000:dl 1000<=18:=bU (jB (by decide)) (by decide);have ha:=oz hsd h1000;refine aV (iO (by decide) (by decide)) (aV (mf (by omega) (by omega)) (aV (ox (by omega) (by omega)) (aI ⟨_,rfl,?_⟩)));have:=kD c (ic v (dL v s.aB)[k] (cM v s.aB)+1000);omega
       . rintro _ ⟨c',rfl,hc'⟩;exact aI ⟨hlt,c',by rw[eK (by omega)],hc'⟩
     . rintro _ ⟨c,rfl,hc⟩;exact aI ⟨⟨λ_=>by omega,λ_=>rfl⟩,c,rfl,hc⟩
theorem TV{s:St}(hi:jd s.n s.aB)(hst:s.aN.length=s.n)(hn:s.n<=512):Tm (λN=>uG N s.to) (λr=>(r.2=true/\∃v:Nat,r.1=(v:Int)/\v<s.n/\vf s.aN v=0/\∃x∈s.aB,vf x.g v≠0)\/(r.2=false/\∀v,v<s.n->vf s.aN v=0->∀x∈s.aB,vf x.g v=0)):=by
 have hL:dh=1099511627776:=rfl;unfold uG;refine Tm.bind (Q:=λr=>(r.2=true/\∃v:Nat,r.1=(v:Int)/\v<s.n/\vf s.aN v=0/\∃x∈s.aB,vf x.g v≠0)\/(r.2=false/\∀v,v<s.n->vf s.aN v=0->∀x∈s.aB,vf x.g v=0))
  (e9 s.n (λk t=>t.2.2.2=(k:Int)/\(∃c,t.2.2.1=B c/\dl c<=dh)/\((t.2.1=true/\∃v:Nat,t.1=(v:Int)/\v<s.n/\vf s.aN v=0/\∃x∈s.aB,vf x.g v≠0)\/(t.2.1=false/\∀v,v<k->vf s.aN v=0->∀x∈s.aB,vf x.g v=0)))
   ⟨rfl,⟨0,B0.symm,by rw[iq];omega⟩,.inr ⟨rfl,λv hv=>by omega⟩⟩ ?_) λr hr=>aI hr
 rintro k hk ⟨b,f,l,i⟩ ⟨rfl,⟨c,rfl,hc⟩,hI⟩;dsimp only at hI;dsimp only[GA];refine bA (λhlt=>?_) (λhge=>aI ?_)
 . have hlt:k<s.n:=by have:(k:Int)<(s.n:Int):=hlt;omega
   refine Tm.bind (Q:=λr=>(∃c,r.2.2=B c/\dl c<=dh)/\((r.2.1=true/\∃v:Nat,r.1=(v:Int)/\v<s.n/\vf s.aN v=0/\∃x∈s.aB,vf x.g v≠0)\/(r.2.1=false/\∀v,v<k+1->vf s.aN v=0->∀x∈s.aB,vf x.g v=0))) (aL (Bd (l:=s.aN) (by omega)) (bA (λh1=>aI ⟨⟨c,rfl,hc⟩,?_⟩) (λh1=>?_))) ?_
   . dsimp only;rcases hI with hI|⟨h2,h3⟩
     . exact .inl hI
     . refine .inr ⟨h2,λv hv h0=>?_⟩;rcases cH v k with h4|h4
       . exact h3 v h4 h0
       . obtain rfl:v=k:=by omega
         exact bV h0 h1
   . have h1:vf s.aN k=0:=ug.1 h1;refine Tm.bind (QD hi hlt) ?_;rintro⟨pc,ok⟩ ⟨hp,c',hc',hcl'⟩;dsimp only at hp hc'⊢;subst hc';refine Tm.bind (Q:=λt=>(t=true->ok=true)/\(t=false->ok=true->f=true)) (bA (λh2=>bA (λh3=>aI ⟨λ_=>h2,λe=>(by cases e)⟩) (λh3=>aV (ko hcl' hc) (aI ⟨λ_=>h2,λ_ _=>by simpa using h3⟩))) (λh2=>aI ⟨λe=>(by cases e),λ_ e=>bV e h2⟩)) ?_;rintro t ⟨ht1,ht2⟩;refine bA (λh2=>aI ⟨⟨c',rfl,hcl'⟩,.inl ⟨rfl,k,rfl,hlt,h1,hp.1 (ht1 h2)⟩⟩) (λh2=>aI ⟨⟨c,rfl,hc⟩,?_⟩);dsimp only;rcases hI with hI|⟨h3,h4⟩
     . exact .inl hI
     . refine .inr ⟨h3,λv hv h0 x hx=>?_⟩;rcases cH v k with h5|h5
       . exact h4 v h5 h0 x hx
       . obtain rfl:v=k:=by omega
         refine ji λe=>?_;have:=ht2 (by simpa using h2) (hp.2 ⟨x,hx,e⟩);rw[h3]at this;cases this
   . rintro⟨b',f',l'⟩ ⟨⟨c',hc',hcl'⟩,h2⟩;exact aI ⟨hlt,eK (by omega),⟨c',hc',hcl'⟩,h2⟩
 . have:k=s.n:=by have:¬(k:Int)<(s.n:Int):=hge;omega
   subst this;exact hI
theorem LZ{l:List AI}{f:Nat->bB->Option Bool}{g:AI->Bool}(hl:l.length<=1073741824)(h:∀x∈l,Tm (λN=>f N x.to) (·=g x)):Tm (λN=>uL N (mI l) (f N)) (λr=>(l.any g=false/\r=-1)\/∃k,∃hk:k<l.length,g l[k]=true/\(∀j (hj:j<k),g (l[j]'(by omega))=false)/\r=(k:Int)):=by
 unfold uL;refine Tm.bind (Tm.findL (b:=λN=>yL N (f N) (mI l)) l g (λk=>(k:Int)) (by omega) ?_ ?_) ?_
 . intro k hk;dsimp only[yL];refine cR (by rw[fG];omega) (aL (pT hk) (aV (h _ (dJ hk)) ?_));refine bA (λh=>aI ?_) (λh=>aI ?_)
   . simp[h]
   . simp[h]
 . dsimp only[yL];exact cD (by rw[fG];omega) (aI rfl)
 . rintro _ (⟨h,rfl⟩|⟨k,hk,hg,hj,rfl⟩)
   . exact aI (.inl ⟨h,rfl⟩)
   . exact aI (.inr ⟨k,hk,hg,hj,rfl⟩)
def tG(s:St)(v:Nat):Prop:=cM v s.aB=[]\/∀x∈dL v s.aB,ic v x (cM v s.aB)<0
theorem UP{s:St}{v:Nat}(hi:jd s.n s.aB)(hv:v<s.n):Tm (λN=>wo N s.to (v:Int)) (λr=>r=true↔tG s v):=by
 have hL:dh=1099511627776:=rfl;unfold wo;refine aV (B4 hi hv) ?_;dsimp only;rw[fG];refine bA (λh0=>aI ⟨λ_=>.inl (mU.1 (by omega)),λ_=>rfl⟩) (λh0=>?_);have hun:cM v s.aB≠[]:=λe=>h0 (by rw[e];rfl);have hlo:=yR (v:=v) hi;refine aV (a:=(dL v s.aB).any λx=>decide (0<=ic v x (cM v s.aB))) ?_ (aI ?_)
 . unfold AL;refine Tm.bind (LZ (f:=λN y0=>uC N y0 (v:Int) (mI (cM v s.aB))) (g:=λx=>decide (0<=ic v x (cM v s.aB))) hlo.1 λx hx=>?_) ?_
   . unfold uC;refine aV (xO (qj (v:=v) hi) hun (hlo.2 _ hx).1 (hlo.vf hx v) hv) (aV (jK (by have:=yJ (low:=x) (qj (v:=v) hi) hun (hlo.vf hx v);omega)) (aI ?_));exact decide_eq_decide.2 RC
   . rintro r (⟨h,rfl⟩|⟨k,hk,hg,-,rfl⟩)
     . exact aI (by rw[h];rfl)
     . exact aI (by rw[List.any_eq_true.2 ⟨_,dJ hk,hg⟩];simp)
 . rw[Ht,NO];unfold tG;constructor
   . exact λh=>.inr λx hx=>by have:=h x hx;simpa using this
   . rintro(h|h) x hx
     . exact bV h hun
     . have:=h x hx;simpa using this
end Go.D
namespace Go.D
open Go Go.X
theorem I5{a b:List AI}(ha:a.length<=1073741824)(hb:b.length<=1073741824):Tm (λN=>vz N [mI a,mI b]) (·=mI (a++b)):=by
 unfold vz;have hw:∀z:Int,0<=z->z<=4294967296->iw z=z:=λz h1 h2=>bL (by omega) (by omega);have two:(0:Int)<(([mI a,mI b]:List (List bB)).length:Int):=by simp
 have two1:(1:Int)<(([mI a,mI b]:List (List bB)).length:Int):=by simp
 refine aV (a:=((a.length+b.length:Nat):Int)) ?_ ?_
 . refine e9 2 (λk t=>(k=0->t=(0,0))/\(k=1->t=((a.length:Int),1))/\(k=2->t=(((a.length+b.length:Nat):Int),2))) ⟨λ_=>rfl,λh=>(by omega),λh=>(by omega)⟩ ?_;rintro k hk t ⟨h0,h1,h2⟩;rcases k with _|_|k
   . obtain rfl:=h0 rfl;dsimp only[yZ];refine cR two (aL (a:=mI a) rfl ?_);rw[fG,hw _ (by omega) (by omega)];refine cD (by omega) (aI ⟨by omega,λh=>by omega,λ_=>?_,λh=>by omega⟩);rw[hw _ (by omega) (by omega)];simp
   . obtain rfl:=h1 rfl;dsimp only[yZ];refine cR two1 (aL (a:=mI b) rfl ?_);rw[fG,hw _ (by omega) (by omega)];refine cD (by omega) (aI ⟨by omega,λh=>by omega,λh=>by omega,λ_=>?_⟩);rw[hw _ (by omega) (by omega)];simp
   . obtain rfl:k=0:=by omega
     obtain rfl:=h2 rfl;dsimp only[yZ];exact cD (by simp) (aI rfl)
 . dsimp only;refine aV (a:=([]:List bB)) ?_ ?_
   . unfold BM;rw[show iw (((a.length+b.length:Nat):Int)-iw (0-0))=((a.length+b.length:Nat):Int) by rw[show iw (0-0)=0 by decide,Df];exact hw _ (by omega) (by omega)];refine cD (by omega) (aV (a:=([]:List bB)) (bA (λh=>?_) (λh=>aI rfl)) (aI rfl));rw[mh];refine aL (eb (by simp only[dZ,lE];omega) (by decide)) ?_;refine aL (tR (m:=0) (n:=0) rfl rfl (by omega) (by omega)) (aI ?_);simp
   . refine aV (a:=mI (a++b)) (e9 2 (λk t=>(k=0->t=(([]:List bB),(0:Int)))/\(k=1->t=(mI a,1))/\(k=2->t=(mI (a++b),2))) ⟨λ_=>rfl,λh=>(by omega),λh=>(by omega)⟩ ?_) (aI rfl);rintro k hk t ⟨h0,h1,h2⟩;rcases k with _|_|k
     . obtain rfl:=h0 rfl;dsimp only[yH];refine cR two (aL (a:=mI a) rfl (aL (eb (by rw[fG];simp only[dZ];omega) (by decide)) (aI ⟨by omega,λh=>by omega,λ_=>?_,λh=>by omega⟩)));rw[hw _ (by omega) (by omega)];simp
     . obtain rfl:=h1 rfl;dsimp only[yH];refine cR two1 (aL (a:=mI b) rfl (aL (eb (by rw[fG,fG];omega) (by decide)) (aI ⟨by omega,λh=>by omega,λh=>by omega,λ_=>?_⟩)));rw[hw _ (by omega) (by omega)];simp[mI]
     . obtain rfl:k=0:=by omega
       obtain rfl:=h2 rfl;dsimp only[yH];exact cD (by simp) (aI rfl)
theorem QE{l:List AI}{f:Nat->bB->Option Bool}{g:AI->Bool}(hl:l.length<=1073741824)(h:∀x∈l,Tm (λN=>f N x.to) (·=g x)):Tm (λN=>xC N (mI l) (f N)) (·=mI (l.filter λx=>!g x)):=by
 unfold xC;refine Tm.bind (LZ hl h) ?_;rintro r (⟨hany,rfl⟩|⟨k0,hk0,hg0,hbef,rfl⟩)
 . refine cR rfl (aI ?_);congr 1;rw[List.filter_eq_self.2];intro x hx;rw[NO]at hany;have:=hany x hx;simpa using this
 . refine cD (by omega) ?_;have hfil0:(l.take (k0+1)).filter (λx=>!g x)=l.take k0:=by
    rw[<-j9 hk0,Di,List.filter_eq_self.2]
    . simp[hg0]
    . intro x hx;obtain⟨j,hj,rfl⟩:=nU hx;rw[fA]at hj;rw[List.getElem_take,hbef j (by omega)];rfl
   refine Tm.bind (Q:=λt=>∃c:List bB,∃i:Nat,t=(c,(i:Int))/\c.length=l.length/\i<l.length/\c.take i=mI (l.filter λx=>!g x))
    (Tm.vU (λ(k:Nat) (t:List bB×Int×Int)=>k0+1<=k/\k<=l.length/\∃c:List bB,∃i:Nat,t=(c,(i:Int),(k:Int))/\c.length=l.length/\i<k/\c.take i=mI ((l.take k).filter λx=>!g x)/\c.drop k=mI (l.drop k)) (λk=>l.length-k) (k0+1) ⟨bO _,hk0,mI l,k0,?_,fG l,by omega,?_,?_⟩ ?_) ?_
   . rw[eK (by omega)]
   . rw[hfil0];unfold mI;rw[List.map_take]
   . unfold mI;rw[Oi]
   . rintro k _ ⟨hk1,hk2,c,i,rfl,hcl,hik,ht,hd⟩;dsimp only[Fo];refine bA (λhlt=>?_) (λhge=>aI ?_)
     . have hlt:k<l.length:=by omega
       have hck:c[k]?=some (l[k]).to:=by
        have:=dz (λz:List bB=>z[0]?) hd;simp only[tX,qs,mI,ij,cy hlt]at this;exact this
       refine Tm.bind (Q:=λr=>∃c':List bB,∃i':Nat,r=(c',(i':Int))/\c'.length=l.length/\i'<k+1/\c'.take i'=mI ((l.take (k+1)).filter λx=>!g x)/\c'.drop (k+1)=mI (l.drop (k+1))) (aL (lk hck) (aV (h _ (dJ hlt)) (bA (λh1=>?_) (λh1=>aI ⟨c,i,rfl,hcl,by omega,?_,?_⟩)))) ?_
       . have h1:g l[k]=false:=by simpa using h1
         refine aL (dA (by omega)) (aL (eE rfl (by omega)) (aI ⟨c.set i (l[k]).to,i+1,by rw[eK (by omega)],by rw[iK];exact hcl,by omega,?_,?_⟩))
         . have e1:(c.set i (l[k]).to).take (i+1)=c.take i++[(l[k]).to]:=by
            rw[qu (by rw[iK];omega),zu (by omega),List.getElem_set_self]
           rw[e1,ht,<-j9 hlt,Di];unfold mI;simp[h1]
         . rw[List.drop_set,bD (by omega)];have:=dz (List.drop 1) hd;rw[rN]at this;rw[this];unfold mI;rw[<-Oi,rN]
       . have h1:g l[k]=true:=by simpa using h1
         rw[ht,<-j9 hlt,Di];simp[h1]
       . have:=dz (List.drop 1) hd;rw[rN]at this;rw[this];unfold mI;rw[<-Oi,rN]
       . rintro _ ⟨c',i',rfl,a1,a2,a3,a4⟩;exact aI ⟨k+1,⟨by omega,by omega,c',i',by rw[eK (by omega)],a1,a2,a3,a4⟩,by omega⟩
     . have:k=l.length:=by omega
       subst this;rw[fC (bO _)]at ht;exact⟨c,i,rfl,hcl,by omega,ht⟩
   . rintro _ ⟨c,i,rfl,hcl,hil,ht⟩;dsimp only;rw[PE (by omega) (bO _)];refine aL (a:=()) rfl ?_;have hcut:cut (qO c (i:Int) (c.length:Int) (bB.mk 0 [])) 0 (i:Int)=some (c.take i):=by
      have:=JX (xs:=c) (l:=i) (h:=c.length) (z:=bB.mk 0 []) (by omega) (bO _);rw[tR (i:=0) (j:=(i:Int)) (m:=0) (n:=i) rfl rfl (by omega) (by omega),lC];unfold qO;rw[mh,rO (by rw[fA];omega),NI];simp
     refine aL hcut (aI ht)
def comb(n v:Nat)(x y:AI):List Int:=vec n λj=>-vf y.g v*vf x.g j+vf x.g v*vf y.g j
def nQ(n v:Nat)(x y:AI):Act:=.put (comb n v x y) [⟨x.pos,-vf y.g v⟩,⟨y.pos,vf x.g v⟩]
def eV(s:St)(v:Nat)(dP:Bool):St:={s with aN:=s.aN.set v 2,aB:=s.aB.filter (λx=>!decide (vf x.g v≠0)),aK:=s.aK++[⟨v,(cM v s.aB++dL v s.aB).map AI.pos,dP⟩]}
def rK(n v:Nat)(cr lows:List AI)(k m:Nat):List Act:=((lows.drop m).map λy=>nQ n v (cr.getD k ⟨0,[]⟩) y)++(cr.drop (k+1)).flatMap λx=>lows.map λy=>nQ n v x y
def dt(s:St)(v:Nat):List Act:=(cM v s.aB).flatMap λx=>(dL v s.aB).map λy=>nQ s.n v x y
theorem Po{n v:Nat}{cr lows:List AI}{k:Nat}(h:k<cr.length):(cr.drop k).flatMap (λx=>lows.map λy=>nQ n v x y)=rK n v cr lows k 0:=by
 unfold rK;rw[fJ h,Dh,lC,cN,cy h];rfl
theorem UJ{n v:Nat}{cr lows:List AI}{k m:Nat}(hk:k<cr.length)(h:m<lows.length):rK n v cr lows k m=nQ n v cr[k] lows[m]::rK n v cr lows k (m+1):=by
 unfold rK;rw[fJ h,kz,CZ,cN,cy hk];rfl
theorem RE{n v:Nat}{cr lows:List AI}{k:Nat}:rK n v cr lows k lows.length=(cr.drop (k+1)).flatMap (λx=>lows.map λy=>nQ n v x y):=by
 unfold rK;rw[Dd];rfl
theorem MP{s:St}{v:Nat}:(dt s v).length=(cM v s.aB).length*(dL v s.aB).length:=by
 unfold dt;generalize cM v s.aB=a;generalize dL v s.aB=b
 induction a with
 |nil=>simp
 |cons x a ih=>rw[Dh,di,ih,cT,cJ,ig];omega
theorem Ir{s:St}{v:Nat}{a:Act}:a∈dt s v↔∃x∈cM v s.aB,∃y∈dL v s.aB,a=nQ s.n v x y:=by
 unfold dt;simp only[wS,dR];constructor
 . rintro⟨x,hx,y,hy,rfl⟩;exact⟨x,hx,y,hy,rfl⟩
 . rintro⟨x,hx,y,hy,rfl⟩;exact⟨x,hx,y,hy,rfl⟩
theorem Vm{K Kk:Nat}{s:St}{v:Nat}{dP:Bool}(hs:gJ K s)(hv:v<s.n)(hst:s.aN.length=s.n)(hstk:s.aK.length<=1000000)(hK:Kk+6<=K)(hA:∀a∈dt s v,mc Kk (eV s v dP) a)(hr:jJ (dt s v).length (eV s v dP)):
 Tm (λN=>oS N s.to (v:Int) dP) (·=((cw (eV s v dP) (dt s v)).1,(cw (eV s v dP) (dt s v)).2.to)):=by
 have hL:dh=1099511627776:=rfl;have hi:jd s.n s.aB:=⟨hs.il,λx hx=>(hs.i x hx).2⟩;have hup:=qj (v:=v) hi;have hlo:=yR (v:=v) hi;have hul:=hup.1;have hll:=hlo.1;have hn:=hs.n;unfold oS;refine aV (B4 hi hv) ?_;dsimp only;refine aV (I5 hup.1 hlo.1) ?_;generalize hU:cM v s.aB=U at*;generalize hW:dL v s.aB=W at*;refine aV (a:=((U++W).map AI.pos).map Int.ofNat) (e9 (U++W).length (λk t=>t=((((U++W).take k).map AI.pos).map Int.ofNat,(k:Int))) rfl ?_) ?_
 . rintro k hk _ rfl;dsimp only[Gp];rw[fG];refine bA (λhlt=>?_) (λhge=>aI ?_)
   . have hlt:k<(U++W).length:=by omega
     rw[di]at hlt;refine aL (pT (by rw[di];exact hlt)) (aL (eb (by simp only[cT,fA,cJ,dZ,di];omega) (by decide)) (aI ⟨by rw[di];exact hlt,?_⟩));rw[eK (by omega),<-j9 (by rw[di];exact hlt)];simp only[jP];rfl
   . show _=_;rw[fC (by omega)]
 refine aL (eb (by show((s.aK.map AE.to).length+_)*_<=_;simp only[cT,cJ,dZ];omega) (by decide)) ?_;refine aL (Bd (l:=s.aN) (by omega)) (aL (eE (xs:=s.aN) rfl (by omega)) ?_);refine aV (a:=mI s.aB) ?_ ?_
 . unfold rE;exact aL (eb (by show(_+(mI s.aB).length)*_<=_;rw[fG];have:=hs.il;simp only[dZ];omega) (by decide)) (aI rfl)
 refine aV (QE (f:=λN y0=>uz N y0 (v:Int)) (g:=λx=>decide (vf x.g v≠0)) hs.il λx hx=>?_) ?_
 . unfold uz;refine aL (eD (l:=x.g) (by rw[(hi.2 x hx).1];exact hv)) (aV (jK (bU (hi.vf hx v) (by decide))) (aI (decide_eq_decide.2 py)))
 have hLU:dt s v=U.flatMap λx=>W.map λy=>nQ s.n v x y:=by unfold dt;rw[hU,hW]
 have hdn:(eV s v dP).n=s.n:=rfl;have hok0:gJ K (eV s v dP):=⟨hs.n,hs.kl,hs.sl,bU (ue ..) hs.il,hs.k,λx hx=>hs.i x (o7.1 hx).1,hs.K⟩;have hfirst:jf (eV s v dP)=(s.to.aA,s.to.aU,s.to.u,s.aN.set v 2,s.to.value,mI (s.aB.filter λx=>!decide (vf x.g v≠0)),s.to.aK++[dW.mk (v:Int) (((U++W).map AI.pos).map Int.ofNat) dP]):=by
  unfold jf eV;rw[hU,hW];unfold St.to;dsimp only;rw[jP];rfl
 refine Tm.bind (Q:=λr=>(∃s',r=.inl (jf s')/\cw (eV s v dP) (dt s v)=(true,s')/\s'.n=s.n)\/r=.inr ((cw (eV s v dP) (dt s v)).1,(cw (eV s v dP) (dt s v)).2.to))
  (e9 U.length (λk t=>∃s' k',iS K (eV s v dP) (dt s v) k' s'/\(dt s v).drop k'=(U.drop k).flatMap (λx=>W.map λy=>nQ s.n v x y)/\t=(s'.to.aA,s'.to.aU,s'.to.u,s'.to.aN,s'.to.value,s'.to.aB,s'.to.aK,(k:Int))) ⟨eV s v dP,0,iS.first hok0 hr,by rw[lC,lC,hLU],?_⟩ ?_) ?_
 . have:=hfirst;unfold jf at this;simp only[nW]at this;obtain⟨a1,a2,a3,a4,a5,a6,a7⟩:=this;rw[a1,a2,a3,a4,a5,a6,a7];rfl
 . rintro k hk _ ⟨s',k',hvv,hd,rfl⟩;dsimp only[G7];rw[fG];refine bA (λhlt=>?_) (λhge=>aI ?_)
   . have hlt:k<U.length:=by omega
     rw[Po hlt]at hd;refine aL (pT hlt) ?_;have hxm:U[k]∈U:=dJ hlt;have hxl:=(hup.2 _ hxm).1;refine Tm.bind (Q:=λr=>(∃s'' k'',r=.inl (jf s'')/\iS K (eV s v dP) (dt s v) k'' s''/\(dt s v).drop k''=(U.drop (k+1)).flatMap (λx=>W.map λy=>nQ s.n v x y))\/r=.inr ((cw (eV s v dP) (dt s v)).1,(cw (eV s v dP) (dt s v)).2.to))
      (e9 W.length (λm t=>∃s'' k'',iS K (eV s v dP) (dt s v) k'' s''/\(dt s v).drop k''=rK s.n v U W k m/\t=(s''.to.aA,s''.to.aU,s''.to.u,s''.to.aN,s''.to.value,s''.to.aB,s''.to.aK,(m:Int))) ⟨s',k',hvv,hd,rfl⟩ ?_) ?_
     . rintro m hm _ ⟨s2,k2,hv2,hd2,rfl⟩;dsimp only[Ew];rw[fG];refine bA (λhlt2=>?_) (λhge2=>aI ?_)
       . have hlt2:m<W.length:=by omega
         rw[UJ hlt hlt2]at hd2;have hk2l:k2<(dt s v).length:=by
          rcases cH k2 (dt s v).length with h1|h1
          . exact h1
          . rw[C9 h1]at hd2;cases hd2
         rw[fJ hk2l]at hd2;obtain⟨e1,e2⟩:=wP hd2;have hym:W[m]∈W:=dJ hlt2;have hyl:=(hlo.2 _ hym).1;have dx:=λj=>hup.vf hxm j;have dy:=λj=>hlo.vf hym j;have hact:=hA _ (dJ hk2l);rw[e1]at hact;obtain⟨g1,g2,g3,g4⟩:=hv2.put hk2l e1 (K0:=Kk) hact hK;refine aL (pT hlt2) (aL (eD (l:=(U[k]).g) (by omega)) (aL (eD (l:=(W[m]).g) (by omega)) (aV (ou (bU (dy v) (by decide))) (aL (iy (n:=s.n) rfl (by omega) (by decide)) ?_))));rw[<-og];refine aV (a:=mB (comb s.n v U[k] W[m])) ?_ ?_
         . refine(Tm.tC (n:=s.n) (by omega) (λj=>-vf (W[m]).g v*vf (U[k]).g j+vf (U[k]).g v*vf (W[m]).g j) (by simp) (fin:=id) ?_ ?_)
           . intro j hj c hc hic;dsimp only[CA];have h1:=kD (-vf (W[m]).g v) (vf (U[k]).g j);have h2:=kD (vf (U[k]).g v) (vf (W[m]).g j);rw[gx]at h1;have:=dx j;have:=dx v;have:=dy j;have:=dy v;refine cR (by rw[dT,lE];omega) (aL (eD (l:=(U[k]).g) (by omega)) (aV (ox (by rw[gx];omega) (by omega)) (aL (eD (l:=(W[m]).g) (by omega)) (aV (ox (by omega) (by omega)) (aV (mf (by omega) (by omega)) (aL hic (aL (eE rfl (by omega)) (aI rfl))))))))
           . intro c hc;dsimp only[CA];exact cD (by rw[dT,lE];omega) (aI rfl)
         . have hns:s.to.n=s2.to.n:=by show(s.n:Int)=s2.n;rw[hv2.n];rfl
           rw[jc (x:=s2.to) hns];refine aV g1 ?_;have hns2:s.to.n=(put s2 (comb s.n v U[k] W[m]) [⟨(U[k]).pos,-vf (W[m]).g v⟩,⟨(W[m]).pos,vf (U[k]).g v⟩]).2.to.n:=by
            show(s.n:Int)=((put s2 _ _).2.n:Int);rw[g4];rfl
           refine bA (λhf=>aI (.inr ?_)) (λht=>aI ⟨hlt2,_,k2+1,g2 (by simpa using ht),e2,by rw[eK (by omega)]⟩);dsimp only;rw[jc hns2,g3 (by simpa using hf)]
       . have:m=W.length:=by omega
         subst this;rw[RE]at hd2;exact .inl ⟨s2,k2,rfl,hv2,hd2⟩
     . rintro r (⟨s2,k2,rfl,h1,h2⟩|rfl)
       . exact aI ⟨hlt,s2,k2,h1,h2,by rw[eK (by omega)]⟩
       . exact aI (.inr rfl)
   . have:k=U.length:=by omega
     subst this;rw[Dd]at hd;refine .inl ⟨s',rfl,?_,hvv.n⟩;rw[hvv.run,hd];rfl
 . rintro r (⟨s',rfl,h1,h2⟩|rfl)
   . refine aI ?_;show(true,aS.mk s.to.n s'.to.aA s'.to.aU s'.to.u s'.to.aN s'.to.value s'.to.aB s'.to.aK)=_;rw[vQ h2.symm,h1]
   . exact aI rfl
end Go.D

/- Plain theorems and definitions of this seat, several texts in one. -/
import Derived.Test.YtipdkfmhfakbnaaGreatDoorAd
import Derived.Test.YtipdkfmhfakbnaaGreatDoorAa
set_option linter.unusedVariables false
set_option linter.unusedSimpArgs false
set_option linter.unusedSectionVars false
namespace Go.D
open Go Go.X
def FL(N:Nat)(l:(List aB)):(Bool×(List Int)×Int)->Option (aK (Bool×(List Int)×Int) (Bool×(List Int)))
 |(b,c,a)=>(if(a:Int)<(List.length l:Int)then (idx l a).bind fun e=>(tK N (aB.mk b c) e).bind fun d=>some (aK.next (d.bG,d.aP,(iw (a+1)))) else some (aK.done (b,c)))
def xQ(N:Nat)(l:(List aB)):Option aB:=(bI (FL N l) N (false,[],0)).bind fun ss=>match ss with
  |(a,b)=>some (aB.mk a b)
def zp(N:Nat)(l:(List aB)):((List aB)×Int)->Option (aK ((List aB)×Int) (List aB))
 |(b,a)=>(if(a:Int)<(List.length l:Int)then (idx l a).bind fun c=>(jq N c).bind fun d=>(idx b a).bind fun f=>(dw b a d).bind fun e=>some (aK.next (e,(iw (a+1)))) else some (aK.done b))
def mu(N:Nat)(l:(List aB)):Option (List aB):=(gg (α:=aB) 32 (aB.mk false []) (List.length l:Int)).bind fun x2=>(bI (zp N l) N (x2,0)).bind fun ss=>match ss with
  |a=>some a
def Eh(N:Nat)(g:(List aB)):((List (List UInt8))×Int)->Option (aK ((List (List UInt8))×Int) (List (List UInt8)))
 |(b,a)=>(if(a:Int)<(List.length g:Int)then (idx g a).bind fun c=>(uL N c).bind fun d=>(cM 16 b [d]).bind fun e=>some (aK.next (e,(iw (a+1)))) else some (aK.done b))
def tT(N:Nat)(g:(List aB)):Option (List UInt8):=(bI (Eh N g) N (([]:(List (List UInt8))),0)).bind fun ss=>match ss with
  |a=>(qw N a ([32]:List UInt8)).bind fun b=>some b
def Ej(N:Nat)(pa:Int)(bR:(List aY)):(aB×Int)->Option (aK (aB×Int) aB)
 |(b,a)=>(if(a:Int)<(List.length bR:Int)then (idx bR a).bind fun c=>(idx c.g pa).bind fun d=>(iN N d b).bind fun e=>(if(e:Int)>0 then (idx c.g pa).bind fun f=>some (aK.next (f,(iw (a+1)))) else some (aK.next (b,(iw (a+1))))) else some (aK.done b))
def ox(N:Nat)(pa:Int)(low:aY)(bR:(List aY)):Option aB:=(idx bR 0).bind fun c=>(idx c.g pa).bind fun d=>(bI (Ej N pa bR) N (d,0)).bind fun ss=>match ss with
  |a=>(idx low.g pa).bind fun e=>(jq N e).bind fun b=>(km N a b).bind fun f=>(jc N f a).bind fun i=>(jc N i b).bind fun j=>(kG N j a).bind fun k=>some k.1
def Da(N:Nat)(x:aY):(Int×Int×Int)->Option (aK (Int×Int×Int) (Int×Int))
 |(c,b,a)=>(if(a:Int)<(List.length x.g:Int)then (idx x.g a).bind fun d=>(gJ N d).bind fun e=>(if(e:Int)≠0 then some (aK.next (a,(iw (b+1)),(iw (a+1)))) else some (aK.next (c,b,(iw (a+1))))) else some (aK.done (c,b)))
def uH(N:Nat)(x:aY):Option (Int×Bool):=(bI (Da N x) N (0,0,0)).bind fun ss=>match ss with
  |(a,b)=>some (a,(decide ((b:Int)=1)))
def BE(N:Nat)(pb:Int)(pc:Int)(r1:(List aY)):((List aY)×Int)->Option (aK ((List aY)×Int) (List aY))
 |(b,a)=>(if(a:Int)<(List.length r1:Int)then (idx b a).bind fun c=>(if(c.pos:Int)=pb then (idx b a).bind fun d=>(dw b a (aY.mk pc d.g)).bind fun e=>some (aK.next (e,(iw (a+1)))) else some (aK.next (b,(iw (a+1))))) else some (aK.done b))
def vg(N:Nat)(l:(List aY))(pb:Int)(pc:Int):Option (List aY):=(qI N l).bind fun r1=>(bI (BE N pb pc r1) N (r1,0)).bind fun ss=>match ss with
  |a=>some a
def Bj(N:Nat)(n:Int)(pb:Int)(sign:Int)(bound:aB):Option bB:=(gg (α:=aB) 32 (aB.mk false []) n).bind fun a=>(fN N sign).bind fun b=>(idx a pb).bind fun d=>(dw a pb b).bind fun c=>some (bB.mk c bound)
def qn(N:Nat)(a:aB)(b:aB):Option Bool:=(iN N a b).bind fun c=>some (decide ((c:Int)=0))
def qh(N:Nat)(x:aB):Option aB:= some (aB.mk false x.aP)
def uO(N:Nat)(x:aY)(ca:Int)(cb:(List aY)):Option Bool:=(ox N ca x cb).bind fun r8=>(gJ N r8).bind fun a=>some (decide ((a:Int)≥0))
def vu(N:Nat)(x:aY)(ca:Int):Option Bool:=(idx x.g ca).bind fun x7=>(gJ N x7).bind fun a=>some (decide ((a:Int)≠0))
open Go Go.X
def dec(n:Nat):List UInt8:=if h:n=0 then[]else dec (n/10)++[UInt8.ofNat (48+n%10)]
termination_by n
decreasing_by omega
def p6(c:UInt8):Prop:=48<=c.toNat/\c.toNat<=57
instance (c:UInt8):Decidable (p6 c):=inferInstanceAs (Decidable (_/\_))
def rb(s:List UInt8):Nat:=s.foldl (fun v c=>10*v+(c.toNat-48)) 0
theorem RM(s:List UInt8)(c:UInt8):rb (s++[c])=10*rb s+(c.toNat-48):=by simp[rb,M2]
theorem KR{r:Nat}(h:r<10):(UInt8.ofNat (48+r)).toNat=48+r:=by
 rw[UInt8.toNat_ofNat'];omega
theorem Uu{r:Nat}(h:r<10):p6 (UInt8.ofNat (48+r)):=by
 unfold p6;rw[KR h];omega
theorem uX:dec 0=[]:=by rw[dec];simp
theorem ub{n:Nat}(h:0<n):dec n=dec (n/10)++[UInt8.ofNat (48+n%10)]:=by
 rw[dec,dif_neg (by omega)]
theorem Ru{n:Nat}(h:0<n):dec n≠[]:=by rw[ub h];simp
theorem Tb(n:Nat):rb (dec n)=n:=by
 induction n using Nat.strongRecOn with
 |ind n ih=>
  rcases gz n with rfl|h
  . rw[uX];rfl
  . rw[ub h,RM,ih (n/10) (by omega),KR (by omega)];omega
theorem AP(n:Nat):∀c∈dec n,p6 c:=by
 induction n using Nat.strongRecOn with
 |ind n ih=>
  rcases gz n with rfl|h
  . rw[uX];simp
  . rw[ub h];intro c hc;rcases fR.1 hc with hc|hc
    . exact ih (n/10) (by omega) c hc
    . rw[cP.1 hc];exact Uu (by omega)
theorem qZ{n:Nat}(h:0<n):Go.Lib.decDigits n=dec n:=by
 induction n using Nat.strongRecOn with
 |ind n ih=>
  rw[Go.Lib.decDigits];split
  . rename_i h10;rw[ub h,show n/10=0 by omega,uX,show n%10=n by omega];rfl
  . rw[ih (n/10) (by omega) (by omega),ub h]
theorem BR:Go.Lib.decDigits 0=[48]:=by rw[Go.Lib.decDigits,dif_pos (by omega)];rfl
def pad:Nat->Nat->List UInt8
 |0,_=>[]
 |k+1,r=>pad k (r/10)++[UInt8.ofNat (48+r%10)]
theorem Iw:∀{k q r:Nat},0<q->r<10^k->dec (q*10^k+r)=dec q++pad k r
 |0,q,r,h,hr=>by
  have:r=0:=by simpa using hr
  rw[this,pad];simp
 |k+1,q,r,h,hr=>by
  have hm:0<10^k:=Nat.pow_pos (by omega);have hq:0<q*10^k:=Nat.mul_pos h hm;have hpow:10^(k+1)=10*10^k:=by rw[Nat.pow_succ,Nat.mul_comm]
  have e:q*10^(k+1)=10*(q*10^k):=by rw[hpow,Nat.mul_left_comm]
  rw[e]at*;rw[ub (by omega),show(10*(q*10^k)+r)/10=q*10^k+r/10 by omega,show(10*(q*10^k)+r)%10=r%10 by omega,Iw h (by omega),pad,je]
theorem G7:∀{k:Nat},pad k 0=List.replicate k 48
 |0=>rfl
 |k+1=>by rw[pad,G7,List.replicate_succ'];rfl
theorem EA:∀{k r:Nat},0<k->r<10^k->(Go.Lib.decDigits r).length<=k
 |0,_,h,_=>by omega
 |k+1,r,_,hr=>by
  rw[Go.Lib.decDigits];split
  . simp
  . have hk:0<k:=by
     rcases gz k with rfl|h
     . simp at hr;omega
     . exact h
    have:=EA (k:=k) (r:=r/10) hk (by rw[Nat.pow_succ]at hr;omega);simp;omega
theorem KB:∀{k r:Nat},0<k->r<10^k->pad k r=List.replicate (k-(Go.Lib.decDigits r).length) 48++Go.Lib.decDigits r
 |0,_,h,_=>by omega
 |k+1,r,_,hr=>by
  rw[Go.Lib.decDigits,pad];split
  . rw[show r/10=0 by omega,G7,show r%10=r by omega];simp
  . have hk:0<k:=by
     rcases gz k with rfl|h
     . simp at hr;omega
     . exact h
    rw[KB (k:=k) hk (by rw[Nat.pow_succ]at hr;omega)];rw[dd,<-je];congr 2;congr 1;show _=k+1-(_+1);omega
theorem repeatL_one:∀{c:Nat},Go.Lib.repeatL [48] c=List.replicate c (48:UInt8)
 |0=>rfl
 |c+1=>by rw[Go.Lib.repeatL,repeatL_one,yy];rfl
theorem Ny:∀{xs:List (List UInt8)},Go.Lib.join xs []=xs.flatten
 |[]=>rfl
 |x::xs=>by
  rw[Go.Lib.join_cons,Go.Lib.joinTail];simp
def fi(v:Int):List UInt8:=if v<0 then 45::dec v.natAbs else Go.Lib.decDigits v.toNat
theorem uQ{v:Int}(h:v<0):fi v=45::dec v.natAbs:=by rw[fi,if_pos h]
theorem uq{v:Int}(h:0<v):fi v=dec v.toNat:=by rw[fi,if_neg (by omega),qZ (by omega)]
theorem xO:fi 0=[48]:=by rw[fi,if_neg (by omega)];exact BR
def body(s:List UInt8):List UInt8:=Go.Lib.trimPrefix s [45]
theorem CJ{c:UInt8}{s:List UInt8}:body (c::s)=if c=45 then s else c::s:=by
 unfold body Go.Lib.trimPrefix Go.Lib.hasPrefix;by_cases h:c=45
 . subst h;rw[if_pos rfl,if_pos (by rfl)];rfl
 . rw[if_neg h,if_neg];intro e;have e1:([45]:List UInt8).isPrefixOf (c::s)=true:=e;rw[List.isPrefixOf_cons_cons]at e1;simp only[fI,beq_iff_eq]at e1;exact h e1.1.symm
theorem TD:body []=[]:=by
 unfold body Go.Lib.trimPrefix Go.Lib.hasPrefix;simp
theorem IP{c:UInt8}(h:p6 c):c≠45:=by
 intro e;subst e;unfold p6 at h;simp at h
theorem SN(v:Int):body (fi v)=Go.Lib.decDigits v.natAbs:=by
 rcases tv v 0 with h|rfl|h
 . rw[uQ h,CJ,if_pos rfl,qZ (by omega)]
 . rw[xO,CJ,if_neg (by decide)];exact BR.symm
 . rw[uq h,qZ (by omega),show v.natAbs=v.toNat by omega];cases hd:dec v.toNat with
   |nil=>exact TD
   |cons c t=>rw[CJ,if_neg (IP (AP v.toNat c (by rw[hd];exact cO)))]
theorem Lc(n:Nat):Go.Lib.decDigits n≠[]:=by
 rcases gz n with rfl|h
 . rw[BR];simp
 . rw[qZ h];exact Ru h
theorem NS(n:Nat):rb (Go.Lib.decDigits n)=n:=by
 rcases gz n with rfl|h
 . rw[BR];rfl
 . rw[qZ h];exact Tb n
def sval(s:List UInt8):Int:=if s.head?=some 45 then-(rb (body s):Int)else rb (body s)
theorem LJ(v:Int):sval (fi v)=v:=by
 unfold sval;rw[SN,NS];rcases tv v 0 with h|rfl|h
 . rw[if_pos (by rw[uQ h];rfl)];omega
 . rw[if_neg (by rw[xO];decide)];rfl
 . rw[if_neg]
   . omega
   . rw[uq h];intro e;have:=AP v.toNat 45 (List.mem_of_head? e);exact IP this rfl
theorem EK{B:Int}(hB:0<B){l:List Int}{v:Int}(h:Dg B l v):(List.length l:Int)>0↔v≠0:=by
 have:=h.zero hB;cases l with
 |nil=>
  have h0:=this.1 rfl;simp[h0]
 |cons x l=>
  have h0:v≠0:=fun e=>by have:=this.2 e;cases this
  simp only[cv];exact⟨fun _=>h0,fun _=>by omega⟩
theorem JF:aC^10<=(10:Int)^97:=by decide+kernel
theorem Bt{n:Nat}(h:n<10^97):(dec n).length<=97:=by
 rcases gz n with rfl|h0
 . rw[uX];simp
 . rw[<-qZ h0];exact EA (by omega) h
theorem DT:∀{xs:List (List UInt8)},(∀p∈xs,p≠[])->xs.length<=xs.flatten.length
 |[],_=>by simp
 |x::xs,h=>by
  have h1:=DT (xs:=xs) (fun p hp=>h p (cJ _ hp));have h2:=h x cO;have:0<x.length:=qV.2 h2;simp at h1⊢;omega
theorem NZ{i:Int}{n:Nat}(h:i=(n:Int))(hn:n<18446744073709551616):Tm (fun N=>w7 N i 10) (fun r=>r=Go.Lib.decDigits n):=
 ⟨_,0,rfl,fun N _=>by subst h;unfold w7;rw[if_pos ⟨by omega,by omega,rfl⟩,mn]⟩
theorem R6{i:Int}{n:Nat}(h:i=(n:Int))(hn:n<1000):Tm (fun N=>v7 N [48] i) (fun r=>r=List.replicate n 48):=
 ⟨_,0,rfl,fun N _=>by subst h;unfold v7;rw[if_pos ⟨by omega,by omega,by simp only[cv,dM];omega⟩,mn,repeatL_one]⟩
theorem Sk{xs:List (List UInt8)}(h:xs.length<=1000)(h':xs.flatten.length<=1000):Tm (fun N=>qw N xs []) (fun r=>r=xs.flatten):=
 ⟨_,0,rfl,fun N _=>by unfold qw;rw[Ny,if_pos ⟨by omega,by omega⟩]⟩
theorem NP{x:aB}(hd:bA aC x.aP)(hl:x.aP.length<=10):Tm (fun N=>uL N x) (fun r=>r=fi (bv x)):=by
 unfold uL;refine Tm.bind (o9 hd (by omega)) ?_;rintro y ⟨hy,hyl⟩;have hz:=hy.dg.zero (by decide);refine aZ (fun h=>aS ?_) (fun h=>?_)
 . have:y.aP=[]:=mo.1 (by omega);have h0:bv x=0:=by have:=hz.1 this;omega
   rw[h0,xO]
 . have hne:y.aP≠[]:=fun e=>h (by rw[e];rfl);have h0:bv x≠0:=fun e=>hne (hz.2 (by omega));generalize hV:(bv x).natAbs=V at*;have hVlt:V<10^97:=by
    have h1:=iq (B:=aC) (by decide) hy.dg.bL;have h2:=j4 (B:=aC) (by decide) (show y.aP.length<=10 by omega);have h3:=JF;rw[hy.dg.val]at h1;have:(V:Int)<((10^97:Nat):Int):=by rw[Gu];omega
    exact Int.ofNat_lt.1 this
   refine Tm.bind (Q:=fun parts:List (List UInt8)=>parts.reverse.flatten=dec V/\∀p∈parts,p≠[])
    (Tm.loop (fun t:List (List UInt8)×List Int=>∃n:Nat,Dg aC t.2 n/\t.2.length<=10/\dec n++t.1.reverse.flatten=dec V/\∀p∈t.1,p≠[]) (fun t=>(val aC t.2).toNat)
     ⟨V,by rw[<-hV];exact hy.dg,by show y.aP.length<=10;omega,by simp,by simp⟩ ?_) ?_
   . rintro⟨parts,d⟩ ⟨n,hdn,hdl,hf,hp⟩;dsimp only[E5]at*;have hpl:parts.length<=97:=by
      have h1:=DT (xs:=parts.reverse) (fun p hp'=>hp p (Na.1 hp'));have h2:=congrArg List.length hf;have h3:=Bt hVlt;rw[dd]at h2;rw[vT]at h1;omega
     refine aZ (fun h=>?_) (fun h=>aS ?_)
     . have hn0:(n:Int)≠0:=(EK (by decide) hdn).1 h;refine Tm.bind (LL hdn.bL (by decide) (by decide) (by omega)) ?_;rintro⟨q,r⟩ ⟨hq1,hq2,hq3,hq4⟩;dsimp only at*;rw[hdn.val]at hq2 hq3;have hq2':val aC q=((n/1000000000:Nat):Int):=by rw[hq2];omega
       have hr':r=((n%1000000000:Nat):Int):=by rw[hq3];omega
       refine Tm.bind (pq hq1 (by omega)) ?_;rintro d' ⟨hd',hdl'⟩;rw[hq2']at hd';have hpos:=EK (by decide) hd';have hlt:n%1000000000<10^9:=by omega
       have hdl9:=EA (k:=9) (by omega) hlt;have huw:uw r=((n%1000000000:Nat):Int):=by rw[hr'];exact gN (by omega) (by omega)
       refine Tm.bind (NZ huw (by omega)) ?_;rintro _ rfl;have hμ:(val aC d').toNat<(val aC d).toNat:=by rw[hd'.val,hdn.val];omega
       refine Tm.bind (Q:=fun s=>s≠[]/\dec n=dec (n/1000000000)++s) (aZ (fun h=>?_) (fun h=>aS ?_)) ?_
       . have hc:iw (9-((Go.Lib.decDigits (n%1000000000)).length:Int))=((9-(Go.Lib.decDigits (n%1000000000)).length:Nat):Int):=by rw[bH]<;>omega
         refine Tm.bind (R6 hc (by omega)) ?_;rintro _ rfl;refine aN (ye (by rw[kQ];omega)) (aS ⟨?_,?_⟩)
         . intro e;exact Lc _ (F8.1 e).2
         . rw[<-KB (by omega) hlt,<-Iw (by have:=hpos.1 h;omega) hlt];congr 1;omega
       . have hq0:n/1000000000=0:=by
          rcases gz (n/1000000000)with h1|h1
          . exact h1
          . exact absurd (hpos.2 (by omega)) h
         refine⟨Lc _,?_⟩;rw[hq0,uX,show n%1000000000=n by omega,qZ (by omega)];rfl
       . rintro s ⟨hs1,hs2⟩;refine aN (dN (by simp only[cv,dM];omega) (by decide)) (aS ⟨⟨n/1000000000,hd',by show d'.length<=10;omega,?_,?_⟩,hμ⟩)
         . rw[<-hf,hs2];simp
         . intro p hp';rcases fR.1 hp' with h1|h1
           . exact hp p h1
           . rw[cP.1 h1];exact hs1
     . have hn0:n=0:=by
        rcases gz n with h1|h1
        . exact h1
        . exact absurd ((EK (by decide) hdn).2 (by omega)) h
       rw[hn0,uX]at hf;exact⟨by simpa using hf,hp⟩
   . rintro parts ⟨hf,hp⟩;have hlen:parts.length<=97:=by
      have h1:=DT (xs:=parts.reverse) (fun p hp'=>hp p (Na.1 hp'));have h3:=Bt hVlt;rw[hf,vT]at h1;omega
     refine Tm.bind (Q:=fun ps:List (List UInt8)=>ps.reverse.flatten=fi (bv x)/\ps.length<=98) (aZ (fun h=>?_) (fun h=>aS ?_)) ?_
     . refine aN (dN (by simp only[cv,dM];omega) (by decide)) (aS ⟨?_,by simp;omega⟩);have:bv x<0:=by rw[hy.neg]at h;simpa using h
       rw[uQ this,Nb,hV,<-hf];rfl
     . have:¬bv x<0:=by rw[hy.neg]at h;simpa using h
       rw[uq (by omega),hf,show(bv x).toNat=V by omega];exact⟨rfl,by omega⟩
     . rintro ps ⟨h1,h2⟩;have h3:(fi (bv x)).length<=98:=by
        have h3:=Bt hVlt;rcases tv (bv x) 0 with h|h|h
        . rw[uQ h,cv,hV];omega
        . exact absurd h h0
        . rw[uq h,show(bv x).toNat=V by omega];omega
       refine aU (a:=ps.reverse) ⟨_,0,rfl,fun N _=>by unfold xW;rw[if_pos (by omega)]⟩ ?_;refine Tm.bind (Sk (by rw[vT];omega) (by rw[h1];omega)) ?_;rintro _ rfl;exact aS h1
theorem HV{v w:Int}(h:fi v=fi w):v=w:=by rw[<-LJ v,h,LJ]
theorem Bi(v:Int):∀c∈fi v,c≠32:=by
 intro c hc e;subst e;have key:∀{l:List UInt8},(∀c∈l,p6 c)->(32:UInt8)∈l->False:=fun h h'=>by have:=h _ h';unfold p6 at this;simp at this
 rcases tv v 0 with h|rfl|h
 . rw[uQ h]at hc;rcases eb.1 hc with h1|h1
   . cases h1
   . exact key (AP _) h1
 . rw[xO]at hc;simp at hc
 . rw[uq h]at hc;exact key (AP _) hc
theorem LO{v:Int}(h:dl v<=10):(fi v).length<=98:=by
 have h1:=uE v;have h2:=Dz h;have h3:=JF;have hV:v.natAbs<10^97:=by
  have:(v.natAbs:Int)<((10^97:Nat):Int):=by rw[Gu];omega
  exact Int.ofNat_lt.1 this
 have h4:=Bt hV;rcases tv v 0 with h|rfl|h
 . rw[uQ h,cv];omega
 . rw[xO];decide
 . rw[uq h,show v.toNat=v.natAbs by omega];omega
theorem Um{v:Int}(h:dl v<=10):Tm (fun N=>uL N (B v)) (·=fi v):=(NP (bL v) h).mono fun r h=>by rw[gC]at h;exact h
def keyOf(g:List Int):List UInt8:=Go.Lib.join (g.map fi) [32]
theorem BG:∀{x y T U:List UInt8},(∀c∈x,c≠32)->(∀c∈y,c≠32)->(∀c,T.head?=some c->c=32)->(∀c,U.head?=some c->c=32)->x++T=y++U->x=y/\T=U
 |[],[],T,U,_,_,_,_,h=>⟨rfl,h⟩
 |[],d::y,T,U,_,hy,hT,_,h=>by
  have:T.head?=some d:=by rw[show T=d::y++U from h];rfl
  exact absurd (hT d this) (hy d cO)
 |c::x,[],T,U,hx,_,_,hU,h=>by
  have:U.head?=some c:=by rw[show U=c::x++T from h.symm];rfl
  exact absurd (hU c this) (hx c cO)
 |c::x,d::y,T,U,hx,hy,hT,hU,h=>by
  have h:c::(x++T)=d::(y++U):=h;obtain⟨e1,e2⟩:=vU h;subst e1;obtain⟨rfl,h2⟩:=BG (fun c hc=>hx c (cJ _ hc)) (fun c hc=>hy c (cJ _ hc)) hT hU e2;exact⟨rfl,h2⟩
theorem zd{r:List (List UInt8)}:∀c,(Go.Lib.joinTail [32] r).head?=some c->c=32:=by
 intro c h;cases r with
 |nil=>cases h
 |cons x r=>simp[Go.Lib.joinTail]at h;exact h.symm
theorem If:∀{g h:List Int},g.length=h.length->Go.Lib.joinTail [32] (g.map fi)=Go.Lib.joinTail [32] (h.map fi)->g=h
 |[],[],_,_=>rfl
 |v::g,w::h,hl,e=>by
  have e:(32:UInt8)::(fi v++Go.Lib.joinTail [32] (g.map fi))=32::(fi w++Go.Lib.joinTail [32] (h.map fi)):=by simpa[Go.Lib.joinTail]using e
  obtain⟨h1,h2⟩:=BG (Bi v) (Bi w) zd zd (vU e).2;rw[HV h1,If (by simpa using hl) h2]
theorem I5{g h:List Int}(hl:g.length=h.length)(e:keyOf g=keyOf h):g=h:=by
 cases g with
 |nil=>cases h with
  |nil=>rfl
  |cons w h=>cases hl
 |cons v g=>
  cases h with
  |nil=>cases hl
  |cons w h=>
   unfold keyOf at e;rw[jN,jN,Go.Lib.join_cons,Go.Lib.join_cons]at e;obtain⟨h1,h2⟩:=BG (Bi v) (Bi w) zd zd e;rw[HV h1,If (by simpa using hl) h2]
theorem J2:∀{g:List Int},(∀v∈g,dl v<=10)->(Go.Lib.joinTail [32] (g.map fi)).length<=99*g.length
 |[],_=>by simp[Go.Lib.joinTail]
 |v::g,h=>by
  have h1:=J2 (g:=g) fun w hw=>h w (cJ _ hw);have h2:=LO (h v cO);have e:Go.Lib.joinTail [32] ((v::g).map fi)=(32:UInt8)::(fi v++Go.Lib.joinTail [32] (g.map fi)):=by simp[Go.Lib.joinTail]
  rw[e,cv,dd,cv];omega
theorem RI{g:List Int}(h:∀v∈g,dl v<=10):(keyOf g).length<=99*g.length:=by
 cases g with
 |nil=>simp[keyOf,Go.Lib.join_nil]
 |cons v g=>
  have h1:=J2 (g:=g) fun w hw=>h w (cJ _ hw);have h2:=LO (h v cO);unfold keyOf;rw[jN,Go.Lib.join_cons,dd,cv];omega
theorem Ju{g:List Int}(hl:g.length<=1000)(h:∀v∈g,dl v<=10):Tm (fun N=>tT N (g.map B)) (·=keyOf g):=by
 unfold tT;refine aU (a:=g.map fi) (ei g.length (fun k s=>s.2=(k:Int)/\s.1=(g.take k).map fi) ⟨rfl,rfl⟩ ?_) ?_
 . rintro k hk ⟨l,i⟩ ⟨rfl,rfl⟩;dsimp only[Eh];rw[cD];refine aZ (fun hlt=>?_) (fun hge=>aL ?_)
   . have hlt:k<g.length:=by omega
     refine aN (cU (by rw[cD];exact hlt)) ?_;rw[ky];refine aU (Um (h _ (cX hlt))) (aN (dN (by simp only[cv,dM,cD,eQ];omega) (by decide)) (aL ⟨hlt,dT (by omega),?_⟩));show _=(g.take (k+1)).map fi;rw[<-jh hlt,jg];rfl
   . show _=_;rw[eU (by omega)]
 . have:=RI h;refine aU (a:=keyOf g) ⟨_,0,rfl,fun N _=>?_⟩ (aL rfl);show qw N (g.map fi) [32]=some (keyOf g);unfold qw;rw[if_pos ⟨by rw[cD];omega,by show(keyOf g).length<=_;omega⟩];rfl
open Go Go.X
def lU(N:Nat)(s:aR)(x:aY):Option aB:=(idx s.known x.pos).bind fun x1=>some x1.dA
def xf(N:Nat)(s:aR)(x:aY):Option aB:=(idx s.known x.pos).bind fun x1=>some x1.dA
def xT(N:Nat)(Coefs138:(List aB))(b:bB)(c:dR):((List aB)×Int)->Option (aK ((List aB)×Int) (List aB))
 |(Coefs375,a)=>(if(a:Int)<(List.length Coefs138:Int)then (idx Coefs375 a).bind fun d=>(idx b.aT a).bind fun e=>(km N c.N e).bind fun f=>(iT N d f).bind fun g=>(idx Coefs375 a).bind fun j=>(dw Coefs375 a g).bind fun i=>some (aK.next (i,(iw (a+1)))) else some (aK.done Coefs375))
def Bm(N:Nat)(s:aR)(cG:(List dR)):((List aB)×aB×Int)->Option (aK ((List aB)×aB×Int) ((List aB)×aB))
 |(Coefs138,Bound139,a)=>(if(a:Int)<(List.length cG:Int)then (idx cG a).bind fun b=>(idx s.known b.Index).bind fun c=>(bI (xT N Coefs138 c b) N (Coefs138,0)).bind fun ss=>match ss with
    |Coefs397=>(km N b.N c.dA).bind fun d=>(iT N Bound139 d).bind fun e=>some (aK.next (Coefs397,e,(iw (a+1)))) else some (aK.done (Coefs138,Bound139)))
def wK(N:Nat)(d:aB)(Coefs280:(List aB)):((List aB)×Int)->Option (aK ((List aB)×Int) (List aB))
 |(Coefs434,a)=>(if(a:Int)<(List.length Coefs280:Int)then (idx Coefs434 a).bind fun b=>(kG N b d).bind fun c=>(idx Coefs434 a).bind fun f=>(dw Coefs434 a c.1).bind fun e=>some (aK.next (e,(iw (a+1)))) else some (aK.done Coefs434))
def pV(N:Nat)(s:aR)(cG:(List dR))(d:aB):Option bB:=(gg (α:=aB) 32 (aB.mk false ([]:(List Int))) s.n).bind fun x1=>(bI (Bm N s cG) N (x1,(aB.mk false ([]:(List Int))),0)).bind fun ss=>match ss with
  |(Coefs280,Bound281)=>(bI (wK N d Coefs280) N (Coefs280,0)).bind fun ss=>match ss with
    |Coefs452=>(kG N Bound281 d).bind fun a=>some (bB.mk Coefs452 a.1)
def yu(N:Nat)(g:(List aB))(d6:aB):((List aB)×Int)->Option (aK ((List aB)×Int) (List aB))
 |(b,a)=>(if(a:Int)<(List.length g:Int)then (idx g a).bind fun c=>(kG N c d6).bind fun d=>(idx b a).bind fun f=>(dw b a d.1).bind fun e=>some (aK.next (e,(iw (a+1)))) else some (aK.done b))
def sb(N:Nat)(s:aR)(g:(List aB))(cG:(List dR)):Option (aY×Bool×Bool×aR):=(xQ N g).bind fun r1=>(gJ N r1).bind fun r2=>((((if¬((r2:Int)≠0)then (fN N 1).bind fun j=>some j else some r1)):Option aB)).bind fun ss=>match ss with
  |d6=>(fN N 1).bind fun a=>((((if((List.length cG:Int):Int)>1 then some true else (idx cG 0).bind fun k=>(iN N k.N a).bind fun l=>(if(l:Int)≠0 then some true else (iN N d6 a).bind fun m=>some (decide ((m:Int)≠0))))):Option Bool)).bind fun ss=>match ss with
    |o=>((((if o=true then (cM 56 s.steps [(Step.mk cG d6)]).bind fun f=>(pV N (aR.mk s.n s.known f s.u s.status s.value s.items s.stack) cG d6).bind fun p=>(cM 56 s.known [p]).bind fun i=>some (i,f,[(dR.mk (iw ((List.length i:Int)-1)) a)]) else some (s.known,s.steps,cG))):Option ((List bB)×(List Step)×(List dR)))).bind fun ss=>match ss with
      |(b,c,v)=>(idx v 0).bind fun d=>(gg (α:=aB) 32 (aB.mk false ([]:(List Int))) s.n).bind fun y=>(bI (yu N g d6) N (y,0)).bind fun ss=>match ss with
        |e=>(if(r2:Int)≠0 then some ((aY.mk d.Index e),(decide ((r2:Int)≠0)),true,(aR.mk s.n b c s.u s.status s.value s.items s.stack)) else (lU N (aR.mk s.n b c s.u s.status s.value s.items s.stack) (aY.mk d.Index e)).bind fun a0=>(gJ N a0).bind fun a1=>some ((aY.mk d.Index e),(decide ((r2:Int)≠0)),(decide ((a1:Int)≥0)),(aR.mk s.n b c s.u s.status s.value s.items s.stack)))
def yY(N:Nat)(s:aR)(x:aY):Int->Option (aK Int (Sum Unit aR))
 |a=>(if(a:Int)<(List.length s.items:Int)then (idx s.items a).bind fun b=>(xS N x.g b.g (fun y0 y1=>qn N y0 y1)).bind fun c=>(if c=true then (lU N s x).bind fun d=>(lU N s b).bind fun e=>(iN N d e).bind fun f=>(if(f:Int)<0 then (idx s.items a).bind fun j=>(dw s.items a x).bind fun i=>some (aK.done (Sum.inr (aR.mk s.n s.known s.steps s.u s.status s.value i s.stack))) else some (aK.done (Sum.inr s))) else some (aK.next (iw (a+1)))) else some (aK.done (Sum.inl ())))
def kX(N:Nat)(s:aR)(x:aY):Option aR:=(bI (yY N s x) N 0).bind fun ss=>match ss with
  |(Sum.inl _)=>(cM 32 s.items [x]).bind fun a=>some (aR.mk s.n s.known s.steps s.u s.status s.value a s.stack)
  |(Sum.inr z)=>some z
def mY(N:Nat)(s:aR)(g:(List aB))(cG:(List dR)):Option (Bool×aR):=(sb N s g cG).bind fun r1=>((((if r1.2.1=true then (kX N (aR.mk s.n r1.2.2.2.known r1.2.2.2.steps r1.2.2.2.u r1.2.2.2.status r1.2.2.2.value r1.2.2.2.items r1.2.2.2.stack) r1.1).bind fun a=>some (a.known,a.steps,a.u,a.status,a.value,a.items,a.stack) else some (r1.2.2.2.known,r1.2.2.2.steps,r1.2.2.2.u,r1.2.2.2.status,r1.2.2.2.value,r1.2.2.2.items,r1.2.2.2.stack))):Option ((List bB)×(List Step)×(List (List aB))×(List Int)×(List aB)×(List aY)×(List dK)))).bind fun ss=>match ss with
  |(known5,steps6,u7,status8,value9,b,c)=>some (r1.2.2.1,(aR.mk s.n known5 steps6 u7 status8 value9 b c))
def CK(N:Nat)(s:aR):((List bB)×(List Step)×(List (List aB))×(List Int)×(List aB)×(List aY)×(List dK)×Int)->Option (aK ((List bB)×(List Step)×(List (List aB))×(List Int)×(List aB)×(List aY)×(List dK)×Int) (Sum ((List bB)×(List Step)×(List (List aB))×(List Int)×(List aB)×(List aY)×(List dK)) (Bool×aR)))
 |(c,d,e,f,g,i,j,b)=>(if(b:Int)<(List.length s.known:Int)then (idx c b).bind fun k=>(nT N k.aT).bind fun l=>(fN N 1).bind fun m=>(mY N (aR.mk s.n c d e f g i j) l [(dR.mk b m)]).bind fun a=>(if(!a.1)=true then some (aK.done (Sum.inr (false,(aR.mk s.n a.2.known a.2.steps a.2.u a.2.status a.2.value a.2.items a.2.stack)))) else some (aK.next (a.2.known,a.2.steps,a.2.u,a.2.status,a.2.value,a.2.items,a.2.stack,(iw (b+1))))) else some (aK.done (Sum.inl (c,d,e,f,g,i,j))))
def ur(N:Nat)(s:aR):Option (Bool×aR):=(bI (CK N s) N (s.known,s.steps,s.u,s.status,s.value,s.items,s.stack,0)).bind fun ss=>match ss with
  |(Sum.inl (a,b,c,d,e,f,g))=>some (true,(aR.mk s.n a b c d e f g))
  |(Sum.inr z)=>some z
def DI(N:Nat)(s:aR):((List ((List UInt8)×Int))×Int)->Option (aK ((List ((List UInt8)×Int))×Int) (List ((List UInt8)×Int)))
 |(b,a)=>(if(a:Int)<(List.length s.items:Int)then (idx s.items a).bind fun c=>(tT N c.g).bind fun d=>some (aK.next ((kp b d a),(iw (a+1)))) else some (aK.done b))
def EU(N:Nat)(s:aR)(b:(List ((List UInt8)×Int))):Int->Option (aK Int (Sum Unit (Int×Int×Bool×Bool×aR)))
 |c=>(if(c:Int)<(List.length s.items:Int)then ((((idx s.items c).bind fun e=>(mu N e.g).bind fun i=>(tT N i).bind fun d=>((((if(!(fx b d 0).2)=true then some true else some (decide ((((fx b d 0).1):Int)<c)))):Option Bool)).bind fun ss=>match ss with
    |j=>(if j=true then some (Sum.inl ()) else (lU N s e).bind fun k=>(idx s.items ((fx b d 0).1)).bind fun l=>(lU N s l).bind fun m=>(iT N k m).bind fun o=>(gJ N o).bind fun f=>(if(f:Int)=(-1)then (gg (α:=aB) 32 (aB.mk false ([]:(List Int))) s.n).bind fun p=>(fN N 1).bind fun v=>(idx s.items ((fx b d 0).1)).bind fun y=>(fN N 1).bind fun a0=>(mY N s p [(dR.mk e.pos v),(dR.mk y.pos a0)]).bind fun a=>some (Sum.inr (0,0,false,false,(aR.mk s.n a.2.known a.2.steps a.2.u a.2.status a.2.value a.2.items a.2.stack))) else (if(f:Int)=0 then some (Sum.inr (c,(fx b d 0).1,true,true,s)) else some (Sum.inl ()))))):Option (Sum Unit (Int×Int×Bool×Bool×aR)))).bind fun ss=>match ss with
    |(Sum.inl _)=>some (aK.next (iw (c+1)))
    |(Sum.inr z)=>some (aK.done (Sum.inr z)) else some (aK.done (Sum.inl ())))
def ud(N:Nat)(s:aR):Option (Int×Int×Bool×Bool×aR):=(bI (DI N s) N (([]:(List ((List UInt8)×Int))),0)).bind fun ss=>match ss with
  |a=>(bI (EU N s a) N 0).bind fun ss=>match ss with
    |(Sum.inl _)=>some (0,0,false,true,s)
    |(Sum.inr z)=>some z
def mj(N:Nat)(l:(List aB))(c0:Int)(c1:aB)(c2:Int):Option (List aB):=(nT N l).bind fun r1=>(idx r1 c0).bind fun x2=>(idx r1 c2).bind fun x3=>(km N c1 x3).bind fun r4=>(jc N x2 r4).bind fun r5=>(idx r1 c0).bind fun x6=>(dw r1 c0 r5).bind fun x7=>some x7
def mh(N:Nat)(l:(List aB))(c0:Int):Option (List aB):=(nT N l).bind fun r1=>(idx r1 c0).bind fun x2=>(jq N x2).bind fun r3=>(idx r1 c0).bind fun x4=>(dw r1 c0 r3).bind fun x5=>some x5
def y7(N:Nat)(s:aR)(j:Int)(p:Int)(q:aB):((List (List aB))×Int)->Option (aK ((List (List aB))×Int) (List (List aB)))
 |(b,a)=>(if(a:Int)<(List.length s.u:Int)then (idx b a).bind fun c=>((fun y0=>mj N y0 j q p) c).bind fun d=>(idx b a).bind fun f=>(dw b a d).bind fun e=>some (aK.next (e,(iw (a+1)))) else some (aK.done b))
def Bz(N:Nat)(s:aR)(j:Int)(p:Int)(q:aB):((List aY)×Int)->Option (aK ((List aY)×Int) (List aY))
 |(b,a)=>(if(a:Int)<(List.length s.items:Int)then (idx b a).bind fun c=>((fun y0=>mj N y0 j q p) c.g).bind fun d=>(idx b a).bind fun e=>(dw b a (aY.mk e.pos d)).bind fun f=>some (aK.next (f,(iw (a+1)))) else some (aK.done b))
def we(N:Nat)(s:aR)(j:Int)(p:Int)(q:aB):Option aR:=(bI (y7 N s j p q) N (s.u,0)).bind fun ss=>match ss with
  |a=>(bI (Bz N s j p q) N (s.items,0)).bind fun ss=>match ss with
    |b=>some (aR.mk s.n s.known s.steps a s.status s.value b s.stack)
def A7(N:Nat)(s:aR)(p:Int):((List (List aB))×Int)->Option (aK ((List (List aB))×Int) (List (List aB)))
 |(b,a)=>(if(a:Int)<(List.length s.u:Int)then (idx b a).bind fun c=>((fun y0=>mh N y0 p) c).bind fun d=>(idx b a).bind fun f=>(dw b a d).bind fun e=>some (aK.next (e,(iw (a+1)))) else some (aK.done b))
def Ae(N:Nat)(s:aR)(p:Int):((List aY)×Int)->Option (aK ((List aY)×Int) (List aY))
 |(b,a)=>(if(a:Int)<(List.length s.items:Int)then (idx b a).bind fun c=>((fun y0=>mh N y0 p) c.g).bind fun d=>(idx b a).bind fun e=>(dw b a (aY.mk e.pos d)).bind fun f=>some (aK.next (f,(iw (a+1)))) else some (aK.done b))
def wE(N:Nat)(s:aR)(p:Int):Option aR:=(bI (A7 N s p) N (s.u,0)).bind fun ss=>match ss with
  |a=>(bI (Ae N s p) N (s.items,0)).bind fun ss=>match ss with
    |b=>some (aR.mk s.n s.known s.steps a s.status s.value b s.stack)
def zJ(N:Nat)(b:aY):(Int×Int)->Option (aK (Int×Int) Int)
 |(c,a)=>(if(a:Int)<(List.length b.g:Int)then (((((((idx b.g a).bind fun d=>(gJ N d).bind fun e=>(if(e:Int)≠0 then (if(c:Int)<0 then some true else (idx b.g a).bind fun f=>((fun y0=>qh N y0) f).bind fun i=>(idx b.g c).bind fun j=>((fun y0=>qh N y0) j).bind fun k=>(iN N i k).bind fun l=>some (decide ((l:Int)<0))) else some false)):Option Bool)).bind fun ss=>match ss with
    |m=>(if m=true then some a else some c)):Option Int)).bind fun ss=>match ss with
    |n=>some (aK.next (n,(iw (a+1)))) else some (aK.done c))
def AZ(N:Nat)(s:aR)(i:Int)(d:aY)(e:Int):((List bB)×(List Step)×(List (List aB))×(List Int)×(List aB)×(List aY)×(List dK)×Bool×Int)->Option (aK ((List bB)×(List Step)×(List (List aB))×(List Int)×(List aB)×(List aY)×(List dK)×Bool×Int) ((List bB)×(List Step)×(List (List aB))×(List Int)×(List aB)×(List aY)×(List dK)×Bool))
 |(f,j,k,l,m,c,o,p,b)=>(if(b:Int)<(List.length d.g:Int)then (((((((if(b:Int)≠e then (idx c i).bind fun v=>(idx v.g b).bind fun y=>(gJ N y).bind fun a0=>some (decide ((a0:Int)≠0)) else some false)):Option Bool)).bind fun ss=>match ss with
    |a1=>(if a1=true then (idx d.g b).bind fun a2=>(idx d.g e).bind fun a3=>(kG N a2 a3).bind fun a4=>(we N (aR.mk s.n f j k l m c o) b e a4.1).bind fun a=>some (a.known,a.steps,a.u,a.status,a.value,a.items,a.stack,false) else some (f,j,k,l,m,c,o,p))):Option ((List bB)×(List Step)×(List (List aB))×(List Int)×(List aB)×(List aY)×(List dK)×Bool))).bind fun ss=>match ss with
    |(a5,a6,a7,a8,a9,aa,ab,ac)=>some (aK.next (a5,a6,a7,a8,a9,aa,ab,ac,(iw (b+1)))) else some (aK.done (f,j,k,l,m,c,o,p)))
def Bk(N:Nat)(s:aR)(i:Int):((List bB)×(List Step)×(List (List aB))×(List Int)×(List aB)×(List aY)×(List dK))->Option (aK ((List bB)×(List Step)×(List (List aB))×(List Int)×(List aB)×(List aY)×(List dK)) (Int×aR))
 |(p,v,y,a0,a1,o,a2)=>(idx o i).bind fun c=>(bI (zJ N c) N ((-1),0)).bind fun ss=>match ss with
   |b=>(bI (AZ N s i c b) N (p,v,y,a0,a1,o,a2,true,0)).bind fun ss=>match ss with
     |(d,e,f,j,k,l,m,a3)=>(if a3=true then (idx c.g b).bind fun a4=>(gJ N a4).bind fun a5=>((((if(a5:Int)<0 then (wE N (aR.mk s.n d e f j k l m) b).bind fun a=>some (a.known,a.steps,a.u,a.status,a.value,a.items,a.stack) else some (d,e,f,j,k,l,m))):Option ((List bB)×(List Step)×(List (List aB))×(List Int)×(List aB)×(List aY)×(List dK)))).bind fun ss=>match ss with
        |(a6,a7,a8,a9,aa,ab,ac)=>some (aK.done (b,(aR.mk s.n a6 a7 a8 a9 aa ab ac))) else some (aK.next (d,e,f,j,k,l,m)))
def wX(N:Nat)(s:aR)(i:Int):Option (Int×aR):=(bI (Bk N s i) N (s.known,s.steps,s.u,s.status,s.value,s.items,s.stack)).bind fun ss=>match ss with
  |z=>some z
def E4(N:Nat)(s:aR)(i:Int)(j:Int)(r1:(Int×aR))(x2:aY)(x3:aY):((List bB)×(List Step)×(List (List aB))×(List Int)×(List aB)×(List aY)×(List dK)×Int)->Option (aK ((List bB)×(List Step)×(List (List aB))×(List Int)×(List aB)×(List aY)×(List dK)×Int) (Sum ((List bB)×(List Step)×(List (List aB))×(List Int)×(List aB)×(List aY)×(List dK)) (Bool×aR)))
 |(d,e,f,k,l,m,o,c)=>(if(c:Int)<(List.length r1.2.items:Int)then ((((idx r1.2.items c).bind fun p=>((((if(c:Int)=i then some true else some (decide ((c:Int)=j)))):Option Bool)).bind fun ss=>match ss with
    |a0=>(if a0=true then some (Sum.inl (d,e,f,k,l,m,o)) else (idx p.g r1.1).bind fun v=>(gJ N v).bind fun a1=>(if(a1:Int)=0 then (kX N (aR.mk s.n d e f k l m o) p).bind fun b=>some (Sum.inl (b.known,b.steps,b.u,b.status,b.value,b.items,b.stack)) else (nT N p.g).bind fun y=>(idx y r1.1).bind fun ae=>(dw y r1.1 (aB.mk false ([]:(List Int)))).bind fun a2=>(gJ N v).bind fun a3=>((((if(a3:Int)<0 then (jq N v).bind fun a4=>some (dR.mk x2.pos a4) else some (dR.mk x3.pos v))):Option dR)).bind fun ss=>match ss with
        |a5=>(fN N 1).bind fun a6=>(mY N (aR.mk s.n d e f k l m o) a2 [(dR.mk p.pos a6),a5]).bind fun a=>(if(!a.1)=true then some (Sum.inr (false,(aR.mk s.n a.2.known a.2.steps a.2.u a.2.status a.2.value a.2.items a.2.stack))) else some (Sum.inl (a.2.known,a.2.steps,a.2.u,a.2.status,a.2.value,a.2.items,a.2.stack)))))):Option (Sum ((List bB)×(List Step)×(List (List aB))×(List Int)×(List aB)×(List aY)×(List dK)) (Bool×aR)))).bind fun ss=>match ss with
    |(Sum.inl (a7,a8,a9,aa,ab,ac,ad))=>some (aK.next (a7,a8,a9,aa,ab,ac,ad,(iw (c+1))))
    |(Sum.inr z)=>some (aK.done (Sum.inr z)) else some (aK.done (Sum.inl (d,e,f,k,l,m,o))))
def td(N:Nat)(s:aR)(i:Int)(j:Int):Option (Bool×aR):=(wX N s i).bind fun r1=>(idx r1.2.items i).bind fun x2=>(idx r1.2.items j).bind fun x3=>(lU N (aR.mk s.n r1.2.known r1.2.steps r1.2.u r1.2.status r1.2.value r1.2.items r1.2.stack) x2).bind fun r4=>(idx r1.2.status r1.1).bind fun x5=>(dw r1.2.status r1.1 1).bind fun x6=>(idx r1.2.value r1.1).bind fun x7=>(dw r1.2.value r1.1 r4).bind fun x8=>(bI (E4 N s i j r1 x2 x3) N (r1.2.known,r1.2.steps,r1.2.u,x6,x8,([]:(List aY)),r1.2.stack,0)).bind fun ss=>match ss with
  |(Sum.inl (a,b,c,d,e,f,g))=>some (true,(aR.mk s.n a b c d e f g))
  |(Sum.inr z)=>some z
def E0(N:Nat)(s:aR)(y:(List aB))(a:Int):((List aB)×Int)->Option (aK ((List aB)×Int) (List aB))
 |(b,c)=>(if(c:Int)<(List.length y:Int)then (idx b a).bind fun d=>(idx s.u a).bind fun e=>(idx e c).bind fun f=>(idx y c).bind fun g=>(km N f g).bind fun i=>(iT N d i).bind fun j=>(idx b a).bind fun l=>(dw b a j).bind fun k=>some (aK.next (k,(iw (c+1)))) else some (aK.done b))
def BD(N:Nat)(s:aR)(y:(List aB))(x1:(List aB)):((List aB)×Int)->Option (aK ((List aB)×Int) (List aB))
 |(b,a)=>(if(a:Int)<(List.length x1:Int)then (bI (E0 N s y a) N (b,0)).bind fun ss=>match ss with
    |c=>some (aK.next (c,(iw (a+1)))) else some (aK.done b))
def qz(N:Nat)(s:aR)(y:(List aB)):Option (List aB):=(gg (α:=aB) 32 (aB.mk false ([]:(List Int))) s.n).bind fun x1=>(bI (BD N s y x1) N (x1,0)).bind fun ss=>match ss with
  |a=>some a
open Go Go.X
structure AQ where
 c:List Int
 b:Int
structure AI where
 pos:Nat
 g:List Int
structure AU where
 ix:Nat
 n:Int
structure AS where
 cG:List AU
 d:Int
structure AE where
 v:Nat
 items:List Nat
 dD:Bool
structure St where
 n:Nat
 known:List AQ
 steps:List AS
 u:List (List Int)
 status:List Int
 value:List Int
 items:List AI
 stack:List AE
def mB(l:List Int):List aB:=l.map B
def AQ.to(q:AQ):bB:=⟨mB q.c,B q.b⟩
def AI.to(x:AI):aY:=⟨x.pos,mB x.g⟩
def AU.to(u:AU):dR:=⟨u.ix,B u.n⟩
def AS.to(s:AS):Step:=⟨s.cG.map AU.to,B s.d⟩
def AE.to(e:AE):dK:=⟨e.v,e.items.map Int.ofNat,e.dD⟩
def St.to(s:St):aR:=⟨s.n,s.known.map AQ.to,s.steps.map AS.to,s.u.map mB,s.status,mB s.value,s.items.map AI.to,s.stack.map AE.to⟩
theorem iy{x:aR}{n:Int}(h:n=x.n):aR.mk n x.known x.steps x.u x.status x.value x.items x.stack=x:=by subst h;rfl
theorem dJ(l:List Int):(mB l).length=l.length:=cD ..
theorem CZ{l:List Int}{k:Nat}(h:k<(mB l).length):(mB l)[k]=B (l[k]'(by rwa[dJ]at h)):=ky ..
theorem LQ{l:List Int}{k:Nat}(h:k<l.length):idx (mB l) (k:Int)=some (B l[k]):=by
 rw[cU (by rw[dJ];exact h),CZ]
theorem vE{l:List Int}{k:Nat}{v:Int}:(mB l).set k (B v)=mB (l.set k v):=by unfold mB;rw[Ce]
theorem oy{n:Nat}:mB (List.replicate n 0)=List.replicate n ⟨false,[]⟩:=by unfold mB;rw[List.map_replicate,B0]
def vf(l:List Int)(j:Nat):Int:=l.getD j 0
theorem mz{l:List Int}{j:Nat}(h:j<l.length):vf l j=l[j]:=by unfold vf;rw[cA,bV h];rfl
theorem lV{l:List Int}{j:Nat}(h:l.length<=j):vf l j=0:=by unfold vf;rw[cA,fQ h];rfl
theorem ez{l:List Int}{k:Nat}(h:k<l.length):idx (mB l) (k:Int)=some (B (vf l k)):=by rw[LQ h,mz h]
def vec(n:Nat)(f:Nat->Int):List Int:=(List.range n).map f
theorem eN{n:Nat}{f:Nat->Int}:(vec n f).length=n:=by simp[vec]
theorem dH{n j:Nat}{f:Nat->Int}(h:j<n):vf (vec n f) j=f j:=by rw[mz (by rw[eN];exact h)];simp[vec]
theorem J3{n:Nat}{f g:Nat->Int}(h:∀j,j<n->f j=g j):vec n f=vec n g:=Cj fun j hj=>h j (th.1 hj)
theorem lr{a b:List Int}(hl:a.length=b.length)(h:∀j,j<a.length->vf a j=vf b j):a=b:=by
 apply pR hl;intro i h1 h2;rw[<-mz h1,<-mz h2];exact h i h1
theorem gE{l:List Int}{v:Int}(h:v∈l):∃j,j<l.length/\vf l j=v:=by
 obtain⟨j,hj,rfl⟩:=nm h;exact⟨j,hj,mz hj⟩
theorem gj{l:List Int}{j:Nat}(h:j<l.length):vf l j∈l:=by rw[mz h];exact cX h
theorem jR{l:List Int}{k j:Nat}{v:Int}(h:k<l.length):vf (l.set k v) j=if k=j then v else vf l j:=by
 unfold vf;rw[cA,cA,qS];by_cases e:k=j
 . subst e;simp[h]
 . simp[e]
theorem Tm.fill{α ρ:Type}{n:Nat}(hn:n<=9223372036854775806){c0:List α}(F:Nat->α)(h0:c0.length=n){body:Nat->List α×Int->Option (aK (List α×Int) ρ)}{fin:List α->ρ}
 (step:∀k,k<n->∀c:List α,c.length=n->c[k]?=c0[k]?->Tm (fun N=>body N (c,(k:Int))) (·=.next (c.set k (F k),iw ((k:Int)+1))))
 (stop:∀c:List α,c.length=n->Tm (fun N=>body N (c,(n:Int))) (·=.done (fin c))):
 Tm (fun N=>bI (body N) N (c0,0)) (·=fin ((List.range n).map F)):=by
 refine ei n (fun k s=>s.2=(k:Int)/\s.1.length=n/\(∀j,j<k->s.1[j]?=some (F j))/\∀j,k<=j->s.1[j]?=c0[j]?) ⟨rfl,h0,fun j hj=>by omega,fun j _=>rfl⟩ ?_;rintro k hk ⟨c,i⟩ ⟨rfl,hc,h1,h2⟩;dsimp only at hc h1 h2;rcases cw k n with hlt|hge
 . refine(step k hlt c hc (h2 k (bK _))).mono fun t ht=>?_;subst ht;refine⟨hlt,dT (by omega),by rw[iS];exact hc,fun j hj=>?_,fun j hj=>?_⟩
   . show(c.set k (F k))[j]?=_;rw[qS];by_cases e:k=j
     . subst e;simp[hc,hlt]
     . rw[if_neg e];exact h1 j (by omega)
   . show(c.set k (F k))[j]?=_;rw[qS,if_neg (by omega)];exact h2 j (by omega)
 . obtain rfl:k=n:=by omega
   refine(stop c hc).mono fun t ht=>?_;subst ht;show fin c=_;congr 1;apply pL;intro j;rcases cw j k with hj|hj
   . rw[h1 j hj];simp[hj]
   . rw[fQ (by omega),fQ (by simp;omega)]
theorem Tm.sr{ρ:Type}{n:Nat}(hn:n<=9223372036854775806){c0:List Int}(F:Nat->Int)(h0:c0.length=n){body:Nat->List aB×Int->Option (aK (List aB×Int) ρ)}{fin:List aB->ρ}
 (step:∀k,k<n->∀c:List aB,c.length=n->idx c (k:Int)=some (B (vf c0 k))->Tm (fun N=>body N (c,(k:Int))) (·=.next (c.set k (B (F k)),iw ((k:Int)+1))))
 (stop:∀c:List aB,c.length=n->Tm (fun N=>body N (c,(n:Int))) (·=.done (fin c))):
 Tm (fun N=>bI (body N) N (mB c0,0)) (·=fin (mB (vec n F))):=by
 have:=Tm.fill hn (c0:=mB c0) (fun j=>B (F j)) (by rw[dJ,h0]) (body:=body) (fin:=fin) (fun k hk c hc h=>step k hk c hc (by rw[DU,h,<-DU];exact ez (by omega))) stop;refine this.mono fun r hr=>?_;rw[hr];unfold mB vec;rw[mq];rfl
def dh:List Int->Nat
 |[]=>0
 |x::l=>Int.gcd x (dh l)
theorem sH:∀{l:List Int} {x:Int},x∈l->((dh l:Nat):Int)∣x
 |y::l,x,h=>by
  rcases eb.1 h with rfl|h
  . exact Int.gcd_dvd_left ..
  . exact Int.dvd_trans (Int.gcd_dvd_right ..) (sH h)
theorem oA:∀{l:List Int} {d:Int},(∀x∈l,d∣x)->d∣((dh l:Nat):Int)
 |[],d,_=>by simp[dh]
 |y::l,d,h=>by
  have h1:=h y cO;have h2:=oA (l:=l) fun x hx=>h x (cJ _ hx);exact Int.dvd_coe_gcd h1 h2
theorem Mc{l:List Int}(h:dh l=0):∀x∈l,x=0:=fun x hx=>by
 have:=sH hx;rw[h]at this;exact Int.zero_dvd.1 this
theorem Rj{a:Int}{b:Nat}{K:Nat}(h:dl a<=K)(h':dl b<=K):dl (Int.gcd a b:Nat)<=K:=by
 rcases tv a 0 with h1|h1|h1
 . exact bO (rI (by have:=Nat.le_of_dvd (by omega) (Nat.gcd_dvd_left a.natAbs b);show((Int.gcd a b:Nat):Int).natAbs<=_;rw[Nc];exact this)) h
 . subst h1;rw[Int.zero_gcd];exact h'
 . exact bO (rI (by have:=Nat.le_of_dvd (by omega) (Nat.gcd_dvd_left a.natAbs b);show((Int.gcd a b:Nat):Int).natAbs<=_;rw[Nc];exact this)) h
theorem u5:∀{l:List Int} {K:Nat},(∀v∈l,dl v<=K)->dl (dh l:Nat)<=K
 |[],K,_=>by show dl 0<=K;rw[ir];omega
 |x::l,K,h=>Rj (h x cO) (u5 fun v hv=>h v (cJ _ hv))
theorem JP{l:List Int}{k:Nat}(h:k<l.length):Int.gcd (dh (l.take k):Nat) l[k]=dh (l.take (k+1)):=by
 have key:∀(a:List Int) (x:Int),dh (a++[x])=Int.gcd (dh a:Nat) x:=by
  intro a x
  induction a with
  |nil=>show Int.gcd x (0:Nat)=Int.gcd (0:Nat) x;rw[Int.gcd_comm]
  |cons y a ih=>
   show Int.gcd y (dh (a++[x]):Nat)=Int.gcd (Int.gcd y (dh a:Nat):Nat) x;rw[ih,Int.gcd_assoc]
 rw[<-jh h,key]
theorem UG{l:List Int}{K:Nat}(hK:K<=cY)(hl:l.length<=9223372036854775806)(h:∀v∈l,dl v<=K):Tm (fun N=>xQ N (mB l)) (·=B (dh l:Nat)):=by
 unfold xQ;refine aU (a:=((B (dh l:Nat)).bG,(B (dh l:Nat)).aP)) (ei l.length (fun k s=>s.2.2=(k:Int)/\s.1=(B (dh (l.take k):Nat)).bG/\s.2.1=(B (dh (l.take k):Nat)).aP) ⟨rfl,by show false=(B 0).bG;rw[B0],by show[]=(B 0).aP;rw[B0]⟩ ?_) (aL rfl);rintro k hk ⟨a,b,i⟩ ⟨rfl,rfl,rfl⟩;dsimp only[FL];rw[dJ];refine aZ (fun hlt=>?_) (fun hge=>aL ?_)
 . have hlt:k<l.length:=by omega
   refine aN (LQ hlt) (aU (tmGcd (a:=(dh (l.take k):Nat)) (b:=l[k]) (bO (u5 fun v hv=>h v (tk hv)) hK) (bO (h _ (cX hlt)) hK)) (aL ⟨hlt,dT (by omega),?_,?_⟩))
   . dsimp only;rw[JP]
   . dsimp only;rw[JP]
 . show _=_;rw[eU (by omega)]
theorem rJ{l:List Int}{K:Nat}(hK:K<=cY)(hl:l.length<=1073741824)(h:∀v∈l,dl v<=K):Tm (fun N=>mu N (mB l)) (·=mB (vec l.length fun j=>-vf l j)):=by
 unfold mu;refine aN (ik (n:=l.length) (by rw[dJ]) (by omega) (by decide)) ?_;rw[show(aB.mk false ([]:List Int))=B 0 from B0.symm,show List.replicate l.length (B 0)=mB (List.replicate l.length 0) by rw[oy,B0]];refine aU (Tm.sr (n:=l.length) (by omega) (fun j=>-vf l j) (by simp) (fin:=id) ?_ ?_) (aL rfl)
 . intro k hk c hc hi;dsimp only[zp];refine cL (by rw[dJ];omega) (aN (ez hk) (aU (nX (bO (h _ (gj hk)) hK)) (aN hi (aN (ee rfl (by omega)) (aL rfl)))))
 . intro c hc;dsimp only[zp];exact cC (by rw[dJ];omega) (aL rfl)
def bT(l:List Int):List Int:=vec l.length fun j=>-vf l j
theorem jd(l:List Int):(bT l).length=l.length:=eN
theorem iL{l:List Int}{j:Nat}:vf (bT l) j=-vf l j:=by
 rcases cw j l.length with h|h
 . exact dH h
 . rw[lV (by rw[jd];exact h),lV h];rfl
theorem Ek{l:List Int}{v:Int}(h:v∈bT l):-v∈l:=by
 obtain⟨j,hj,rfl⟩:=gE h;rw[iL,Int.neg_neg];exact gj (by rwa[jd]at hj)
theorem EG(l:List Int):bT (bT l)=l:=lr (by rw[jd,jd]) fun j _=>by rw[iL,iL,Int.neg_neg]
def aI(kn:List AQ)(i:Nat):AQ:=kn.getD i ⟨[],0⟩
theorem uy{kn:List AQ}{i:Nat}(h:i<kn.length):aI kn i=kn[i]:=by unfold aI;rw[cA,bV h];rfl
theorem iQ{kn e:List AQ}{i:Nat}(h:i<kn.length):aI (kn++e) i=aI kn i:=by
 unfold aI;rw[cA,cA,jZ h]
theorem oT{kn:List AQ}{q:AQ}:aI (kn++[q]) kn.length=q:=by
 unfold aI;rw[cA];simp
theorem eL{kn:List AQ}{i:Nat}(h:i<kn.length):aI kn i∈kn:=by rw[uy h];exact cX h
theorem nN{kn:List AQ}{i:Nat}(h:i<kn.length):idx (kn.map AQ.to) (i:Int)=some (aI kn i).to:=by
 rw[cU (by simpa using h),ky,uy h]
theorem sG{s:St}{x:AI}(h:x.pos<s.known.length):Tm (fun N=>lU N s.to x.to) (·=B (aI s.known x.pos).b):=by
 unfold lU;exact aN (nN h) (aL rfl)
theorem IM{s:St}{x:AI}(h:x.pos<s.known.length):Tm (fun N=>xf N s.to x.to) (·=B (aI s.known x.pos).b):=sG h
def dX(kn:List AQ):List AU->Nat->Int
 |[],_=>0
 |u::us,j=>u.n*vf (aI kn u.ix).c j+dX kn us j
def gk(kn:List AQ):List AU->Int
 |[]=>0
 |u::us=>u.n*(aI kn u.ix).b+gk kn us
theorem Jt{kn:List AQ}{u:AU}{j:Nat}:∀{us:List AU},dX kn (us++[u]) j=dX kn us j+u.n*vf (aI kn u.ix).c j
 |[]=>by show u.n*vf (aI kn u.ix).c j+0=0+_;omega
 |v::us=>by show _+dX kn (us++[u]) j=_+_+_;rw[Jt];omega
theorem K3{kn:List AQ}{u:AU}:∀{us:List AU},gk kn (us++[u])=gk kn us+u.n*(aI kn u.ix).b
 |[]=>by show u.n*(aI kn u.ix).b+0=0+_;omega
 |v::us=>by show _+gk kn (us++[u])=_+_+_;rw[K3];omega
def fF(K:Nat)(q:AQ):Prop:=(∀v∈q.c,dl v<=K)/\dl q.b<=K
theorem fF.vf{K:Nat}{q:AQ}(h:fF K q)(j:Nat):dl (vf q.c j)<=K:=by
 rcases cw j q.c.length with hj|hj
 . exact h.1 _ (gj hj)
 . rw[lV hj,ir];omega
theorem fF.mono{K K':Nat}{q:AQ}(h:fF K q)(hK:K<=K'):fF K' q:=⟨fun v hv=>bO (h.1 v hv) hK,bO h.2 hK⟩
def mc(n K:Nat)(kn:List AQ)(u:AU):Prop:=u.ix<kn.length/\0<=u.n/\dl u.n<=4/\fF K (aI kn u.ix)/\(aI kn u.ix).c.length=n
theorem zg{n K:Nat}{kn:List AQ}{j:Nat}:∀{us:List AU},(∀u∈us,mc n K kn u)->dl (dX kn us j)<=K+4+us.length
 |[],_=>by show dl 0<=_;rw[ir];omega
 |u::us,h=>by
  have h1:=h u cO;have h2:=zg (j:=j) (us:=us) fun v hv=>h v (cJ _ hv);have h3:=kr u.n (vf (aI kn u.ix).c j);have h4:=h1.2.2.2.1.vf j;have h5:=h1.2.2.1;have:=oD (K:=K+4+us.length) (a:=u.n*vf (aI kn u.ix).c j) (b:=dX kn us j) (by omega) h2;show dl (_+_)<=_;rw[cv];omega
theorem BW{n K:Nat}{kn:List AQ}:∀{us:List AU},(∀u∈us,mc n K kn u)->dl (gk kn us)<=K+4+us.length
 |[],_=>by show dl 0<=_;rw[ir];omega
 |u::us,h=>by
  have h1:=h u cO;have h2:=BW (us:=us) fun v hv=>h v (cJ _ hv);have h3:=kr u.n (aI kn u.ix).b;have h4:=h1.2.2.2.1.2;have h5:=h1.2.2.1;have:=oD (K:=K+4+us.length) (a:=u.n*(aI kn u.ix).b) (b:=gk kn us) (by omega) h2;show dl (_+_)<=_;rw[cv];omega
def mW(n:Nat)(kn:List AQ)(us:List AU)(d:Int):AQ:=⟨vec n fun j=>dX kn us j/d,gk kn us/d⟩
theorem tmSum{s:St}{K:Nat}(hK:K<=1099511627000){us:List AU}{d:Int}(hn:s.n<=512)(hu:∀u∈us,mc s.n K s.known u)(hul:us.length<=2)(hd:0<d)(hdl:dl d<=cY):
 Tm (fun N=>pV N s.to (us.map AU.to) (B d)) (·=(mW s.n s.known us d).to):=by
 have hL:cY=1099511627776:=rfl;unfold pV;refine aN (ik (n:=s.n) rfl (by omega) (by decide)) ?_;rw[<-oy];refine aU (a:=(mB (vec s.n fun j=>dX s.known us j),B (gk s.known us))) (ei us.length (fun k t=>t.2.2=(k:Int)/\t.1=mB (vec s.n fun j=>dX s.known (us.take k) j)/\t.2.1=B (gk s.known (us.take k))) ⟨rfl,?_,B0.symm⟩ ?_) ?_
 . show mB (List.replicate s.n 0)=mB (vec s.n fun j=>0);congr 1;apply pR (by simp[vec]);intro i h1 h2;simp[vec]
 . rintro k hk ⟨c,b,i⟩ ⟨rfl,rfl,rfl⟩;dsimp only[Bm];rw[cD];refine aZ (fun hlt=>?_) (fun hge=>aL ?_)
   . have hlt:k<us.length:=by omega
     have hux:=hu _ (cX hlt);have htk:∀u∈us.take k,mc s.n K s.known u:=fun u hu'=>hu u (tk hu');have htl:(us.take k).length<=2:=by rw[eQ];omega
     refine aN (cU (by simpa using hlt)) ?_;rw[ky];generalize hue:us[k]=u at*;refine aN (nN hux.1) ?_;have hm:∀j,dl (u.n*vf (aI s.known u.ix).c j)<=K+4:=fun j=>by
      have:=kr u.n (vf (aI s.known u.ix).c j);have:=hux.2.2.2.1.vf j;have:=hux.2.2.1;omega
     have hmb:dl (u.n*(aI s.known u.ix).b)<=K+4:=by
      have:=kr u.n (aI s.known u.ix).b;have:=hux.2.2.2.1.2;have:=hux.2.2.1;omega
     have hun:=hux.2.2.1;refine aU (a:=mB (vec s.n fun j=>dX s.known (us.take (k+1)) j)) ?_ ?_
     . refine(Tm.sr (n:=s.n) (by omega) (fun j=>dX s.known (us.take (k+1)) j) eN (fin:=id) ?_ ?_)
       . intro j hj c hc hi;dsimp only[xT];have h1:=zg (j:=j) htk;have h2:=hux.2.2.2.1.vf j;have h3:=hm j;refine cL (by rw[dJ,eN];omega) (aN hi (aN (ez (by rw[hux.2.2.2.2];exact hj)) (aU (oc (by omega) (by omega)) (aU (mN (by rw[dH hj];omega) (by omega)) (aN hi (aN (ee rfl (by omega)) (aL ?_)))))));rw[dH hj,<-jh hlt,Jt,hue]
       . intro c hc;dsimp only[xT];exact cC (by rw[dJ,eN];omega) (aL rfl)
     . have h1:=BW htk;have h2:=hux.2.2.2.1.2;refine aU (oc (a:=u.n) (b:=(aI s.known u.ix).b) (by omega) (by omega)) (aU (mN (by omega) (by omega)) (aL ⟨hlt,dT (by omega),rfl,?_⟩));show B _=B _;rw[<-jh hlt,K3,hue]
   . show _=_;rw[eU (by omega)]
 . dsimp only;have h0:∀j,dl (dX s.known us j)<=K+6:=fun j=>by have:=zg (j:=j) hu;omega
   have hb:dl (gk s.known us)<=K+6:=by have:=BW hu;omega
   refine aU (a:=mB (vec s.n fun j=>dX s.known us j/d)) ?_ ?_
   . refine(Tm.sr (n:=s.n) (by omega) (fun j=>dX s.known us j/d) eN (fin:=id) ?_ ?_)
     . intro j hj c hc hi;dsimp only[wK];have h1:=h0 j;refine cL (by rw[dJ,eN];omega) (aN hi (Tm.bind (qH (by rw[dH hj];omega) hdl) ?_));intro r hr;refine aN hi (aN (ee rfl (by omega)) (aL ?_));rw[hr,dH hj,jx _ (ed hd)]
     . intro c hc;dsimp only[wK];exact cC (by rw[dJ,eN];omega) (aL rfl)
   . refine Tm.bind (qH (by omega) hdl) ?_;intro r hr;refine aL ?_;rw[hr,jx _ (ed hd)];rfl
open Go Go.X
structure gr (K:Nat)(s:St):Prop where
 n:s.n<=512
 kl:s.known.length<=1073741824
 sl:s.steps.length<=1073741824
 il:s.items.length<=1073741824
 k:∀q∈s.known,fF K q/\q.c.length=s.n
 i:∀x∈s.items,x.pos<s.known.length/\x.g.length=s.n/\∀v∈x.g,dl v<=8
 K:K<=1099511627000
def dv(g:List Int):Int:=if dh g=0 then 1 else(dh g:Nat)
theorem qc(g:List Int):0<dv g:=by unfold dv;split<;>omega
def many(g:List Int)(us:List AU):Bool:=decide (1<us.length)||(decide ((us.headD ⟨0,0⟩).n≠1)||decide (dv g≠1))
def iM(s:St)(g:List Int)(us:List AU):Nat:=if many g us then s.known.length else(us.headD ⟨0,0⟩).ix
def dst(s:St)(g:List Int)(us:List AU):St:=if many g us then{s with steps:=s.steps++[⟨us,dv g⟩],known:=s.known++[mW s.n s.known us (dv g)]}else s
def lk(s:St)(g:List Int)(us:List AU):AI:=⟨iM s g us,vec s.n fun j=>vf g j/dv g⟩
def nc(s:St)(g:List Int)(us:List AU):Bool:=decide (dh g≠0)||decide (0<=(aI (dst s g us).known (iM s g us)).b)
def eh(kn:List AQ)(x:AI):List AI->List AI
 |[]=>[x]
 |y::r=>if x.g=y.g then(if(aI kn x.pos).b<(aI kn y.pos).b then x::r else y::r)else y::eh kn x r
def add(s:St)(x:AI):St:={s with items:=eh s.known x s.items}
def put(s:St)(g:List Int)(us:List AU):Bool×St:=(nc s g us,if dh g≠0 then add (dst s g us) (lk s g us)else dst s g us)
structure gF (K:Nat)(s:St)(g:List Int)(us:List AU):Prop where
 gl:g.length=s.n
 g:∀v∈g,dl v<=8
 ul:us.length<=2
 u0:us≠[]
 u:∀u∈us,mc s.n K s.known u
theorem zA{K:Nat}{s:St}{g:List Int}{us:List AU}(h:gF K s g us):iM s g us<(dst s g us).known.length:=by
 unfold iM dst;split
 . simp
 . cases us with
   |nil=>exact absurd rfl h.u0
   |cons u r=>exact(h.u u cO).1
theorem H4(s:St)(g:List Int)(us:List AU):∃e,(dst s g us).known=s.known++e/\e.length<=1:=by
 unfold dst;split
 . exact⟨_,rfl,by simp⟩
 . exact⟨[],by simp,by simp⟩
theorem Et(s:St)(g:List Int)(us:List AU):(dst s g us).n=s.n:=by unfold dst;split<;>rfl
theorem Im(s:St)(g:List Int)(us:List AU):(dst s g us).items=s.items:=by unfold dst;split<;>rfl
theorem Rc{g:List Int}{n K:Nat}{d:Int}(hd:0<=d)(h:∀v∈g,dl v<=K):∀v∈vec n (fun j=>vf g j/d),dl v<=K:=by
 intro v hv;obtain⟨j,hj,rfl⟩:=gE hv;rw[eN]at hj;rw[dH hj];refine bO (EM hd) ?_;rcases cw j g.length with h1|h1
 . exact h _ (gj h1)
 . rw[lV h1,ir];omega
theorem EW{K:Nat}{s:St}{g:List Int}{us:List AU}(h:gF K s g us):fF (K+6) (mW s.n s.known us (dv g))/\(mW s.n s.known us (dv g)).c.length=s.n:=by
 have hd:=ed (qc g);refine⟨⟨fun v hv=>?_,?_⟩,eN⟩
 . obtain⟨j,hj,rfl⟩:=gE hv;have hj:j<s.n:=by rwa[show(mW s.n s.known us (dv g)).c=vec s.n _ from rfl,eN]at hj
   show dl (vf (vec s.n _) j)<=_;rw[dH hj];have:=zg (j:=j) h.u;have:=h.ul;have:=EM (a:=dX s.known us j) hd;omega
 . have:=BW h.u;have:=h.ul;have:=EM (a:=gk s.known us) hd;show dl (gk s.known us/dv g)<=_;omega
theorem NU{K K':Nat}{s:St}{g:List Int}{us:List AU}(hs:gr K s)(h:gF K' s g us)(hk:K'<=K):Tm (fun N=>sb N s.to (mB g) (us.map AU.to)) (·=((lk s g us).to,decide (dh g≠0),nc s g us,(dst s g us).to)):=by
  have hL:cY=1099511627776:=rfl;have hK:=hs.K;have hkl:=hs.kl;have hsl:=hs.sl;have hn:=hs.n;have hgd:dl (dh g:Nat)<=8:=u5 h.g
  have hdd : dl (dv g) <= 8 := by unfold dv; split; · exact bO jF (by decide)
                                  . exact hgd
  have hgl:=h.gl;have hul:=h.ul;obtain⟨u,r,rfl⟩:∃u r,us=u::r:=by
    cases us with
    |nil=>exact absurd rfl h.u0
    |cons u r=>exact⟨u,r,rfl⟩
  have hu0:=h.u u cO;unfold sb;refine aU (UG (K:=8) (by omega) (by omega) h.g) (aU (jv (by omega)) ?_);have hsg:bM (dh g:Nat) 0≠0↔dh g≠0:=by unfold bM;(repeat' split)<;>omega
  refine aU (a:=B (dv g)) (aZ (fun h0=>?_) (fun h0=>aL ?_)) ?_
  . refine aU (jU (by decide) (by decide)) (aL ?_);unfold dv;rw[if_pos (tu.1 fun e=>h0 (hsg.2 e))]
  . unfold dv;rw[if_neg (hsg.1 (tu.1 h0))]
  refine aU (jU (by decide) (by decide)) ?_;refine aU (a:=many g (u::r)) (aZ (fun h0=>aL ?_) (fun h0=>?_)) ?_
  . rw[cD]at h0;unfold many;rw[decide_eq_true (by omega)];rfl
  . rw[cD]at h0;refine aN (a:=u.to) rfl (aU (j8 (a:=u.n) (b:=1) (by have:=hu0.2.2.1;omega) (bO jF (by decide))) (aZ (fun h1=>aL ?_) (fun h1=>aU (j8 (by omega) (bO jF (by decide))) (aL ?_))))
    . have:u.n≠1:=by rintro e;rw[e]at h1;exact h1 (by decide)
      unfold many;simp[this]
    . have:u.n=1:=by unfold bM at h1;(repeat' split at h1)<;>omega
      have e2:bM (dv g) 1≠0↔dv g≠1:=by unfold bM;(repeat' split)<;>omega
      unfold many;have hr:¬1<(u::r).length:=by omega
      have h3:(((u::r).headD ⟨0,0⟩).n≠1)=False:=by simp[this]
      rw[decide_eq_false hr];simp[this,e2]
  have hmk : ∀ c : Bool, many g (u :: r) = c -> Tm (fun N => ((if c = true then
            (cM 56 s.to.steps [(Step.mk ((u::r).map AU.to) (B (dv g)))]).bind fun x37=>
            (pV N (aR.mk s.to.n s.to.known x37 s.to.u s.to.status s.to.value s.to.items s.to.stack) ((u::r).map AU.to) (B (dv g))).bind fun r38=>
            (cM 56 s.to.known [r38]).bind fun x39=>
            some (x39,x37,[(dR.mk (iw ((List.length x39:Int)-1)) (B 1))])
          else
            some (s.to.known,s.to.steps,(u::r).map AU.to))):Nat->Option ((List bB)×(List Step)×(List dR)))
      (fun t=>t.1=(dst s g (u::r)).to.known/\t.2.1=(dst s g (u::r)).to.steps/\∃x,idx t.2.2 0=some x/\x.Index=((iM s g (u::r):Nat):Int)):=by
    intro c hc;cases c with
    |true=>
      refine cL rfl ?_;refine aN (dN (by show((s.steps.map AS.to).length+_)*_<=_;simp only[cD,cv,dM];omega) (by decide)) ?_;have e:(aR.mk s.to.n s.to.known (s.to.steps++[Step.mk ((u::r).map AU.to) (B (dv g))]) s.to.u s.to.status s.to.value s.to.items s.to.stack)=St.to {s with steps:=s.steps++[⟨u::r,dv g⟩]}:=by
        unfold St.to;simp[AS.to]
      rw[e];refine aU (a:=(mW s.n s.known (u::r) (dv g)).to) (tmSum (s:={s with steps:=s.steps++[⟨u::r,dv g⟩]}) (K:=K') (by omega) hn h.u (by omega) (qc g) (by omega)) ?_;refine aN (dN (by show((s.known.map AQ.to).length+_)*_<=_;simp only[cD,cv,dM];omega) (by decide)) (aL ?_);unfold dst iM;rw[hc];refine⟨by simp[St.to],by simp[St.to,AS.to],_,rfl,?_⟩;dsimp only;rw[bH]<;>simp[St.to]<;>omega
    |false=>
      refine cC (by simp) (aL ?_);unfold dst iM;rw[hc];exact⟨rfl,rfl,u.to,rfl,rfl⟩
  refine Tm.bind (hmk _ rfl) ?_;rintro⟨kn,st,us'⟩ ⟨h1,h2,x,hx,hxi⟩;dsimp only at h1 h2 hx;subst h1;subst h2;refine aN hx ?_;refine aN (ik (n:=s.n) rfl (by omega) (by decide)) ?_;rw[<-oy];refine aU (a:=mB (vec s.n fun j=>vf g j/dv g)) ?_ ?_
  . refine(Tm.sr (n:=s.n) (by omega) (fun j=>vf g j/dv g) (by simp) (fin:=id) ?_ ?_)
    . intro j hj c hc hi;dsimp only[yu];refine cL (by rw[dJ];omega) (aN (ez (by omega)) (Tm.bind (qH (by have:=h.g _ (gj (l:=g) (j:=j) (by omega));omega) (by omega)) ?_));intro r' hr';refine aN hi (aN (ee rfl (by omega)) (aL ?_));rw[hr',jx _ (ed (qc g))]
    . intro c hc;dsimp only[yu];exact cC (by rw[dJ];omega) (aL rfl)
  have hS:aR.mk s.to.n (dst s g (u::r)).to.known (dst s g (u::r)).to.steps s.to.u s.to.status s.to.value s.to.items s.to.stack=(dst s g (u::r)).to:=by
    unfold dst;split<;>rfl
  have hI:(aY.mk x.Index (mB (vec s.n fun j=>vf g j/dv g)))=(lk s g (u::r)).to:=by rw[hxi];rfl
  dsimp only;rw[hS,hI];have hps:=zA h;have hbd:dl (aI (dst s g (u::r)).known (iM s g (u::r))).b<=K+6:=by
    have hm:=eL hps;unfold dst at hm⊢;split at hm
    . rcases fR.1 hm with h3|h3
      . rename_i hm';rw[if_pos hm'];exact bO (hs.k _ h3).1.2 (by omega)
      . rename_i hm';rw[if_pos hm'];rw[cP.1 h3];exact bO (EW h).1.2 (by omega)
    . rename_i hm';rw[if_neg hm'];exact bO (hs.k _ hm).1.2 (by omega)
  refine aZ (fun h0=>aL ?_) (fun h0=>?_)
  . have h0':=hsg.1 h0;unfold nc;rw[decide_eq_true h0,decide_eq_true h0'];rfl
  . have h0':¬dh g≠0:=fun e=>h0 (hsg.2 e);refine aU (sG (s:=dst s g (u::r)) (x:=lk s g (u::r)) hps) (aU (jv (by show dl (aI _ (iM s g (u::r))).b<=_;omega)) (aL ?_));unfold nc;rw[decide_eq_false h0,decide_eq_false h0',Bool.false_or];congr 3;apply decide_eq_decide.2;show bM (aI _ (iM s g (u::r))).b 0≥0↔_;unfold bM;(repeat' split)<;>omega
open Go Go.X
theorem Pp{a b:List Int}(hl:a.length<=1000)(hab:a.length=b.length)(ha:∀v∈a,dl v<=cY)(hb:∀v∈b,dl v<=cY):Tm (fun N=>xS N (mB a) (mB b) (fun y0 y1=>qn N y0 y1)) (·=decide (a=b)):=by
 unfold xS;refine cC (by rw[dJ,dJ];omega) ?_;refine Tm.bind (Tm.each (body:=fun N=>wN N (fun y0 y1=>qn N y0 y1) (mB b) (mB a)) ((List.range a.length)) (fun j=>vf a j=vf b j) (Q:=fun r=>(r=.inr false/\a≠b)\/(r=.inl ()/\∀j∈List.range a.length,vf a j=vf b j)) (by simp;omega) ?_ ?_) ?_
 . intro k hk _;have hk:k<a.length:=by simpa using hk
   dsimp only[wN];refine cL (by rw[dJ];omega) (aN (ez hk) (aN (ez (by omega)) ?_));unfold qn;refine aU (a:=decide (vf a k=vf b k)) (aU (j8 (ha _ (gj hk)) (hb _ (gj (by omega)))) (aL ?_)) (aZ (fun h=>aL (.inr ⟨_,rfl,.inl ⟨rfl,fun e=>?_⟩⟩)) (fun h=>aL (.inl ⟨rfl,?_⟩)))
   . apply decide_eq_decide.2;unfold bM;(repeat' split)<;>omega
   . subst e;simp at h
   . simpa using h
 . intro h;dsimp only[wN];rw[List.length_range];exact cC (by rw[dJ];omega) (aL ⟨_,rfl,.inr ⟨rfl,h⟩⟩)
 . rintro _ (⟨rfl,h⟩|⟨rfl,h⟩)
   . exact aL (by simp[h])
   . exact aL (by simp;exact lr hab fun j hj=>h j (th.2 hj))
theorem Dn{kn:List AQ}{x:AI}:∀{a r:List AI},(∀y∈a,x.g≠y.g)->eh kn x (a++r)=a++eh kn x r
 |[],_,_=>rfl
 |y::a,r,h=>by
  show eh kn x (y::(a++r))=y::(a++eh kn x r);rw[eh,if_neg (h y cO),Dn fun z hz=>h z (cJ _ hz)]
def pH(s:St)(x:AI):Prop:=x.pos<s.known.length/\x.g.length=s.n/\∀v∈x.g,dl v<=8
theorem tE{K:Nat}{s:St}{x:AI}(hs:gr K s)(hx:pH s x):Tm (fun N=>kX N s.to x.to) (·=(add s x).to):=by
 have hL:cY=1099511627776:=rfl;have hK:=hs.K;have hil:=hs.il;unfold kX;have hmap:(s.items.map AI.to).length=s.items.length:=cD ..;refine Tm.bind (Q:=fun r=>(r=.inl ()/\(∀y∈s.items,x.g≠y.g))\/r=.inr (add s x).to) (ei s.items.length (fun k t=>t=(k:Int)/\∀y∈s.items.take k,x.g≠y.g) ⟨rfl,by simp⟩ ?_) ?_
 . rintro k hk t ⟨rfl,hp⟩;dsimp only[yY];refine aZ (fun hlt=>?_) (fun hge=>aL ?_)
   . have hlt:k<s.items.length:=by rw[show s.to.items.length=s.items.length from hmap]at hlt;omega
     obtain⟨y1,y2,y3⟩:=hs.i _ (cX hlt);refine aN (a:=(s.items[k]).to) (by show idx (s.items.map AI.to) _=_;rw[cU (by rw[hmap];exact hlt),ky]) ?_;generalize hy:s.items[k]=y at*;refine aU (Pp (a:=x.g) (b:=y.g) (by have:=hx.2.1;have:=hs.n;omega) (hx.2.1.trans y2.symm) (fun v hv=>bO (hx.2.2 v hv) (by decide)) (fun v hv=>bO (y3 v hv) (by decide))) ?_;refine aZ (fun he=>?_) (fun he=>aL ⟨hlt,dT (by omega),fun z hz=>?_⟩)
     . have he:x.g=y.g:=by simpa using he
       have hsplit:s.items=s.items.take k++y::s.items.drop (k+1):=by
        rw[<-hy,<-fD hlt,nj]
       have hadd:eh s.known x s.items=if(aI s.known x.pos).b<(aI s.known y.pos).b then s.items.set k x else s.items:=by
        conv=>lhs;rw[hsplit]
        rw[Dn hp,eh,if_pos he];split
        . rw[UY,if_pos hlt]
        . exact hsplit.symm
       refine aU (sG hx.1) (aU (sG y1) (aU (j8 (bO (hs.k _ (eL hx.1)).1.2 (by omega)) (bO (hs.k _ (eL y1)).1.2 (by omega))) ?_));refine aZ (fun h1=>?_) (fun h1=>aL ?_)
       . have h1:(aI s.known x.pos).b<(aI s.known y.pos).b:=by unfold bM at h1;(repeat' split at h1)<;>omega
         refine aN (a:=y.to) (by show idx (s.items.map AI.to) _=_;rw[cU (by rw[hmap];exact hlt),ky,hy]) ?_;refine aN (ee rfl (by show _<(s.items.map AI.to).length;rw[hmap];exact hlt)) (aL (.inr ?_));unfold add;rw[hadd,if_pos h1];unfold St.to;dsimp only;rw[Ce]
       . have h1:¬(aI s.known x.pos).b<(aI s.known y.pos).b:=by unfold bM at h1;(repeat' split at h1)<;>omega
         refine .inr ?_;unfold add;rw[hadd,if_neg h1]
     . rw[<-jh hlt,hy]at hz;rcases fR.1 hz with hz|hz
       . exact hp z hz
       . rw[cP.1 hz];intro e;exact he (by simp[e])
   . rw[show s.to.items.length=s.items.length from hmap]at hge;refine .inl ⟨rfl,fun y hy=>hp y ?_⟩;rwa[eU (by omega)]
 . rintro r (⟨rfl,h⟩|rfl)
   . refine aN (dN (by show((s.items.map AI.to).length+_)*_<=_;rw[hmap];simp only[cv,dM];omega) (by decide)) (aL ?_);have:eh s.known x s.items=s.items++[x]:=by
      have:=Dn (kn:=s.known) (x:=x) (a:=s.items) (r:=[]) h;rw[lK]at this;rw[this];rfl
     unfold add;rw[this];unfold St.to;simp
   . exact aL rfl
def jk(m:Nat)(s:St):Prop:=s.known.length+m<=1073741824/\s.steps.length+m<=1073741824/\s.items.length+m<=1073741824
theorem vC{kn:List AQ}{x:AI}:∀{l:List AI},l.length<=(eh kn x l).length/\(eh kn x l).length<=l.length+1
 |[]=>by simp[eh]
 |y::l=>by
  have:=vC (kn:=kn) (x:=x) (l:=l);rw[eh];split
  . split<;>simp
  . simp;omega
theorem l9{kn:List AQ}{x z:AI}:∀{l:List AI},z∈eh kn x l->z=x\/z∈l
 |[],h=>by simp[eh]at h;exact .inl h
 |y::l,h=>by
  rw[eh]at h;split at h
  . split at h
    . rcases eb.1 h with h|h
      . exact .inl h
      . exact .inr (cJ _ h)
    . exact .inr h
  . rcases eb.1 h with h|h
    . exact .inr (h▸cO)
    . rcases l9 h with h|h
      . exact .inl h
      . exact .inr (cJ _ h)
theorem Kl{K m:Nat}{s:St}{x:AI}(hs:gr K s)(hx:pH s x)(hr:jk (m+1) s):gr K (add s x)/\jk m (add s x):=by
 have h1:=vC (kn:=s.known) (x:=x) (l:=s.items);obtain⟨r1,r2,r3⟩:=hr;refine⟨⟨hs.n,hs.kl,hs.sl,?_,hs.k,fun z hz=>?_,hs.K⟩,?_,?_,?_⟩
 . show(eh s.known x s.items).length<=_;omega
 . rcases l9 hz with rfl|hz
   . exact hx
   . exact hs.i z hz
 . show s.known.length+m<=_;omega
 . show s.steps.length+m<=_;omega
 . show(eh s.known x s.items).length+m<=_;omega
theorem HP{K K' m:Nat}{s:St}{g:List Int}{us:List AU}(hs:gr K s)(h:gF K' s g us)(hk:K'+6<=K)(hr:jk (m+1) s):gr K (dst s g us)/\jk m (dst s g us)/\(dst s g us).items.length+m+1<=1073741824:=by
 obtain⟨r1,r2,r3⟩:=hr;unfold dst;split
 . refine⟨⟨hs.n,by simp;omega,by simp;omega,hs.il,fun q hq=>?_,fun z hz=>?_,hs.K⟩,⟨by simp;omega,by simp;omega,by show s.items.length+m<=_;omega⟩,by show s.items.length+m+1<=_;omega⟩
   . rcases fR.1 hq with hq|hq
     . exact hs.k q hq
     . rw[cP.1 hq];exact⟨(EW h).1.mono hk,(EW h).2⟩
   . obtain⟨z1,z2⟩:=hs.i z hz;exact⟨by simp;omega,z2⟩
 . exact⟨hs,⟨by omega,by omega,by omega⟩,by omega⟩
theorem La{K':Nat}{s:St}{g:List Int}{us:List AU}(h:gF K' s g us):pH (dst s g us) (lk s g us):=
 ⟨zA h,by rw[Et];exact eN,Rc (ed (qc g)) h.g⟩
theorem Jp{K K' m:Nat}{s:St}{g:List Int}{us:List AU}(hs:gr K s)(h:gF K' s g us)(hk:K'+6<=K)(hr:jk (m+1) s):gr K (put s g us).2/\jk m (put s g us).2:=by
 obtain⟨h1,h2,h3⟩:=HP hs h hk hr;unfold put;dsimp only;split
 . have:=vC (kn:=(dst s g us).known) (x:=lk s g us) (l:=(dst s g us).items);refine⟨⟨h1.n,h1.kl,h1.sl,?_,h1.k,fun z hz=>?_,h1.K⟩,h2.1,h2.2.1,?_⟩
   . show(eh _ _ _).length<=_;omega
   . rcases l9 hz with rfl|hz
     . exact La h
     . exact h1.i z hz
   . show(eh _ _ _).length+m<=_;omega
 . exact⟨h1,h2⟩
theorem Kt{K K':Nat}{s:St}{g:List Int}{us:List AU}(hs:gr K s)(h:gF K' s g us)(hk:K'+6<=K)(hr:jk 1 s):Tm (fun N=>mY N s.to (mB g) (us.map AU.to)) (·=((put s g us).1,(put s g us).2.to)):=by
 obtain⟨h1,h2,h3⟩:=HP (m:=0) hs h hk hr;unfold mY;refine aU (NU hs h (by omega)) ?_;dsimp only;have hn:s.to.n=(dst s g us).to.n:=by show(s.n:Int)=(dst s g us).n;rw[Et]
 have e1:∀x:aR,s.to.n=x.n->aR.mk s.to.n x.known x.steps x.u x.status x.value x.items x.stack=x:=fun x hx=>iy hx;refine Tm.bind (Q:=fun t=>aR.mk s.to.n t.1 t.2.1 t.2.2.1 t.2.2.2.1 t.2.2.2.2.1 t.2.2.2.2.2.1 t.2.2.2.2.2.2=(put s g us).2.to) (aZ (fun h0=>?_) (fun h0=>aL ?_)) ?_
 . rw[e1 _ hn];refine aU (tE h1 (La h)) (aL ?_);dsimp only;rw[e1 (D.add (dst s g us) (lk s g us)).to hn];unfold put;dsimp only;rw[if_pos (by simpa using h0)]
 . dsimp only;rw[e1 _ hn];unfold put;dsimp only;rw[if_neg (by simpa using h0)]
 . rintro⟨a,b,c,d,e,f,g'⟩ ht;refine aL ?_;dsimp only at ht⊢;rw[ht];rfl
inductive Act where
 |add (x:AI)
 |put (g:List Int) (us:List AU)
def bU:St->List Act->Bool×St
 |s,[]=>(true,s)
 |s,.add x::r=>bU (add s x) r
 |s,.put g us::r=>if(put s g us).1=true then bU (put s g us).2 r else(false,(put s g us).2)
def lJ(K:Nat)(s:St):Act->Prop
 |.add x=>pH s x
 |.put g us=>gF K s g us
theorem mc.app{n K:Nat}{kn e:List AQ}{u:AU}(h:mc n K kn u):mc n K (kn++e) u:=by
 obtain⟨h1,h2,h3,h4,h5⟩:=h;exact⟨by simp;omega,h2,h3,by rw[iQ h1];exact h4,by rw[iQ h1];exact h5⟩
theorem lJ.app{K:Nat}{s s':St}{a:Act}(h:lJ K s a)(hn:s'.n=s.n){e:List AQ}(he:s'.known=s.known++e):lJ K s' a:=by
 cases a with
 |add x=>exact⟨by rw[he];have:=h.1;simp;omega,by rw[hn];exact h.2.1,h.2.2⟩
 |put g us=>exact⟨by rw[hn];exact h.gl,h.g,h.ul,h.u0,fun u hu=>by rw[hn,he];exact(h.u u hu).app⟩
theorem Bd(s:St)(g:List Int)(us:List AU):∃e,(put s g us).2.known=s.known++e/\e.length<=1:=by
 unfold put;dsimp only;split<;>exact H4 s g us
theorem zH(s:St)(g:List Int)(us:List AU):(put s g us).2.n=s.n:=by
 unfold put;dsimp only;split<;>exact Et s g us
structure iK (K:Nat)(s0:St)(L:List Act)(k:Nat)(s:St):Prop where
 run:bU s0 L=bU s (L.drop k)
 ok:gr K s
 room:jk (L.length-k) s
 pre:∃e,s.known=s0.known++e
 n:s.n=s0.n
theorem iK.first{K:Nat}{s0:St}{L:List Act}(h:gr K s0)(hr:jk L.length s0):iK K s0 L 0 s0:=⟨rfl,h,hr,⟨[],by simp⟩,rfl⟩
theorem iK.add{K K0:Nat}{s0 s:St}{L:List Act}{k:Nat}{x:AI}(h:iK K s0 L k s)(hk:k<L.length)(hL:L[k]=.add x)(hx:lJ K0 s0 (.add x)):pH s x/\iK K s0 L (k+1) (add s x):=by
 obtain⟨e,he⟩:=h.pre;have hx':pH s x:=hx.app h.n he;obtain⟨m,hm⟩:∃m,L.length-k=m+1:=⟨L.length-k-1,by omega⟩;have h1:=Kl (m:=m) h.ok hx' (by rw[<-hm];exact h.room);refine⟨hx',?_,h1.1,by rw[show L.length-(k+1)=m by omega];exact h1.2,⟨e,he⟩,h.n⟩;rw[h.run,fD hk,hL];rfl
theorem iK.put{K K0:Nat}{s0 s:St}{L:List Act}{k:Nat}{g:List Int}{us:List AU}(h:iK K s0 L k s)(hk:k<L.length)(hL:L[k]=.put g us)(hx:lJ K0 s0 (.put g us))(hK:K0+6<=K):
 Tm (fun N=>mY N s.to (mB g) (us.map AU.to)) (·=((put s g us).1,(put s g us).2.to))/\((put s g us).1=true->iK K s0 L (k+1) (put s g us).2)/\((put s g us).1=false->bU s0 L=(false,(put s g us).2))/\(put s g us).2.n=s0.n:=by
 obtain⟨e,he⟩:=h.pre;have hx':gF K0 s g us:=hx.app h.n he;obtain⟨m,hm⟩:∃m,L.length-k=m+1:=⟨L.length-k-1,by omega⟩;have hr:jk (m+1) s:=by rw[<-hm];exact h.room
 have hr1:jk 1 s:=⟨by have:=hr.1;omega,by have:=hr.2.1;omega,by have:=hr.2.2;omega⟩;have h1:=Jp (m:=m) h.ok hx' hK hr;obtain⟨e',he',_⟩:=Bd s g us;have hrun:bU s0 L=if(D.put s g us).1=true then bU (D.put s g us).2 (L.drop (k+1))else(false,(D.put s g us).2):=by
  rw[h.run,fD hk,hL];rfl
 refine⟨Kt h.ok hx' hK hr1,fun ht=>⟨?_,h1.1,by rw[show L.length-(k+1)=m by omega];exact h1.2,⟨e++e',by rw[he',he,je]⟩,(zH s g us).trans h.n⟩,fun hf=>?_,(zH s g us).trans h.n⟩
 . rw[hrun,if_pos ht]
 . rw[hrun,if_neg (by rw[hf];simp)]
theorem iK.last{K:Nat}{s0 s:St}{L:List Act}(h:iK K s0 L L.length s):bU s0 L=(true,s):=by
 rw[h.run,Ci];rfl
abbrev Pt:=(List bB)×(List Step)×(List (List aB))×(List Int)×(List aB)×(List aY)×(List dK)
def iJ(s:St):Pt:=(s.to.known,s.to.steps,s.to.u,s.to.status,s.to.value,s.to.items,s.to.stack)
def gv(s:St):List Act:=(List.range s.known.length).map fun i=>.put (aI s.known i).c [⟨i,1⟩]
theorem Up{K K0:Nat}{s:St}(hs:gr K s)(hr:jk s.known.length s)(hK:K0+6<=K)(h:∀q∈s.known,fF K0 q/\∀v∈q.c,dl v<=8):Tm (fun N=>ur N s.to) (·=((bU s (gv s)).1,(bU s (gv s)).2.to)):=by
 have hl:(gv s).length=s.known.length:=by simp[gv]
 have hmap:s.to.known.length=s.known.length:=cD ..;have hkl:=hs.kl;unfold ur;refine Tm.bind (Q:=fun r=>(∃s',r=.inl (iJ s')/\bU s (gv s)=(true,s')/\s'.n=s.n)\/(r=.inr ((bU s (gv s)).1,(bU s (gv s)).2.to))) (ei s.known.length (fun k t=>∃s',iK K s (gv s) k s'/\t=(s'.to.known,s'.to.steps,s'.to.u,s'.to.status,s'.to.value,s'.to.items,s'.to.stack,(k:Int))) ⟨s,iK.first hs (by rw[hl];exact hr),rfl⟩ ?_) ?_
 . rintro k hk _ ⟨s',hi,rfl⟩;dsimp only[CK];refine aZ (fun hlt=>?_) (fun hge=>aL (.inl ⟨s',rfl,?_,hi.n⟩))
   . have hlt:k<s.known.length:=by omega
     obtain⟨e,he⟩:=hi.pre;have hq:=h _ (eL hlt);have hql:=(hs.k _ (eL hlt)).2;refine aN (a:=(aI s.known k).to) (by show idx (s'.known.map AQ.to) _=_;rw[nN (by rw[he];simp;omega),he,iQ hlt]) ?_;refine aU (a:=mB (aI s.known k).c) ?_ ?_
     . unfold nT;refine aN (dN (by show(_+(mB _).length)*_<=_;rw[dJ,hql];have:=hs.n;simp only[dM];omega) (by decide)) (aL rfl)
     have hLk:(gv s)[k]'(by rw[hl];exact hlt)=.put (aI s.known k).c [⟨k,1⟩]:=by simp[gv]
     have hact:lJ K0 s (.put (aI s.known k).c [⟨k,1⟩]):=⟨hql,hq.2,by simp,by simp,fun u hu=>by
      rw[cP.1 hu];exact⟨hlt,GC 1,bO jF (by decide),hq.1,hql⟩⟩
     obtain⟨p1,p2,p3,p4⟩:=hi.put (by rw[hl];exact hlt) hLk hact hK;refine aU (jU (by decide) (by decide)) ?_;rw[iy (x:=s'.to) (by show(s.n:Int)=s'.n;rw[hi.n])];refine aU p1 (aZ (fun hf=>aL ?_) (fun ht=>aL ⟨hlt,_,p2 (by simpa using ht),?_⟩))
     . dsimp only;rw[iy (by show(s.n:Int)=_;rw[show(D.put s' (aI s.known k).c [⟨k,1⟩]).2.to.n=((D.put s' (aI s.known k).c [⟨k,1⟩]).2.n:Int) from rfl,p4])];rw[p3 (by simpa using hf)];exact .inr rfl
     . dsimp only;rw[dT (by omega)]
   . have:k=s.known.length:=by omega
     subst this;exact iK.last (by rw[hl];exact hi)
 . rintro r (⟨s',rfl,h1,h2⟩|rfl)
   . refine aL ?_;show(true,aR.mk s.to.n s'.to.known s'.to.steps s'.to.u s'.to.status s'.to.value s'.to.items s'.to.stack)=_;rw[iy (x:=s'.to) (by show(s.n:Int)=s'.n;rw[h2]),h1]
   . exact aL rfl
open Go Go.X
def jT(n K:Nat)(l:List Int):Prop:=l.length=n/\∀v∈l,dl v<=K
theorem jT.vf{n K:Nat}{l:List Int}(h:jT n K l)(j:Nat):dl (vf l j)<=K:=by
 rcases cw j l.length with hj|hj
 . exact h.2 _ (gj hj)
 . rw[lV hj,ir];omega
structure SU (K:Nat)(s:St):Prop where
 u:s.u.length=s.n/\∀r∈s.u,jT s.n K r
 st:s.status.length=s.n
 v:jT s.n K s.value
def kW(j p:Nat)(q:Int)(l:List Int):List Int:=l.set j (vf l j-q*vf l p)
def kM(s:St)(j p:Nat)(q:Int):St:={s with u:=s.u.map (kW j p q),items:=s.items.map fun x=>{x with g:=kW j p q x.g}}
theorem zB{l:List Int}(h:l.length<=1000):Tm (fun N=>nT N (mB l)) (·=mB l):=by
 unfold nT;exact aN (dN (by rw[dJ];simp only[dM];omega) (by decide)) (aL rfl)
theorem HI{n K:Nat}{l:List Int}{j p:Nat}{q:Int}(hn:n<=512)(hl:jT n K l)(hj:j<n)(hp:p<n)(hK:K+dl q<=cY):Tm (fun N=>mj N (mB l) (j:Int) (B q) (p:Int)) (·=mB (kW j p q l)):=by
 have hll:=hl.1;have h1:=hl.vf j;have h2:=hl.vf p;have h3:=kr q (vf l p);unfold mj;refine aU (zB (by omega)) (aN (ez (by omega)) (aN (ez (by omega)) (aU (oc (by omega) (by omega)) (aU (l5 (by omega) (by omega)) (aN (ez (by omega)) (aN (ee rfl (by rw[dJ];omega)) (aL ?_)))))));rw[vE];rfl
theorem Jz{n K:Nat}{l:List Int}{p:Nat}(hn:n<=512)(hl:jT n K l)(hp:p<n)(hK:K<=cY):Tm (fun N=>mh N (mB l) (p:Int)) (·=mB (l.set p (-vf l p))):=by
 have hll:=hl.1;have h1:=hl.vf p;unfold mh;refine aU (zB (by omega)) (aN (ez (by omega)) (aU (nX (by omega)) (aN (ez (by omega)) (aN (ee rfl (by rw[dJ];omega)) (aL ?_)))));rw[vE]
theorem xA{α β:Type}{l:List α}{f:α->β}{d:α}:(List.range l.length).map (fun k=>f (l.getD k d))=l.map f:=by
 apply pR (by simp);intro i h1 h2;simp at h2;simp[cA,bV h2]
theorem NK{K:Nat}{s:St}{j p:Nat}{q:Int}(hu:SU K s)(hn:s.n<=512)(hil:s.items.length<=1073741824)(hi:∀x∈s.items,jT s.n K x.g)(hj:j<s.n)(hp:p<s.n)(hK:K+dl q<=cY):
 Tm (fun N=>we N s.to (j:Int) (p:Int) (B q)) (·=(kM s j p q).to):=by
 unfold we;have hmu:s.to.u.length=s.u.length:=cD ..;have hmi:s.to.items.length=s.items.length:=cD ..;have hul:=hu.u.1;refine aU (a:=s.u.map fun r=>mB (kW j p q r)) ?_ ?_
 . refine(Tm.fill (n:=s.u.length) (by omega) (c0:=s.to.u) (fun k=>mB (kW j p q (s.u.getD k []))) hmu (fin:=id) ?_ ?_).mono ?_
   . intro k hk c hc hi';have e0:s.to.u[k]?=some (mB s.u[k]):=by show(s.u.map mB)[k]?=_;rw[gR,bV hk];rfl
     rw[e0]at hi';dsimp only[y7];refine cL (by rw[hmu];omega) (aN (kK hi') (aU (HI hn (hu.u.2 _ (cX hk)) hj hp hK) (aN (kK hi') (aN (ee rfl (by omega)) (aL ?_)))));rw[cA,bV hk];rfl
   . intro c hc;dsimp only[y7];exact cC (by rw[hmu];omega) (aL rfl)
   . intro r hr;rw[hr,id,xA (f:=fun r=>mB (kW j p q r))]
 . refine aU (a:=s.items.map fun x=>({x with g:=kW j p q x.g}:AI).to) ?_ ?_
   . refine(Tm.fill (n:=s.items.length) (by omega) (c0:=s.to.items) (fun k=>({s.items.getD k ⟨0,[]⟩with g:=kW j p q (s.items.getD k ⟨0,[]⟩).g}:AI).to) hmi (fin:=id) ?_ ?_).mono ?_
     . intro k hk c hc hi';have e0:s.to.items[k]?=some (s.items[k]).to:=by show(s.items.map AI.to)[k]?=_;rw[gR,bV hk];rfl
       rw[e0]at hi';dsimp only[Bz];refine cL (by rw[hmi];omega) (aN (kK hi') (aU (HI hn (hi _ (cX hk)) hj hp hK) (aN (kK hi') (aN (ee rfl (by omega)) (aL ?_)))));rw[cA,bV hk];rfl
     . intro c hc;dsimp only[Bz];exact cC (by rw[hmi];omega) (aL rfl)
     . intro r hr;rw[hr,id,xA (f:=fun x:AI=>({x with g:=kW j p q x.g}:AI).to)]
   . refine aL ?_;unfold kM St.to;dsimp only;rw[mq,mq];rfl
def flS(s:St)(p:Nat):St:={s with u:=s.u.map (fun l=>l.set p (-vf l p)),items:=s.items.map fun x=>{x with g:=x.g.set p (-vf x.g p)}}
theorem Qn{K:Nat}{s:St}{p:Nat}(hu:SU K s)(hn:s.n<=512)(hil:s.items.length<=1073741824)(hi:∀x∈s.items,jT s.n K x.g)(hp:p<s.n)(hK:K<=cY):
 Tm (fun N=>wE N s.to (p:Int)) (·=(flS s p).to):=by
 unfold wE;have hmu:s.to.u.length=s.u.length:=cD ..;have hmi:s.to.items.length=s.items.length:=cD ..;have hul:=hu.u.1;refine aU (a:=s.u.map fun r=>mB (r.set p (-vf r p))) ?_ ?_
 . refine(Tm.fill (n:=s.u.length) (by omega) (c0:=s.to.u) (fun k=>mB ((s.u.getD k []).set p (-vf (s.u.getD k []) p))) hmu (fin:=id) ?_ ?_).mono ?_
   . intro k hk c hc hi';have e0:s.to.u[k]?=some (mB s.u[k]):=by show(s.u.map mB)[k]?=_;rw[gR,bV hk];rfl
     rw[e0]at hi';dsimp only[A7];refine cL (by rw[hmu];omega) (aN (kK hi') (aU (Jz hn (hu.u.2 _ (cX hk)) hp hK) (aN (kK hi') (aN (ee rfl (by omega)) (aL ?_)))));rw[cA,bV hk];rfl
   . intro c hc;dsimp only[A7];exact cC (by rw[hmu];omega) (aL rfl)
   . intro r hr;rw[hr,id,xA (f:=fun r:List Int=>mB (r.set p (-vf r p)))]
 . refine aU (a:=s.items.map fun x=>({x with g:=x.g.set p (-vf x.g p)}:AI).to) ?_ ?_
   . refine(Tm.fill (n:=s.items.length) (by omega) (c0:=s.to.items) (fun k=>({s.items.getD k ⟨0,[]⟩with g:=(s.items.getD k ⟨0,[]⟩).g.set p (-vf (s.items.getD k ⟨0,[]⟩).g p)}:AI).to) hmi (fin:=id) ?_ ?_).mono ?_
     . intro k hk c hc hi';have e0:s.to.items[k]?=some (s.items[k]).to:=by show(s.items.map AI.to)[k]?=_;rw[gR,bV hk];rfl
       rw[e0]at hi';dsimp only[Ae];refine cL (by rw[hmi];omega) (aN (kK hi') (aU (Jz hn (hi _ (cX hk)) hp hK) (aN (kK hi') (aN (ee rfl (by omega)) (aL ?_)))));rw[cA,bV hk];rfl
     . intro c hc;dsimp only[Ae];exact cC (by rw[hmi];omega) (aL rfl)
     . intro r hr;rw[hr,id,xA (f:=fun x:AI=>({x with g:=x.g.set p (-vf x.g p)}:AI).to)]
   . refine aL ?_;unfold flS St.to;dsimp only;rw[mq,mq];rfl
def rN(a:List Int)(p:Nat):Prop:=p<a.length/\vf a p≠0/\∀j,j<a.length->vf a j≠0->(vf a p).natAbs<=(vf a j).natAbs
theorem absB(v:Int):aB.mk false (B v).aP=B (v.natAbs:Int):=by
 show aB.mk false (pU v.natAbs)=aB.mk (decide ((v.natAbs:Int)<0)) (pU ((v.natAbs:Int)).natAbs);rw[Nc,decide_eq_false (by omega)]
theorem Mz(v:Int):dl (v.natAbs:Int)=dl v:=Nat.le_antisymm (rI (by omega)) (rI (by omega))
theorem pJ{a:Int}:bM a 0≠0↔a≠0:=by unfold bM;(repeat' split)<;>omega
theorem og{a b:Int}:bM a b<0↔a<b:=by unfold bM;(repeat' split)<;>omega
theorem OT{x:AI}(hl:x.g.length<=1000)(hd:∀v∈x.g,dl v<=cY)(h0:∃j,j<x.g.length/\vf x.g j≠0):Tm (fun N=>bI (zJ N x.to) N ((-1),0)) (fun r=>∃p:Nat,r=(p:Int)/\rN x.g p):=by
 have hxl:x.to.g.length=x.g.length:=dJ _;refine ei x.g.length (fun k t=>t.2=(k:Int)/\((t.1=-1/\∀j,j<k->vf x.g j=0)\/∃p:Nat,t.1=(p:Int)/\p<k/\vf x.g p≠0/\∀j,j<k->vf x.g j≠0->(vf x.g p).natAbs<=(vf x.g j).natAbs)) ⟨rfl,.inl ⟨rfl,fun j hj=>by omega⟩⟩ ?_;rintro k hk ⟨p,i⟩ ⟨rfl,hp⟩;dsimp only at hp;dsimp only[zJ];refine aZ (fun hlt=>?_) (fun hge=>aL ?_)
 . have hlt:k<x.g.length:=by omega
   have hdk:=hd _ (gj hlt);have hidx:idx x.to.g (k:Int)=some (B (vf x.g k)):=ez hlt;refine Tm.bind (Q:=fun r:Int=>(r=(k:Int)/\vf x.g k≠0/\∀j,j<k->vf x.g j≠0->(vf x.g k).natAbs<=(vf x.g j).natAbs)\/(r=p/\(vf x.g k=0\/∃p':Nat,p=(p':Int)/\(vf x.g p').natAbs<=(vf x.g k).natAbs))) ?_ ?_
   . refine Tm.bind (Q:=fun c=>(c=true/\vf x.g k≠0/\∀j,j<k->vf x.g j≠0->(vf x.g k).natAbs<=(vf x.g j).natAbs)\/(c=false/\(vf x.g k=0\/∃p':Nat,p=(p':Int)/\(vf x.g p').natAbs<=(vf x.g k).natAbs))) ?_ ?_
     . refine aN hidx (aU (jv hdk) (aZ (fun h1=>?_) (fun h1=>aL (.inr ⟨rfl,.inl ?_⟩))))
       . have h1:=pJ.1 h1;rcases hp with⟨rfl,hz⟩|⟨p',rfl,hpk,hp0,hpm⟩
         . exact cL (by decide) (aL (.inl ⟨rfl,h1,fun j hj hj0=>absurd (hz j hj) hj0⟩))
         . refine cC (by omega) ?_;refine aN hidx (aN (a:=B (vf x.g k).natAbs) (congrArg some (absB _)) ?_);refine aN (ez (l:=x.g) (k:=p') (by omega)) (aN (a:=B (vf x.g p').natAbs) (congrArg some (absB _)) ?_);refine aU (j8 (by rw[Mz];exact hdk) (by rw[Mz];exact hd _ (gj (by omega)))) (aL ?_);by_cases hc:(vf x.g k).natAbs<(vf x.g p').natAbs
           . exact .inl ⟨decide_eq_true (og.2 (by omega)),h1,fun j hj hj0=>by have:=hpm j hj hj0;omega⟩
           . exact .inr ⟨decide_eq_false (fun e=>hc (by have:=og.1 e;omega)),.inr ⟨p',rfl,by omega⟩⟩
       . exact jL fun e=>h1 (pJ.2 e)
     . rintro c (⟨rfl,h1⟩|⟨rfl,h1⟩)
       . exact cL rfl (aL (.inl ⟨rfl,h1⟩))
       . exact cC (by simp) (aL (.inr ⟨rfl,h1⟩))
   . rintro r hr;refine aL ⟨hlt,dT (by omega),?_⟩;dsimp only;rcases hr with⟨rfl,h1,h2⟩|⟨rfl,h1⟩
     . refine .inr ⟨k,rfl,by omega,h1,fun j hj hj0=>?_⟩;rcases cw j k with h3|h3
       . exact h2 j h3 hj0
       . obtain rfl:j=k:=by omega
         exact bK _
     . rcases hp with⟨e,hz⟩|⟨p',e,hpk,hp0,hpm⟩
       . rcases h1 with h1|⟨p',e',_⟩
         . refine .inl ⟨e,fun j hj=>?_⟩;rcases cw j k with h3|h3
           . exact hz j h3
           . obtain rfl:j=k:=by omega
             exact h1
         . omega
       . refine .inr ⟨p',e,by omega,hp0,fun j hj hj0=>?_⟩;rcases cw j k with h3|h3
         . exact hpm j h3 hj0
         . obtain rfl:j=k:=by omega
           rcases h1 with h1|⟨p'',e',h4⟩
           . exact absurd h1 hj0
           . obtain rfl:p''=p':=by omega
             exact h4
 . have:k=x.g.length:=by omega
   subst this;rcases hp with⟨rfl,hz⟩|⟨p',rfl,hpk,hp0,hpm⟩
   . obtain⟨j,hj,hj0⟩:=h0;exact absurd (hz j hj) hj0
   . exact⟨p',rfl,hpk,hp0,hpm⟩
def bW(a:List Int)(p k:Nat)(l:List Int):List Int:=vec l.length fun j=>if j<k/\j≠p then vf l j-(vf a j).fdiv (vf a p)*vf l p else vf l j
def fA(s:St)(a:List Int)(p k:Nat):St:={s with u:=s.u.map (bW a p k),items:=s.items.map fun x=>{x with g:=bW a p k x.g}}
theorem oR{a:List Int}{p k:Nat}{l:List Int}:(bW a p k l).length=l.length:=eN
theorem NY{a:List Int}{p:Nat}{l:List Int}:bW a p 0 l=l:=by
 refine lr eN fun j hj=>?_;rw[show(bW a p 0 l).length=l.length from eN]at hj;unfold bW;rw[dH hj,if_neg (by omega)]
theorem Jn{a:List Int}{p k:Nat}{l:List Int}(hp:p<l.length)(hk:k<l.length)(hkp:k≠p):kW k p ((vf a k).fdiv (vf a p)) (bW a p k l)=bW a p (k+1) l:=by
 refine lr (by unfold kW;rw[iS];exact eN.trans eN.symm) fun j hj=>?_;unfold kW at hj⊢;rw[iS,oR]at hj;have e1:vf (bW a p k l) k=vf l k:=by unfold bW;rw[dH hk,if_neg (by omega)]
 have e2:vf (bW a p k l) p=vf l p:=by unfold bW;rw[dH hp,if_neg (by omega)]
 rw[jR (by rw[oR];exact hk),e1,e2];have e3:vf (bW a p (k+1) l) j=if j<k+1/\j≠p then vf l j-(vf a j).fdiv (vf a p)*vf l p else vf l j:=by unfold bW;rw[dH hj]
 have e4:vf (bW a p k l) j=if j<k/\j≠p then vf l j-(vf a j).fdiv (vf a p)*vf l p else vf l j:=by unfold bW;rw[dH hj]
 rw[e3];by_cases e:k=j
 . subst e;rw[if_pos rfl,if_pos ⟨by omega,hkp⟩]
 . rw[if_neg e,e4];by_cases h2:j<k/\j≠p
   . rw[if_pos h2,if_pos ⟨by omega,h2.2⟩]
   . rw[if_neg h2,if_neg (by omega)]
theorem OK{a:List Int}{p k:Nat}{l:List Int}(h:k=p\/vf a k=0):bW a p (k+1) l=bW a p k l:=by
 unfold bW;refine J3 fun j hj=>?_;by_cases e:j=k
 . subst e;have h2:¬(j<j/\j≠p):=by omega
   rcases h with h|h
   . have h1:¬(j<j+1/\j≠p):=by omega
     rw[if_neg h1,if_neg h2]
   . rw[if_neg h2,h];split
     . rw[yF];omega
     . rfl
 . by_cases h2:j<k/\j≠p
   . rw[if_pos h2,if_pos ⟨by omega,h2.2⟩]
   . rw[if_neg h2,if_neg (by omega)]
theorem Sh(s:St)(a:List Int)(p:Nat):fA s a p 0=s:=by
 unfold fA;rw[show bW a p 0=id from funext fun l=>NY];simp
theorem Tn{s:St}{a:List Int}{p k:Nat}(h:k=p\/vf a k=0):fA s a p (k+1)=fA s a p k:=by
 unfold fA;rw[show bW a p (k+1)=bW a p k from funext fun l=>OK h]
theorem Th{s:St}{a:List Int}{p k:Nat}(hu:∀r∈s.u,r.length=s.n)(hi:∀x∈s.items,x.g.length=s.n)(hp:p<s.n)(hk:k<s.n)(hkp:k≠p):kM (fA s a p k) k p ((vf a k).fdiv (vf a p))=fA s a p (k+1):=by
 unfold kM fA;dsimp only;rw[mq,mq];congr 1
 . apply Cj;intro r hr;exact Jn (by rw[hu r hr];exact hp) (by rw[hu r hr];exact hk) hkp
 . apply Cj;intro x hx;show AI.mk _ _=AI.mk _ _;rw[show kW k p ((vf a k).fdiv (vf a p)) (bW a p k x.g)=bW a p (k+1) x.g from Jn (by rw[hi x hx];exact hp) (by rw[hi x hx];exact hk) hkp]
theorem DQ{n K:Nat}{a:List Int}{p k:Nat}{l:List Int}(hl:jT n K l)(ha:∀j,dl (vf a j)<=8):jT n (K+9) (bW a p k l):=by
 refine⟨oR.trans hl.1,fun v hv=>?_⟩;obtain⟨j,hj,rfl⟩:=gE hv;rw[oR]at hj;unfold bW;rw[dH hj];split
 . have h1:=hl.vf j;have h2:=hl.vf p;have h3:=kr ((vf a j).fdiv (vf a p)) (vf l p);have h4:=re (vf a j) (vf a p);have h5:=ha j;exact jX (K:=K+8) (by omega) (by omega)
 . have:=hl.vf j;omega
theorem Qj{K:Nat}{s0 s:St}{i p:Nat}(hu:SU K s)(hn:s.n<=512)(hn0:s0.n=s.n)(hil:s.items.length<=1073741824)(hi:∀x∈s.items,jT s.n 8 x.g)(hii:i<s.items.length)(hp:p<s.n)(hK8:8<=K)(hK:K+30<=cY)(c0:Bool):
 Tm (fun N=>bI (AZ N s0.to (i:Int) (s.items[i]).to (p:Int)) N (s.to.known,s.to.steps,s.to.u,s.to.status,s.to.value,s.to.items,s.to.stack,c0,0))
  (fun r=>∃c,r=((fA s (s.items[i]).g p s.n).to.known,(fA s (s.items[i]).g p s.n).to.steps,(fA s (s.items[i]).g p s.n).to.u,(fA s (s.items[i]).g p s.n).to.status,(fA s (s.items[i]).g p s.n).to.value,(fA s (s.items[i]).g p s.n).to.items,(fA s (s.items[i]).g p s.n).to.stack,c)/\(c=true↔c0=true/\∀j,j<s.n->j≠p->vf (s.items[i]).g j=0)):=by
 generalize hx:s.items[i]=x;have hxm:x∈s.items:=hx▸cX hii;obtain⟨xl,xd⟩:=hi x hxm;have hxl:x.to.g.length=s.n:=(dJ _).trans xl;have ha:∀j,dl (vf x.g j)<=8:=jT.vf ⟨xl,xd⟩;refine ei s.n (fun k t=>∃c,t=((fA s x.g p k).to.known,(fA s x.g p k).to.steps,(fA s x.g p k).to.u,(fA s x.g p k).to.status,(fA s x.g p k).to.value,(fA s x.g p k).to.items,(fA s x.g p k).to.stack,c,(k:Int))/\(c=true↔c0=true/\∀j,j<k->j≠p->vf x.g j=0)) ⟨c0,by rw[Sh];rfl,by simp⟩ ?_;rintro k hk _ ⟨c,rfl,hc⟩;dsimp only[AZ];refine aZ (fun hlt=>?_) (fun hge=>aL ?_)
 . have hlt:k<s.n:=by rw[hxl]at hlt;omega
   have hik:∀z∈(fA s x.g p k).items,jT s.n (8+9) z.g:=by
    intro z hz;obtain⟨w,hw,rfl⟩:=dz.1 hz;exact DQ (hi w hw) ha
   have hgk:(fA s x.g p k).items[i]?=some {x with g:=bW x.g p k x.g}:=by
    show(s.items.map _)[i]?=_;rw[gR,bV hii,hx];rfl
   refine Tm.bind (Q:=fun r=>(r.1,r.2.1,r.2.2.1,r.2.2.2.1,r.2.2.2.2.1,r.2.2.2.2.2.1,r.2.2.2.2.2.2.1)=iJ (fA s x.g p (k+1))/\(r.2.2.2.2.2.2.2=true↔c0=true/\∀j,j<k+1->j≠p->vf x.g j=0)) (Tm.bind (Q:=fun b=>b=decide (k≠p/\vf x.g k≠0)) (aZ (fun hkp=>?_) (fun hkp=>aL ?_)) ?_) ?_
   . have hkp:k≠p:=by omega
     refine aN (a:=({x with g:=bW x.g p k x.g}:AI).to) (kK (by show((fA s x.g p k).items.map AI.to)[i]?=_;rw[gR,hgk];rfl)) ?_;refine aN (ez (l:=bW x.g p k x.g) (by rw[oR];omega)) ?_;have e:vf (bW x.g p k x.g) k=vf x.g k:=by unfold bW;rw[dH (by omega),if_neg (by omega)]
     rw[e];refine aU (jv (bO (ha k) (by decide))) (aL ?_);apply decide_eq_decide.2;rw[pJ];exact⟨fun h=>⟨hkp,h⟩,fun h=>h.2⟩
   . rw[decide_eq_false];omega
   . rintro _ rfl;refine aZ (fun h1=>?_) (fun h1=>aL ?_)
     . obtain⟨hkp,hk0⟩:=of_decide_eq_true h1;refine aN (ez (l:=x.g) (by omega)) (aN (ez (l:=x.g) (k:=p) (by omega)) (Tm.bind (qH (bO (ha k) (by decide)) (bO (ha p) (by decide))) ?_));intro r hr;rw[hr,iy (x:=(fA s x.g p k).to) (by show(s0.n:Int)=s.n;rw[hn0])];have hSUk:SU (K+9) (fA s x.g p k):=⟨⟨by show(s.u.map _).length=_;rw[cD];exact hu.u.1,fun l hl=>by
        obtain⟨w,hw,rfl⟩:=dz.1 hl;exact DQ (hu.u.2 w hw) ha⟩,hu.st,⟨hu.v.1,fun v hv=>by have:=hu.v.2 v hv;omega⟩⟩
       have hq:=re (vf x.g k) (vf x.g p);have hq8:=ha k;refine aU (NK (s:=fA s x.g p k) hSUk hn (by show(s.items.map _).length<=_;rw[cD];exact hil) (fun z hz=>⟨(hik z hz).1,fun v hv=>by have:=(hik z hz).2 v hv;omega⟩) hlt hp (by omega)) (aL ?_);rw[Th (fun r hr=>(hu.u.2 r hr).1) (fun z hz=>(hi z hz).1) hp hlt hkp];refine⟨rfl,?_⟩;dsimp only;exact⟨fun e=>(by cases e),fun e=>absurd (e.2 k (by omega) hkp) hk0⟩
     . have h2:k=p\/vf x.g k=0:=by
        have:¬(k≠p/\vf x.g k≠0):=fun e=>h1 (decide_eq_true e);omega
       rw[Tn h2];refine⟨rfl,?_⟩;dsimp only;rw[hc];refine and_congr_right fun _=>⟨fun h j hj hjp=>?_,fun h j hj hjp=>h j (by omega) hjp⟩;rcases cw j k with h3|h3
       . exact h j h3 hjp
       . obtain rfl:j=k:=by omega
         rcases h2 with h2|h2
         . exact absurd h2 hjp
         . exact h2
   . rintro⟨r1,r2,r3,r4,r5,r6,r7,r8⟩ ⟨h1,h2⟩;dsimp only at h1 h2⊢;obtain⟨rfl,rfl,rfl,rfl,rfl,rfl,rfl⟩:=by simpa[iJ]using h1
     exact aL ⟨hlt,r8,by rw[dT (by omega)],h2⟩
 . have:k=s.n:=by rw[hxl]at hge;omega
   subst this;exact⟨c,rfl,hc⟩
open Go Go.X
def bE(f g:Nat->Int):Nat->Int
 |0=>0
 |n+1=>bE f g n+f n*g n
theorem eF{f f' g g':Nat->Int}:∀{n:Nat},(∀j,j<n->f j=f' j)->(∀j,j<n->g j=g' j)->bE f g n=bE f' g' n
 |0,_,_=>rfl
 |n+1,h,h'=>by simp only[bE];rw[eF (n:=n) (fun j hj=>h j (by omega)) (fun j hj=>h' j (by omega)),h n (by omega),h' n (by omega)]
theorem u9{f h g:Nat->Int}{k:Int}:∀n,bE (fun j=>f j+k*h j) g n=bE f g n+k*bE h g n
 |0=>by simp[bE]
 |n+1=>by simp only[bE,u9 n];grind
theorem rW{f g:Nat->Int}{k:Int}:∀n,bE (fun j=>k*f j) g n=k*bE f g n
 |0=>by simp[bE]
 |n+1=>by simp only[bE,rW n];grind
theorem pg{f g:Nat->Int}:∀n,bE f g n=bE g f n
 |0=>rfl
 |n+1=>by simp only[bE,pg n];grind
theorem sX{f g:Nat->Int}:∀{n:Nat},(∀j,j<n->f j=0)->bE f g n=0
 |0,_=>rfl
 |n+1,h=>by simp only[bE];rw[sX (n:=n) fun j hj=>h j (by omega),h n (by omega)];simp
theorem qL{f g:Nat->Int}{p:Nat}:∀{n:Nat},p<n->(∀j,j<n->j≠p->f j=0)->bE f g n=f p*g p
 |n+1,hp,h=>by
  simp only[bE];by_cases e:n=p
  . subst e;rw[sX fun j hj=>h j (by omega) (by omega)];simp
  . rw[qL (n:=n) (by omega) fun j hj=>h j (by omega),h n (by omega) e];simp
def cK(y:Nat->Int)(v:Nat)(z:Int):Nat->Int:=fun j=>if j=v then z else y j
theorem uk{f y:Nat->Int}{v:Nat}{z:Int}:∀{n:Nat},v<n->bE f (cK y v z) n=bE f y n+f v*(z-y v)
 |n+1,hv=>by
  simp only[bE];by_cases e:n=v
  . subst e;rw[eF (f:=f) (f':=f) (g:=cK y n z) (g':=y) (n:=n) (fun _ _=>rfl) fun j hj=>by unfold cK;rw[if_neg (by omega)]];unfold cK;rw[if_pos rfl];grind
  . rw[uk (n:=n) (by omega)];unfold cK;rw[if_neg e];grind
theorem mH{c y:Nat->Int}{U:Nat->Nat->Int}{n:Nat}:∀{m:Nat},bE c (fun i=>bE (U i) y n) m=bE (fun j=>bE c (fun i=>U i j) m) y n
 |0=>by simp only[bE];rw[sX fun _ _=>rfl]
 |m+1=>by
  simp only[bE];rw[mH (m:=m)];have:=u9 (f:=fun j=>bE c (fun i=>U i j) m) (h:=fun j=>U m j) (g:=y) (k:=c m) n;exact this.symm
theorem E9{f g:Nat->Int}{d:Int}:∀{n:Nat},(∀j,j<n->d∣f j)->d∣bE f g n
 |0,_=>yG d
 |n+1,h=>Int.dvd_add (E9 fun j hj=>h j (by omega)) (Int.dvd_trans (h n (by omega)) (Int.dvd_mul_right ..))
def mx(u:List (List Int))(i j:Nat):Int:=vf (u.getD i []) j
def ux(s:St)(y:Nat->Int)(i:Nat):Int:=bE (mx s.u i) y s.n
def cu(u:List (List Int))(n:Nat)(c:List Int)(j:Nat):Int:=bE (vf c) (fun i=>mx u i j) n
theorem AJ(s:St)(c:List Int)(y:Nat->Int):bE (vf c) (ux s y) s.n=bE (cu s.u s.n c) y s.n:=mH
theorem JO{s:St}{y:Nat->Int}{v:Nat}{z:Int}{i:Nat}(hv:v<s.n):ux s (cK y v z) i=ux s y i+mx s.u i v*(z-y v):=uk hv
def Unim(u:List (List Int))(n:Nat)(w:Nat->Nat->Int):Prop:=(∀i,i<n->∀k,k<n->bE (mx u i) (fun j=>w j k) n=if i=k then 1 else 0)/\∀i,i<n->∀k,k<n->bE (w i) (fun j=>mx u j k) n=if i=k then 1 else 0
theorem oX{c:Nat->Int}{n k:Nat}(hk:k<n):bE c (fun i=>if i=k then 1 else 0) n=c k:=by
 rw[pg,qL hk fun j _ hj=>if_neg hj,if_pos rfl];omega
theorem zo{u:List (List Int)}{n:Nat}{w:Nat->Nat->Int}(h:Unim u n w){c:List Int}{k:Nat}(hk:k<n):vf c k=bE (cu u n c) (fun j=>w j k) n:=by
 have:bE (cu u n c) (fun j=>w j k) n=bE (vf c) (fun i=>bE (mx u i) (fun j=>w j k) n) n:=mH.symm;rw[this,eF (f':=vf c) (g':=fun i=>if i=k then 1 else 0) (fun _ _=>rfl) (fun i hi=>h.1 i hi k hk),oX hk]
theorem zC{u:List (List Int)}{n:Nat}{a b:List Int}{k:Int}{j:Nat}{c:List Int}(h:∀i,i<n->vf c i=vf a i+k*vf b i):cu u n c j=cu u n a j+k*cu u n b j:=by
 unfold cu;rw[eF (f':=fun i=>vf a i+k*vf b i) (g':=fun i=>mx u i j) h fun _ _=>rfl,u9]
theorem A5{u:List (List Int)}{n:Nat}{a c:List Int}{k:Int}{j:Nat}(h:∀i,i<n->vf c i=k*vf a i):cu u n c j=k*cu u n a j:=by
 unfold cu;rw[eF (f':=fun i=>k*vf a i) (g':=fun i=>mx u i j) h fun _ _=>rfl,rW]
structure Inv (s:St):Prop where
 ul:s.u.length=s.n/\∀r∈s.u,r.length=s.n
 fX:s.status.length=s.n
 vl:s.value.length=s.n
 kl:∀q∈s.known,q.c.length=s.n
 it:∀x∈s.items,x.pos<s.known.length/\x.g.length=s.n
 dp:∀x∈s.items,∀j,j<s.n->vf x.g j=cu s.u s.n (aI s.known x.pos).c j
 nf:∀x∈s.items,∀j,j<s.n->vf s.status j≠0->vf x.g j=0
 gD:∀x∈s.items,dh x.g=1
 kh:s.items.Pairwise fun x y=>x.g≠y.g
 j2:∃w,Unim s.u s.n w
 stat:∀j,j<s.n->vf s.status j=0\/vf s.status j=1\/vf s.status j=2
 sv:∀e∈s.stack,e.v<s.n/\vf s.status e.v=2/\∀p∈e.items,p<s.known.length
 s2:∀j,j<s.n->vf s.status j=2->∃e∈s.stack,e.v=j
 sd:s.stack.Pairwise fun e' e=>e'.v≠e.v/\∀p∈e.items,cu s.u s.n (aI s.known p).c e'.v=0
def IH(s:St)(y:Nat->Int)(x:AI):Prop:=bE (vf x.g) y s.n<=(aI s.known x.pos).b
def hx(s:St)(x:Nat->Int)(p:Nat):Prop:=bE (vf (aI s.known p).c) x s.n<=(aI s.known p).b
theorem vK{s:St}(h:Inv s){x:AI}(hx':x∈s.items){y:Nat->Int}:IH s y x↔hx s (ux s y) x.pos:=by
 unfold IH hx;rw[AJ,eF (f:=vf x.g) (f':=cu s.u s.n (aI s.known x.pos).c) (g:=y) (g':=y) (h.dp x hx') fun _ _=>rfl]
def Fx(s:St)(y:Nat->Int):Prop:=∀j,j<s.n->vf s.status j=1->y j=vf s.value j
def Hs(s:St)(y:Nat->Int)(k:Nat):Prop:=Fx s y/\(∀x∈s.items,IH s y x)/\∀e∈s.stack.drop k,∀p∈e.items,hx s (ux s y) p
structure gT (s s':St):Prop where
 n:s'.n=s.n
 kn:∃e,s'.known=s.known++e
 dP:∃t,s'.stack=s.stack++t
 col:∀j,j<s.n->vf s.status j≠0->vf s'.status j=vf s.status j/\(vf s.status j=1->vf s'.value j=vf s.value j)/\∀i,i<s.n->mx s'.u i j=mx s.u i j
 tr:∀y',∃y,(∀i,i<s.n->ux s' y' i=ux s y i)/\(∀j,j<s.n->vf s.status j≠0->y j=y' j)/\∀k,k<=s.stack.length->Hs s' y' k->Hs s y k
theorem gT.refl(s:St):gT s s:=⟨rfl,⟨[],by simp⟩,⟨[],by simp⟩,fun j _ _=>⟨rfl,fun _=>rfl,fun _ _=>rfl⟩,fun y=>⟨y,fun _ _=>rfl,fun _ _ _=>rfl,fun _ _ h=>h⟩⟩
theorem gT.trans{a b c:St}(h:gT a b)(h':gT b c):gT a c:=by
 obtain⟨e1,h1⟩:=h.kn;obtain⟨e2,h2⟩:=h'.kn;obtain⟨t1,g1⟩:=h.dP;obtain⟨t2,g2⟩:=h'.dP;refine⟨h'.n.trans h.n,⟨e1++e2,by rw[h2,h1,je]⟩,⟨t1++t2,by rw[g2,g1,je]⟩,fun j hj hs=>?_,fun y''=>?_⟩
 . obtain⟨c1,c2,c3⟩:=h.col j hj hs;obtain⟨d1,d2,d3⟩:=h'.col j (by rw[h.n];exact hj) (by rw[c1];exact hs);exact⟨d1.trans c1,fun e=>(d2 (by rw[c1];exact e)).trans (c2 e),fun i hi=>(d3 i (by rw[h.n];exact hi)).trans (c3 i hi)⟩
 . obtain⟨y',p1,p2,p3⟩:=h'.tr y'';obtain⟨y,q1,q2,q3⟩:=h.tr y';refine⟨y,fun i hi=>(p1 i (by rw[h.n];exact hi)).trans (q1 i hi),fun j hj hs=>(q2 j hj hs).trans (p2 j (by rw[h.n];exact hj) (by rw[(h.col j hj hs).1];exact hs)),fun k hk hh=>q3 k hk (p3 k (by rw[g1];simp;omega) hh)⟩
structure RF (sys:List AQ)(s:St):Prop where
 R:∀y,Hs s y 0->∀q∈sys,bE (vf q.c) (ux s y) s.n<=q.b
 F:∀k e,s.stack[k]?=some e->e.dD=false->∀y,Hs s y (k+1)->∃z,∀p∈e.items,hx s (ux s (cK y e.v z)) p
theorem si{s s':St}(hn:s'.n=s.n){e:List AQ}(h:s'.known=s.known++e){p:Nat}(hp:p<s.known.length){x x':Nat->Int}(hx':∀i,i<s.n->x' i=x i):hx s' x' p↔hx s x p:=by
 unfold hx;rw[h,iQ hp,hn,eF (f:=vf (aI s.known p).c) (f':=vf (aI s.known p).c) (fun _ _=>rfl) hx']
theorem gT.R{sys:List AQ}{s s':St}(h:gT s s')(hr:∀y,Hs s y 0->∀q∈sys,bE (vf q.c) (ux s y) s.n<=q.b):∀y,Hs s' y 0->∀q∈sys,bE (vf q.c) (ux s' y) s'.n<=q.b:=by
 intro y' hy q hq;obtain⟨y,h1,h2,h3⟩:=h.tr y';have:=hr y (h3 0 (fE _) hy) q hq;rw[h.n,eF (f:=vf q.c) (f':=vf q.c) (fun _ _=>rfl) h1];exact this
theorem gT.F{s s':St}(h:gT s s')(hI:Inv s){k:Nat}{e:AE}(hk:s.stack[k]?=some e)(hf:∀y,Hs s y (k+1)->∃z,∀p∈e.items,hx s (ux s (cK y e.v z)) p):∀y,Hs s' y (k+1)->∃z,∀p∈e.items,hx s' (ux s' (cK y e.v z)) p:=by
 intro y' hy;obtain⟨y,h1,h2,h3⟩:=h.tr y';have hkl:k<s.stack.length:=(dS.1 hk).1;obtain⟨z,hz⟩:=hf y (h3 (k+1) hkl hy);have hm:e∈s.stack:=ni hk;obtain⟨e1,e2,e3⟩:=hI.sv e hm;obtain⟨ek,hek⟩:=h.kn;refine⟨z,fun p hp=>(si h.n hek (e3 p hp) fun i hi=>?_).2 (hz p hp)⟩;rw[JO (by rw[h.n];exact e1),JO e1,h1 i hi,h2 e.v e1 (by omega),(h.col e.v e1 (by omega)).2.2 i hi]
def Ai(s:St)(us:List AU)(j:Nat):Int:=cu s.u s.n (vec s.n (dX s.known us)) j
structure nC (s:St)(g:List Int)(us:List AU):Prop where
 dp:∀j,j<s.n->vf g j=Ai s us j
 nf:∀j,j<s.n->vf s.status j≠0->vf g j=0
theorem FQ{g:List Int}{n j:Nat}(hl:g.length=n)(hj:j<n):vf (vec n fun j=>vf g j/dv g) j*dv g=vf g j:=by
 rw[dH hj];refine Nd ?_;unfold dv;split
 . exact Int.one_dvd _
 . exact sH (gj (by omega))
theorem LR{s:St}{g:List Int}{us:List AU}(hI:Inv s)(hl:g.length=s.n)(h:nC s g us){i:Nat}(hi:i<s.n):dv g∣dX s.known us i:=by
 obtain⟨w,hw⟩:=hI.j2;have h1:=zo hw (c:=vec s.n (dX s.known us)) hi;rw[dH hi]at h1;rw[h1];refine E9 fun j hj=>?_;rw[<-show Ai s us j=cu s.u s.n (vec s.n (dX s.known us)) j from rfl,<-h.dp j hj];unfold dv;split
 . exact Int.one_dvd _
 . exact sH (gj (by omega))
theorem IB{K:Nat}{s:St}{g:List Int}{us:List AU}(hI:Inv s)(hp:gF K s g us)(h:nC s g us):∀j,j<s.n->vf (lk s g us).g j=cu s.u s.n (aI (dst s g us).known (iM s g us)).c j:=by
 intro j hj;show vf (vec s.n fun j=>vf g j/dv g) j=_;have hd:=qc g;have h1:=FQ (j:=j) hp.gl hj;by_cases hm:many g us=true
 . have e:aI (dst s g us).known (iM s g us)=mW s.n s.known us (dv g):=by
    unfold dst iM;rw[if_pos hm,if_pos hm];exact oT
   rw[e];have h2:cu s.u s.n (vec s.n (dX s.known us)) j=dv g*cu s.u s.n (mW s.n s.known us (dv g)).c j:=A5 fun i hi=>by
    rw[dH hi];show _=dv g*vf (vec s.n _) i;rw[dH hi,fm,Nd (LR hI hp.gl h hi)]
   rw[h.dp j hj]at h1;have h3:dv g*vf (vec s.n fun j=>vf g j/dv g) j=dv g*cu s.u s.n (mW s.n s.known us (dv g)).c j:=by
    rw[<-h2,fm,h1];rfl
   exact MQ (by omega) h3
 . have hm':=hm;have e:aI (dst s g us).known (iM s g us)=aI s.known (us.headD ⟨0,0⟩).ix:=by
    unfold dst iM;rw[if_neg hm,if_neg hm]
   rw[e];unfold many at hm;simp only[vP,decide_eq_true_eq,not_or,Nat.not_lt,tu]at hm;obtain⟨m1,m2,m3⟩:=hm;have hu0:=hp.u0
   match us,hu0,m1 with
   |[u],_,_=>
    have m2:u.n=1:=m2;have h1:vf (vec s.n fun j=>vf g j/dv g) j=vf g j:=by
     have h2:=h1;rwa[show∀z:Int,z*dv g=z from fun z=>by rw[m3];omega]at h2
    rw[h1,h.dp j hj];show cu s.u s.n (vec s.n (dX s.known [u])) j=cu s.u s.n (aI s.known u.ix).c j;unfold cu;refine eF (fun i hi=>?_) fun _ _=>rfl;rw[dH hi];show u.n*vf (aI s.known u.ix).c i+0=_;rw[m2];omega
theorem Js{K:Nat}{s:St}{g:List Int}{us:List AU}(hp:gF K s g us):(aI (dst s g us).known (iM s g us)).b=gk s.known us/dv g:=by
 by_cases hm:many g us=true
 . have e:aI (dst s g us).known (iM s g us)=mW s.n s.known us (dv g):=by
    unfold dst iM;rw[if_pos hm,if_pos hm];exact oT
   rw[e];rfl
 . have e:aI (dst s g us).known (iM s g us)=aI s.known (us.headD ⟨0,0⟩).ix:=by
    unfold dst iM;rw[if_neg hm,if_neg hm]
   rw[e];unfold many at hm;simp only[vP,decide_eq_true_eq,not_or,Nat.not_lt,tu]at hm;obtain⟨m1,m2,m3⟩:=hm;have hu0:=hp.u0
   match us,hu0,m1 with
   |[u],_,_=>
    have m2:u.n=1:=m2;show(aI s.known u.ix).b=(u.n*(aI s.known u.ix).b+0)/dv g;rw[m2,m3];omega
theorem SO{g:List Int}{n:Nat}(hl:g.length=n)(h:dh g≠0):dh (vec n fun j=>vf g j/dv g)=1:=by
 generalize hk:dh (vec n fun j=>vf g j/dv g)=k;have hd:dv g=(dh g:Nat):=by unfold dv;rw[if_neg h]
 have h1:((k*dh g:Nat):Int)∣((dh g:Nat):Int):=oA fun x hx=>by
  obtain⟨j,hj,rfl⟩:=gE hx;have h2:=FQ (g:=g) (n:=n) (j:=j) hl (by omega);rw[<-h2,hd,Ge];refine Int.mul_dvd_mul ?_ (Int.dvd_refl _);rw[<-hk];rw[<-hd];exact sH (gj (by rw[eN];omega))
 have h2:k*dh g∣dh g:=Nf.1 h1;obtain⟨c,hc⟩:=h2;have:0<dh g:=by omega
 have h3:dh g*(k*c)=dh g*1:=by rw[Nat.mul_one,<-Nat.mul_assoc,Nat.mul_comm (dh g) k];exact hc.symm
 have h4:=Nat.eq_of_mul_eq_mul_left this h3;exact Nat.eq_one_of_mul_eq_one_right h4
theorem H7{kn:List AQ}{x:AI}:∀{l:List AI},l.Pairwise (fun x y=>x.g≠y.g)->(eh kn x l).Pairwise fun x y=>x.g≠y.g
 |[],_=>by simp[eh]
 |y::l,h=>by
  obtain⟨h1,h2⟩:=yH.1 h;rw[eh];split
  . rename_i e;split
    . exact yH.2 ⟨fun z hz=>by rw[e];exact h1 z hz,h2⟩
    . exact h
  . rename_i e;refine yH.2 ⟨fun z hz=>?_,H7 h2⟩;rcases l9 hz with rfl|hz
    . exact fun e'=>e e'.symm
    . exact h1 z hz
theorem Ax{s:St}{x:AI}{y:Nat->Int}:∀{l:List AI},(∀z∈eh s.known x l,IH s y z)->(∀z∈l,IH s y z)/\IH s y x
 |[],h=>⟨fun z hz=>(by cases hz),h x (by simp[eh])⟩
 |w::l,h=>by
  rw[eh]at h;split at h
  . rename_i e;split at h
    . rename_i hb;have hx:=h x cO;refine⟨fun z hz=>?_,hx⟩;rcases eb.1 hz with rfl|hz
      . unfold IH at hx⊢;rw[<-e];omega
      . exact h z (cJ _ hz)
    . rename_i hb;refine⟨h,?_⟩;have hw:=h w cO;unfold IH at hw⊢;rw[e];omega
  . have h1:=Ax (l:=l) fun z hz=>h z (cJ _ hz);refine⟨fun z hz=>?_,h1.2⟩;rcases eb.1 hz with rfl|hz
    . exact h z cO
    . exact h1.1 z hz
structure kB (s:St)(x:AI):Prop where
 pos:x.pos<s.known.length
 gl:x.g.length=s.n
 dp:∀j,j<s.n->vf x.g j=cu s.u s.n (aI s.known x.pos).c j
 nf:∀j,j<s.n->vf s.status j≠0->vf x.g j=0
 gD:dh x.g=1
theorem Inv.add{s:St}(h:Inv s){x:AI}(hx:kB s x):Inv (add s x)where
 ul:=h.ul
 fX:=h.fX
 vl:=h.vl
 kl:=h.kl
 it z hz:=(l9 hz).elim (fun e=>by subst e;exact⟨hx.pos,hx.gl⟩) (fun hz=>h.it z hz)
 dp z hz:=(l9 hz).elim (fun e=>by subst e;exact hx.dp) (fun hz=>h.dp z hz)
 nf z hz:=(l9 hz).elim (fun e=>by subst e;exact hx.nf) (fun hz=>h.nf z hz)
 gD z hz:=(l9 hz).elim (fun e=>by subst e;exact hx.gD) (fun hz=>h.gD z hz)
 kh:=H7 h.kh
 j2:=h.j2
 stat:=h.stat
 sv:=h.sv
 s2:=h.s2
 sd:=h.sd
theorem Inv.known{s:St}(h:Inv s){kn e:List AQ}{st:List AS}(hk:kn=s.known++e)(he:∀q∈e,q.c.length=s.n):Inv {s with known:=kn,steps:=st}where
 ul:=h.ul
 fX:=h.fX
 vl:=h.vl
 kl q hq:=by
  have hq:q∈kn:=hq;rw[hk]at hq;rcases fR.1 hq with hq|hq
  . exact h.kl q hq
  . exact he q hq
 it z hz:=⟨by have:=(h.it z hz).1;show _<kn.length;rw[hk];simp;omega,(h.it z hz).2⟩
 dp z hz j hj:=by rw[h.dp z hz j hj];show _=cu s.u s.n (aI kn z.pos).c j;rw[hk,iQ (h.it z hz).1]
 nf:=h.nf
 gD:=h.gD
 kh:=h.kh
 j2:=h.j2
 stat:=h.stat
 sv e' he':=⟨(h.sv e' he').1,(h.sv e' he').2.1,fun p hp=>by have:=(h.sv e' he').2.2 p hp;show _<kn.length;rw[hk];simp;omega⟩
 s2:=h.s2
 sd:=by
  have hsv:=h.sv;have:∀a b,a∈s.stack->b∈s.stack->(a.v≠b.v/\∀p∈b.items,cu s.u s.n (aI s.known p).c a.v=0)->(a.v≠b.v/\∀p∈b.items,cu s.u s.n (aI kn p).c a.v=0):=fun a b ha hb hab=>⟨hab.1,fun p hp=>by rw[hk,iQ ((hsv b hb).2.2 p hp)];exact hab.2 p hp⟩;exact Ng (fun{a b} ha hb hab=>this a b ha hb hab) h.sd
theorem Inv.dst{K:Nat}{s:St}(h:Inv s){g:List Int}{us:List AU}(hp:gF K s g us):Inv (dst s g us):=by
 unfold D.dst;split
 . exact h.known rfl fun q hq=>by rw[cP.1 hq];exact eN
 . exact h
theorem Ex(s:St)(g:List Int)(us:List AU):(dst s g us).u=s.u/\(dst s g us).status=s.status/\(dst s g us).value=s.value/\(dst s g us).stack=s.stack/\(dst s g us).n=s.n/\(dst s g us).items=s.items:=by
 unfold dst;split<;>exact⟨rfl,rfl,rfl,rfl,rfl,rfl⟩
theorem UF(s:St)(g:List Int)(us:List AU):(put s g us).2.u=s.u/\(put s g us).2.status=s.status/\(put s g us).2.value=s.value/\(put s g us).2.stack=s.stack/\(put s g us).2.n=s.n:=by
 obtain⟨h1,h2,h3,h4,h5,_⟩:=Ex s g us;unfold put;dsimp only;split<;>exact⟨h1,h2,h3,h4,h5⟩
theorem Ul{K:Nat}{s:St}(h:Inv s){g:List Int}{us:List AU}(hp:gF K s g us)(hs:nC s g us)(h0:dh g≠0):kB (dst s g us) (lk s g us):=by
 obtain⟨h1,h2,h3,h4,h5,_⟩:=Ex s g us;refine⟨zA hp,by rw[h5];exact eN,fun j hj=>?_,fun j hj hst=>?_,SO hp.gl h0⟩
 . rw[h5]at hj⊢;rw[h1];exact IB h hp hs j hj
 . rw[h5]at hj;rw[h2]at hst;show vf (vec s.n fun j=>vf g j/dv g) j=0;rw[dH hj,hs.nf j hj hst];simp
theorem Inv.put{K:Nat}{s:St}(h:Inv s){g:List Int}{us:List AU}(hp:gF K s g us)(hs:nC s g us):Inv (put s g us).2:=by
 unfold D.put;dsimp only;split
 . rename_i h0;exact(h.dst hp).add (Ul h hp hs h0)
 . exact h.dst hp
theorem wM{s s':St}(hn:s'.n=s.n){e:List AQ}(he:s'.known=s.known++e){x:AI}(hx:x.pos<s.known.length){y:Nat->Int}:IH s' y x↔IH s y x:=by
 unfold IH;rw[hn,he,iQ hx]
theorem R3{K:Nat}{s:St}(h:Inv s){g:List Int}{us:List AU}(hp:gF K s g us)(hs:nC s g us)(hok:(put s g us).1=true){y:Nat->Int}(hy:∀z∈(put s g us).2.items,IH (put s g us).2 y z):
 (∀z∈s.items,IH s y z)/\bE (vf g) y s.n<=gk s.known us:=by
 obtain⟨e,he,_⟩:=H4 s g us;obtain⟨f1,f2,f3,f4,f5,f6⟩:=Ex s g us;have hd:=qc g;have hb:=Js hp;by_cases h0:dh g≠0
 . have e2:(D.put s g us).2=add (dst s g us) (lk s g us):=by unfold D.put;dsimp only;rw[if_pos h0]
   rw[e2]at hy;obtain⟨h1,h2⟩:=Ax (s:=dst s g us) hy;rw[f6]at h1;refine⟨fun z hz=>(wM f5 he (h.it z hz).1).1 (h1 z hz),?_⟩;unfold IH at h2;rw[f5]at h2;have h3:bE (vf g) y s.n=dv g*bE (vf (lk s g us).g) y s.n:=by
    rw[<-rW];refine eF (fun j hj=>?_) fun _ _=>rfl;rw[fm];exact(FQ hp.gl hj).symm
   rw[show(aI (dst s g us).known (lk s g us).pos).b=gk s.known us/dv g from hb]at h2;have h4:=fZ h2 (ed hd);have h5:=Int.mul_ediv_self_le (x:=gk s.known us) (k:=dv g) (by omega);omega
 . have e2:(D.put s g us).2=dst s g us:=by unfold D.put;dsimp only;rw[if_neg h0]
   rw[e2,f6]at hy;refine⟨fun z hz=>(wM f5 he (h.it z hz).1).1 (hy z hz),?_⟩;have h0:=tu.1 h0;have hz:=Mc h0;rw[sX fun j hj=>hz _ (gj (by rw[hp.gl];exact hj))];have:nc s g us=true:=hok;unfold nc at this;rw[hb]at this;have hd1:dv g=1:=by unfold dv;rw[if_pos h0]
   rw[hd1,Int.ediv_one]at this;simpa[h0]using this
theorem N4{K:Nat}{s:St}(h:Inv s){g:List Int}{us:List AU}(hp:gF K s g us)(hs:nC s g us)(hok:(put s g us).1=false):∃q∈(put s g us).2.known,(∀j,j<s.n->vf q.c j=0)/\q.b<0:=by
 have hk:nc s g us=false:=hok;unfold nc at hk;simp only[Gf,decide_eq_false_iff_not,ne_eq,tu,Int.not_le]at hk;obtain⟨h0,hb⟩:=hk;have e2:(D.put s g us).2=dst s g us:=by unfold D.put;dsimp only;rw[if_neg (by simpa using h0)]
 rw[e2];refine⟨_,eL (zA hp),fun j hj=>?_,hb⟩;obtain⟨w,hw⟩:=h.j2;rw[zo hw hj];refine sX fun i hi=>?_;rw[<-IB h hp hs i hi];show vf (vec s.n fun j=>vf g j/dv g) i=0;rw[dH hi,Mc h0 _ (gj (by rw[hp.gl];exact hi))];simp
open Go Go.X
structure qm (n:Nat)(R:List Int->List Int)(T T':Nat->Nat->Int)(st:Nat->Int):Prop where
 len:∀l,l.length=n->(R l).length=n
 row:∀l,l.length=n->∀j,j<n->vf (R l) j=bE (vf l) (fun k=>T k j) n
 one:∀i,i<n->∀k,k<n->bE (T i) (fun j=>T' j k) n=if i=k then 1 else 0
 two:∀i,i<n->∀k,k<n->bE (T' i) (fun j=>T j k) n=if i=k then 1 else 0
 nf:∀j,j<n->st j≠0->∀k,k<n->T k j=(if k=j then 1 else 0)/\T j k=(if k=j then 1 else 0)
theorem NN{c:Nat->Int}{n k:Nat}(hk:k<n):bE (fun i=>if i=k then 1 else 0) c n=c k:=by
 rw[pg,oX hk]
theorem GN{c:Nat->Int}{n k:Nat}(hk:k<n):bE c (fun i=>if k=i then 1 else 0) n=c k:=by
 rw[<-oX (c:=c) hk];exact eF (fun _ _=>rfl) fun j _=>by by_cases e:k=j<;>simp[e,eq_comm]
def gX(s:St)(R:List Int->List Int):St:={s with u:=s.u.map R,items:=s.items.map fun x=>{x with g:=R x.g}}
section
variable {s:St} {R:List Int->List Int} {T T':Nat->Nat->Int}
theorem wP(h:Inv s)(b:qm s.n R T T' (vf s.status)){i j:Nat}(hi:i<s.n)(hj:j<s.n):mx (gX s R).u i j=bE (mx s.u i) (fun k=>T k j) s.n:=by
 have hl:i<s.u.length:=by rw[h.ul.1];exact hi
 unfold mx;have e:(gX s R).u.getD i []=R (s.u.getD i []):=by
  show(s.u.map R).getD i []=_;rw[cA,cA,gR,bV hl];rfl
 rw[e];refine b.row _ ?_ j hj;rw[cA,bV hl];exact h.ul.2 _ (cX hl)
theorem Mr(h:Inv s)(b:qm s.n R T T' (vf s.status)){c:List Int}{j:Nat}(hj:j<s.n):cu (gX s R).u s.n c j=bE (cu s.u s.n c) (fun k=>T k j) s.n:=by
 unfold cu;rw[eF (f':=vf c) (g':=fun i=>bE (mx s.u i) (fun k=>T k j) s.n) (fun _ _=>rfl) fun i hi=>wP h b hi hj];exact mH
theorem EL(b:qm s.n R T T' (vf s.status)){f:Nat->Int}{j:Nat}(hj:j<s.n)(hst:vf s.status j≠0):bE f (fun k=>T k j) s.n=f j:=by
 rw[eF (f:=f) (f':=f) (g':=fun k=>if k=j then 1 else 0) (fun _ _=>rfl) fun k hk=>(b.nf j hj hst k hk).1];exact oX hj
theorem FP(b:qm s.n R T T' (vf s.status)){l:List Int}(hl:l.length=s.n){k:Nat}(hk:k<s.n):vf l k=bE (vf (R l)) (fun j=>T' j k) s.n:=by
 rw[eF (f':=fun j=>bE (vf l) (fun m=>T m j) s.n) (g':=fun j=>T' j k) (fun j hj=>b.row l hl j hj) fun _ _=>rfl];have:bE (fun j=>bE (vf l) (fun m=>T m j) s.n) (fun j=>T' j k) s.n=bE (vf l) (fun m=>bE (T m) (fun j=>T' j k) s.n) s.n:=mH.symm;rw[this,eF (f:=vf l) (f':=vf l) (g':=fun m=>if m=k then 1 else 0) (fun _ _=>rfl) fun m hm=>b.one m hm k hk,oX hk]
theorem Inv.ch(h:Inv s)(b:qm s.n R T T' (vf s.status)):Inv (gX s R)where
 ul:=⟨by show(s.u.map R).length=_;rw[cD];exact h.ul.1,fun r hr=>by
  obtain⟨l,hl,rfl⟩:=dz.1 hr;exact b.len l (h.ul.2 l hl)⟩
 fX:=h.fX
 vl:=h.vl
 kl:=h.kl
 it x hx:=by
  obtain⟨z,hz,rfl⟩:=dz.1 hx;exact⟨(h.it z hz).1,b.len _ (h.it z hz).2⟩
 dp x hx j hj:=by
  obtain⟨z,hz,rfl⟩:=dz.1 hx;show vf (R z.g) j=cu (gX s R).u s.n (aI s.known z.pos).c j;rw[Mr h b hj,b.row z.g (h.it z hz).2 j hj];exact eF (h.dp z hz) fun _ _=>rfl
 nf x hx j hj hst:=by
  obtain⟨z,hz,rfl⟩:=dz.1 hx;show vf (R z.g) j=0;rw[b.row z.g (h.it z hz).2 j hj,EL b hj hst];exact h.nf z hz j hj hst
 gD x hx:=by
  obtain⟨z,hz,rfl⟩:=dz.1 hx;have h1:=h.gD z hz;have hzl:=(h.it z hz).2;have h2:((dh (R z.g):Nat):Int)∣((dh z.g:Nat):Int):=oA fun v hv=>by
   obtain⟨k,hk,rfl⟩:=gE hv;rw[FP b hzl (by omega)];exact E9 fun j hj=>sH (gj (by rw[b.len _ hzl];exact hj))
  rw[h1]at h2;exact GF (Nf.1 h2)
 kh:=by
  show(s.items.map _).Pairwise _;rw[GG];refine Ng (fun{x y} hx hy hne e=>hne ?_) h.kh;have e:R x.g=R y.g:=e;have hxl:=(h.it x hx).2;have hyl:=(h.it y hy).2;refine lr (hxl.trans hyl.symm) fun k hk=>?_;rw[FP b hxl (by omega),FP b hyl (by omega),e]
 j2:=by
  obtain⟨w,hw⟩:=h.j2;refine⟨fun j k=>bE (T' j) (fun m=>w m k) s.n,fun i hi k hk=>?_,fun i hi k hk=>?_⟩
  . show bE (mx (gX s R).u i) (fun j=>bE (T' j) (fun m=>w m k) s.n) s.n=_;rw[mH];rw[eF (f':=mx s.u i) (g':=fun m=>w m k) (fun m hm=>?_) fun _ _=>rfl]
    . exact hw.1 i hi k hk
    . rw[eF (f':=fun j=>bE (mx s.u i) (fun k=>T k j) s.n) (g':=fun j=>T' j m) (fun j hj=>wP h b hi hj) fun _ _=>rfl];have:bE (fun j=>bE (mx s.u i) (fun k=>T k j) s.n) (fun j=>T' j m) s.n=bE (mx s.u i) (fun r=>bE (T r) (fun j=>T' j m) s.n) s.n:=mH.symm;rw[this,eF (f:=mx s.u i) (f':=mx s.u i) (g':=fun r=>if r=m then 1 else 0) (fun _ _=>rfl) fun r hr=>b.one r hr m hm,oX hm]
  . show bE (fun k'=>bE (T' i) (fun m=>w m k') s.n) (fun j=>mx (gX s R).u j k) s.n=_;rw[eF (f:=fun k'=>bE (T' i) (fun m=>w m k') s.n) (f':=fun k'=>bE (T' i) (fun m=>w m k') s.n) (g':=fun j=>bE (mx s.u j) (fun r=>T r k) s.n) (fun _ _=>rfl) fun j hj=>wP h b hj hk];rw[mH];rw[eF (f':=T' i) (g':=fun r=>T r k) (fun r hr=>?_) fun _ _=>rfl]
    . exact b.two i hi k hk
    . have:bE (fun k'=>bE (T' i) (fun m=>w m k') s.n) (fun j=>mx s.u j r) s.n=bE (T' i) (fun m=>bE (w m) (fun j=>mx s.u j r) s.n) s.n:=mH.symm;rw[this,eF (f:=T' i) (f':=T' i) (g':=fun m=>if m=r then 1 else 0) (fun _ _=>rfl) fun m hm=>hw.2 m hm r hr,oX hr]
 stat:=h.stat
 sv:=h.sv
 s2:=h.s2
 sd:=by
  refine Ng (fun{a e} ha he hae=>⟨hae.1,fun p hp=>?_⟩) h.sd;obtain⟨a1,a2,_⟩:=h.sv a ha;show cu (gX s R).u s.n (aI s.known p).c a.v=0;rw[Mr h b a1,EL b a1 (by omega)];exact hae.2 p hp
theorem gT.ch(h:Inv s)(b:qm s.n R T T' (vf s.status)):gT s (gX s R):=by
 refine⟨rfl,⟨[],by simp[gX]⟩,⟨[],by simp[gX]⟩,fun j hj hst=>⟨rfl,fun _=>rfl,fun i hi=>?_⟩,fun y'=>?_⟩
 . rw[wP h b hi hj,EL b hj hst]
 . have hux:∀i,i<s.n->ux (gX s R) y' i=ux s (fun k=>bE (T k) y' s.n) i:=fun i hi=>by
    unfold ux;show bE (mx (gX s R).u i) y' s.n=_;rw[eF (f':=fun j=>bE (mx s.u i) (fun k=>T k j) s.n) (g':=y') (fun j hj=>wP h b hi hj) fun _ _=>rfl];exact mH.symm
   have hnf:∀j,j<s.n->vf s.status j≠0->bE (T j) y' s.n=y' j:=fun j hj hst=>by
    rw[eF (f':=fun k=>if k=j then 1 else 0) (g':=y') (fun k hk=>(b.nf j hj hst k hk).2) fun _ _=>rfl];exact NN hj
   refine⟨fun k=>bE (T k) y' s.n,hux,hnf,fun k hk ⟨h1,h2,h3⟩=>⟨fun j hj hst=>?_,fun x hx=>?_,fun e he p hp=>?_⟩⟩
   . show bE (T j) y' s.n=_;rw[hnf j hj (by omega)];exact h1 j hj hst
   . have:=h2 {x with g:=R x.g} (dz.2 ⟨x,hx,rfl⟩);unfold IH at this⊢;have e:bE (vf (R x.g)) y' s.n=bE (vf x.g) (fun k=>bE (T k) y' s.n) s.n:=by
      rw[eF (f':=fun j=>bE (vf x.g) (fun k=>T k j) s.n) (g':=y') (fun j hj=>b.row x.g (h.it x hx).2 j hj) fun _ _=>rfl];exact mH.symm
     rw[<-e];exact this
   . have:=h3 e he p hp;unfold hx at this⊢;show bE (vf (aI s.known p).c) _ s.n<=_;rw[eF (f:=vf (aI s.known p).c) (f':=vf (aI s.known p).c) (g:=ux s fun k=>bE (T k) y' s.n) (g':=ux (gX s R) y') (fun _ _=>rfl) fun i hi=>(hux i hi).symm];exact this
end
theorem T9{f g:Nat->Int}{p k n:Nat}(hp:p<n)(hk:k<n)(hne:k≠p)(h:∀j,j<n->j≠p->j≠k->f j=0):bE f g n=f k*g k+f p*g p:=by
 have h1:=u9 (f:=fun j=>if j=k then f j else 0) (h:=fun j=>if j=p then f j else 0) (g:=g) (k:=1) n;rw[qL (f:=fun j=>if j=k then f j else 0) hk fun j _ hj=>if_neg hj,qL (f:=fun j=>if j=p then f j else 0) hp fun j _ hj=>if_neg hj]at h1;simp only[if_true]at h1;rw[eF (f':=fun j=>(if j=k then f j else 0)+1*(if j=p then f j else 0)) (g':=g) (fun j hj=>?_) fun _ _=>rfl,h1]
 . omega
 . by_cases e1:j=k
   . subst e1;rw[if_pos rfl,if_neg hne];omega
   . by_cases e2:j=p
     . subst e2;rw[if_neg e1,if_pos rfl];omega
     . rw[if_neg e1,if_neg e2,h j hj e2 e1];omega
def rT(p:Nat)(q:Nat->Int)(k j:Nat):Int:=if k=j then 1 else if k=p then-q j else 0
theorem GW{p:Nat}{q:Nat->Int}{n j:Nat}{f:Nat->Int}(hp:p<n)(hj:j<n):bE f (fun k=>rT p q k j) n=if j=p then f j else f j-q j*f p:=by
 rw[pg];by_cases e:j=p
 . subst e;rw[if_pos rfl,qL hj fun i _ hi=>by unfold rT;rw[if_neg hi,if_neg hi]];unfold rT;rw[if_pos rfl];omega
 . rw[if_neg e,T9 hp hj e fun i _ h1 h2=>by unfold rT;rw[if_neg h2,if_neg h1]];unfold rT;rw[if_pos rfl,if_neg (by omega),if_pos rfl];grind
theorem Kr{p:Nat}{q:Nat->Int}{n i k:Nat}(hp:p<n)(hi:i<n)(hk:k<n):bE (rT p q i) (fun j=>rT p (fun j=>-q j) j k) n=if i=k then 1 else 0:=by
 rw[GW hp hk];by_cases e:k=p
 . subst e;rw[if_pos rfl];unfold rT;by_cases e2:i=k
   . rw[if_pos e2,if_pos e2]
   . rw[if_neg e2,if_neg e2,if_neg e2]
 . rw[if_neg e];unfold rT;by_cases e2:i=k
   . subst e2;rw[if_pos rfl,if_neg e,if_neg e];simp
   . rw[if_neg e2];by_cases e3:i=p
     . subst e3;rw[if_pos rfl,if_pos rfl,if_neg e2];omega
     . rw[if_neg e3,if_neg e3,if_neg e3,if_neg e2];simp
theorem PN{s:St}{a:List Int}{p:Nat}(hp:p<s.n)(hps:vf s.status p=0)(ha:∀j,j<s.n->vf s.status j≠0->vf a j=0):
 qm s.n (bW a p s.n) (rT p fun j=>(vf a j).fdiv (vf a p)) (rT p fun j=>-(vf a j).fdiv (vf a p)) (vf s.status)where
 len l hl:=oR.trans hl
 row l hl j hj:=by
  rw[GW hp hj];unfold bW;rw[dH (by omega)];by_cases e:j=p
  . rw[if_neg (by omega),if_pos e]
  . rw[if_pos ⟨hj,e⟩,if_neg e]
 one i hi k hk:=Kr hp hi hk
 two i hi k hk:=by
  have:=Kr (q:=fun j=>-(vf a j).fdiv (vf a p)) hp hi hk;rw[<-this];refine eF (fun _ _=>rfl) fun j _=>?_;unfold rT;simp
 nf j hj hst k hk:=by
  have hjp:j≠p:=fun e=>hst (e▸hps);have h0:=ha j hj hst;unfold rT;constructor
  . by_cases e:k=j
    . rw[if_pos e,if_pos e]
    . rw[if_neg e,if_neg e];dsimp only;rw[h0,yF];simp
  . by_cases e:k=j
    . rw[if_pos e.symm,if_pos e]
    . rw[if_neg (fun h=>e h.symm),if_neg hjp,if_neg e]
theorem Uy(s:St)(a:List Int)(p:Nat):fA s a p s.n=gX s (bW a p s.n):=rfl
def fT(p k j:Nat):Int:=if k=j then(if k=p then-1 else 1)else 0
theorem G0{p n j:Nat}{f:Nat->Int}(hj:j<n):bE f (fun k=>fT p k j) n=if j=p then-f j else f j:=by
 rw[pg,qL hj fun i _ hi=>by unfold fT;rw[if_neg hi]];unfold fT;rw[if_pos rfl];split<;>omega
theorem IJ{p n i k:Nat}(hi:i<n)(hk:k<n):bE (fT p i) (fun j=>fT p j k) n=if i=k then 1 else 0:=by
 rw[G0 hk];unfold fT;by_cases e:i=k
 . subst e;by_cases e2:i=p
   . simp[e2]
   . simp[e2]
 . simp[e]
theorem UO{s:St}{p:Nat}(hp:p<s.n)(hps:vf s.status p=0):qm s.n (fun l=>l.set p (-vf l p)) (fT p) (fT p) (vf s.status)where
 len l hl:=by rw[iS];exact hl
 row l hl j hj:=by
  rw[G0 hj,jR (by omega)];by_cases e:p=j
  . subst e;simp
  . rw[if_neg e,if_neg fun h=>e h.symm]
 one i hi k hk:=IJ hi hk
 two i hi k hk:=IJ hi hk
 nf j hj hst k hk:=by
  have hjp:j≠p:=fun e=>hst (e▸hps);unfold fT;constructor
  . by_cases e:k=j
    . subst e;rw[if_pos rfl,if_neg hjp,if_pos rfl]
    . rw[if_neg e,if_neg e]
  . by_cases e:k=j
    . rw[if_pos e.symm,if_neg hjp,if_pos e]
    . rw[if_neg (fun h=>e h.symm),if_neg e]
theorem UR(s:St)(p:Nat):flS s p=gX s fun l=>l.set p (-vf l p):=rfl
open Go Go.X
theorem xv{p m M:Int}(hp:0<p)(h1:p*m<=p*M)(h2:-(p*M)<=p*m):-M<=m/\m<=M:=by
 refine⟨?_,Ck h1 hp⟩;refine Ck (a:=p) ?_ hp;rw[ns];exact h2
theorem Jq{p m m' u v U V A B M:Int}(hp:0<p)(e':p*m'=u*A-v*B)(e:p*m=U*A-V*B)(u0:0<=u)(uU:u<=U)(v0:0<=v)(vV:v<=V)(up:u<=p)(vp:v<=p)
 (hA:-M<=A/\A<=M)(hB:-M<=B/\B<=M)(hm:-M<=m/\m<=M):-M<=m'/\m'<=M:=by
 have M0:0<=M:=by omega
 have hpm1:=fZ hm.2 (ed hp);have hpm2:=fZ hm.1 (ed hp);rw[ns]at hpm2;have upM:u*M<=p*M:=fp up M0;have vpM:v*M<=p*M:=fp vp M0;rcases vW 0 A with a|a<;>rcases vW 0 B with b|b
 . have h1:=fZ hA.2 u0;have h2:=fZ hB.2 v0;have h3:=eI u0 a;have h4:=eI v0 b;exact xv hp (by omega) (by omega)
 . have h1:=fp uU a;have h2:=fp vV (show 0≤-B by omega);have h3:=eI u0 a;have h4:=eI v0 (show 0≤-B by omega);rw[ns]at h2 h4;rw[ns]at h2;exact xv hp (by omega) (by omega)
 . have h1:=fp uU (show 0≤-A by omega);have h2:=fp vV b;have h3:=eI u0 (show 0≤-A by omega);have h4:=eI v0 b;rw[ns]at h1 h3;rw[ns]at h1;exact xv hp (by omega) (by omega)
 . have h1:=fZ (show-A<=M by omega) u0;have h2:=fZ (show-B<=M by omega) v0;have h3:=eI u0 (show 0≤-A by omega);have h4:=eI v0 (show 0≤-B by omega);rw[ns]at h1 h2 h3 h4;exact xv hp (by omega) (by omega)
theorem JM{p m' u v A B M:Int}(hp:0<p)(e':p*m'=u*A-v*B)(hu:-p<=u/\u<=p)(hv:-p<=v/\v<=p)(hA:-M<=A/\A<=M)(hB:-M<=B/\B<=M):-(2*M)<=m'/\m'<=2*M:=by
 have key:∀{x y:Int},-p<=x->x<=p→-M<=y->y<=M→-(p*M)<=x*y/\x*y<=p*M:=by
  intro x y h1 h2 h3 h4;have M0:0<=M:=by omega
  rcases vW 0 x with a|a<;>rcases vW 0 y with b|b
  . have g1:=nr h2 h4 b (by omega);have g2:=eI a b;have g3:=eI (ed hp) M0;omega
  . have g1:=nr h2 (show-y<=M by omega) (by omega) (by omega);have g2:=eI a (show 0≤-y by omega);rw[ns]at g1 g2;have g3:=eI (ed hp) M0;omega
  . have g1:=nr (show-x<=p by omega) h4 b (by omega);have g2:=eI (show 0≤-x by omega) b;rw[lM]at g1 g2;have g3:=eI (ed hp) M0;omega
  . have g1:=nr (show-x<=p by omega) (show-y<=M by omega) (by omega) (by omega);have g2:=eI (show 0≤-x by omega) (show 0≤-y by omega);rw[Int.neg_mul_neg]at g1 g2;have g3:=eI (ed hp) M0;omega
 have h1:=key hu.1 hu.2 hA.1 hA.2;have h2:=key hv.1 hv.2 hB.1 hB.2;have e3:p*(2*M)=2*(p*M):=by grind
 exact xv hp (by omega) (by omega)
def Mi(a x:List Int)(j k:Nat):Int:=vf a j*vf x k-vf a k*vf x j
def MB(n:Nat)(a x:List Int)(M:Int):Prop:=∀j,j<n->∀k,k<n→-M<=Mi a x j k/\Mi a x j k<=M
def SG(n:Nat)(a:List Int):Prop:=(∀j,j<n->0<=vf a j)\/∀j,j<n->vf a j<=0
theorem qE{a p:Int}(hp:0<p):0<=a-a.fdiv p*p/\a-a.fdiv p*p<p:=by
 have h1:=Gz a p;have h2:=Int.fmod_nonneg_of_pos a hp;have h3:=Int.fmod_lt_of_pos a hp;rw[fm]at h1;omega
theorem SH{a p:Int}(hp:p<0):a-a.fdiv p*p<=0/\p<a-a.fdiv p*p:=by
 have h:=qE (a:=-a) (p:=-p) (by omega);rw[Gy,ns]at h;omega
section
variable {n p:Nat} {a x:List Int}
theorem mV(hp:p<n)(hl:x.length=n):vf (bW a p n x) p=vf x p:=by unfold bW;rw[dH (by omega),if_neg (by omega)]
theorem nH{j:Nat}(hj:j<n)(hl:x.length=n)(hjp:j≠p):vf (bW a p n x) j=vf x j-(vf a j).fdiv (vf a p)*vf x p:=by unfold bW;rw[dH (by omega),if_pos ⟨hj,hjp⟩]
theorem nD(hp:rN a p)(hl:a.length=n){j:Nat}(hj:j<n)(hjp:j≠p):(vf (bW a p n a) j).natAbs<(vf a p).natAbs/\(0<vf a p->0<=vf (bW a p n a) j)/\(vf a p<0->vf (bW a p n a) j<=0):=by
 rw[nH hj hl hjp];have h0:=hp.2.1;rcases tw h0 with h|h
 . have:=SH (a:=vf a j) h;omega
 . have:=qE (a:=vf a j) h;omega
theorem KI{j k:Nat}(hp:p<n)(ha:a.length=n)(hx:x.length=n)(hj:j<n)(hk:k<n)(hjp:j≠p)(hkp:k≠p):
 vf a p*Mi (bW a p n a) (bW a p n x) j k=vf (bW a p n a) j*Mi a x p k-vf (bW a p n a) k*Mi a x p j:=by
 unfold Mi;rw[nH hj ha hjp,nH hk ha hkp,nH hj hx hjp,nH hk hx hkp];generalize(vf a j).fdiv (vf a p)=q;generalize(vf a k).fdiv (vf a p)=r;grind
theorem TJ{j k:Nat}:vf a p*Mi a x j k=vf a j*Mi a x p k-vf a k*Mi a x p j:=by unfold Mi;grind
theorem xc{k:Nat}(hp:p<n)(ha:a.length=n)(hx:x.length=n)(hk:k<n):Mi (bW a p n a) (bW a p n x) p k=Mi a x p k:=by
 unfold Mi;rw[mV hp ha,mV hp hx];by_cases e:k=p
 . subst e;rw[mV hk ha,mV hk hx]
 . rw[nH hk ha e,nH hk hx e];grind
theorem Jh{j k:Nat}:Mi a x j k=-Mi a x k j:=by unfold Mi;omega
theorem S4{M:Int}(hM:0<=M)(hp:rN a p)(ha:a.length=n)(hx:x.length=n)(h:MB n a x M):MB n (bW a p n a) (bW a p n x) (2*M):=by
 have hpn:p<n:=by have:=hp.1;omega
 intro j hj k hk;by_cases e:j=p
 . subst e;rw[xc hj ha hx hk];have:=h j hj k hk;omega
 by_cases e2:k=p
 . subst e2;rw[Jh,xc hk ha hx hj];have:=h k hk j hj;omega
 have h1:=KI hpn ha hx hj hk e e2;have hA:=h p hpn k hk;have hB:=h p hpn j hj;have sj:=(nD hp ha hj e).1;have sk:=(nD hp ha hk e2).1;rcases tw hp.2.1 with h0|h0
 . refine JM (p:=-vf a p) (u:=-vf (bW a p n a) j) (v:=-vf (bW a p n a) k) (A:=Mi a x p k) (B:=Mi a x p j) (by omega) ?_ (by omega) (by omega) hA hB;rw[lM,lM,lM,h1];omega
 . exact JM (p:=vf a p) h0 h1 (by omega) (by omega) hA hB
theorem Pj{M:Int}(hp:rN a p)(hs:SG n a)(ha:a.length=n)(hx:x.length=n)(h:MB n a x M):MB n (bW a p n a) (bW a p n x) M:=by
 have hpn:p<n:=by have:=hp.1;omega
 intro j hj k hk;by_cases e:j=p
 . subst e;rw[xc hj ha hx hk];exact h j hj k hk
 by_cases e2:k=p
 . subst e2;rw[Jh,xc hk ha hx hj];have:=h k hk j hj;omega
 have h1:=KI hpn ha hx hj hk e e2;have h2:=TJ (a:=a) (x:=x) (p:=p) (j:=j) (k:=k);have hA:=h p hpn k hk;have hB:=h p hpn j hj;have hm:=h j hj k hk;obtain⟨sj,sj1,sj2⟩:=nD hp ha hj e;obtain⟨sk,sk1,sk2⟩:=nD hp ha hk e2;have pj:=hp.2.2 j (by omega);have pk:=hp.2.2 k (by omega);have zj:vf a j=0->vf (bW a p n a) j=0:=fun z=>by rw[nH hj ha e,z,yF];omega
 have zk:vf a k=0->vf (bW a p n a) k=0:=fun z=>by rw[nH hk ha e2,z,yF];omega
 rcases tw hp.2.1 with h0|h0
 . have hs':∀j,j<n->vf a j<=0:=by
    rcases hs with hs|hs
    . have:=hs p hpn;omega
    . exact hs
   have hj':=hs' j hj;have hk':=hs' k hk;refine Jq (p:=-vf a p) (m:=Mi a x j k) (u:=-vf (bW a p n a) j) (v:=-vf (bW a p n a) k) (U:=-vf a j) (V:=-vf a k) (A:=Mi a x p k) (B:=Mi a x p j) (by omega) ?_ ?_ ?_ ?_ ?_ ?_ ?_ ?_ hA hB hm
   . rw[lM,lM,lM,h1];omega
   . rw[lM,lM,lM,h2];omega
   . have:=sj2 h0;omega
   . by_cases z:vf a j=0
     . have:=zj z;omega
     . have:=pj z;omega
   . have:=sk2 h0;omega
   . by_cases z:vf a k=0
     . have:=zk z;omega
     . have:=pk z;omega
   . omega
   . omega
 . have hs':∀j,j<n->0<=vf a j:=by
    rcases hs with hs|hs
    . exact hs
    . have:=hs p hpn;omega
   have hj':=hs' j hj;have hk':=hs' k hk;refine Jq (p:=vf a p) (m:=Mi a x j k) (u:=vf (bW a p n a) j) (v:=vf (bW a p n a) k) (U:=vf a j) (V:=vf a k) (A:=Mi a x p k) (B:=Mi a x p j) h0 h1 h2 (sj1 h0) ?_ (sk1 h0) ?_ ?_ ?_ hA hB hm
   . by_cases z:vf a j=0
     . have:=zj z;omega
     . have:=pj z;omega
   . by_cases z:vf a k=0
     . have:=zk z;omega
     . have:=pk z;omega
   . omega
   . omega
theorem Ra(hp:rN a p)(ha:a.length=n):SG n (bW a p n a):=by
 have hpn:p<n:=by have:=hp.1;omega
 rcases tw hp.2.1 with h0|h0
 . refine .inr fun j hj=>?_;by_cases e:j=p
   . subst e;rw[mV hj ha];omega
   . exact(nD hp ha hj e).2.2 h0
 . refine .inl fun j hj=>?_;by_cases e:j=p
   . subst e;rw[mV hj ha];omega
   . exact(nD hp ha hj e).2.1 h0
theorem QT{M X:Nat}(hp:rN a p)(ha:a.length=n)(hx:x.length=n)(h:MB n a x M)(hX:∀j,j<n->(vf x j).natAbs<=X):∀j,j<n->(vf (bW a p n x) j).natAbs<=M+X:=by
 have hpn:p<n:=by have:=hp.1;omega
 intro j hj;by_cases e:j=p
 . subst e;rw[mV hj hx];have:=hX j hj;omega
 have h1:=xc (k:=j) hpn ha hx hj;have h2:=h p hpn j hj;have hs:=(nD hp ha hj e).1;have hxp:=hX p hpn;unfold Mi at h1;rw[mV hpn ha,mV hpn hx]at h1;have h3:vf a p*vf (bW a p n x) j=Mi a x p j+vf (bW a p n a) j*vf x p:=by unfold Mi;omega
 have h4:(vf a p).natAbs*(vf (bW a p n x) j).natAbs<=M+(vf a p).natAbs*X:=by
  rw[<-vS,h3];have g1:(vf (bW a p n a) j*vf x p).natAbs<=(vf a p).natAbs*X:=by
   rw[vS];exact iu (by omega) hxp
  omega
 have hpos:0<(vf a p).natAbs:=by have:=hp.2.1;omega
 have h5:(vf a p).natAbs*(vf (bW a p n x) j).natAbs<=(vf a p).natAbs*(M+X):=by
  rw[Nat.mul_add];have:1*M<=(vf a p).natAbs*M:=pN _ hpos;omega
 exact Nat.le_of_mul_le_mul_left h5 hpos
end
def jV(a:List Int):Nat->Nat
 |0=>0
 |n+1=>jV a n+(vf a n).natAbs
theorem Lh{a b:List Int}:∀{n:Nat},(∀j,j<n->(vf a j).natAbs<=(vf b j).natAbs)->jV a n<=jV b n
 |0,_=>bK _
 |n+1,h=>by
  have:=Lh (n:=n) fun j hj=>h j (by omega);have:=h n (by omega);simp only[jV];omega
theorem LP{a b:List Int}{k:Nat}:∀{n:Nat},k<n->(∀j,j<n->(vf a j).natAbs<=(vf b j).natAbs)->(vf a k).natAbs<(vf b k).natAbs->jV a n<jV b n
 |n+1,hk,h,hlt=>by
  simp only[jV];by_cases e:k=n
  . subst e;have:=Lh (n:=k) fun j hj=>h j (by omega);omega
  . have:=LP (n:=n) (by omega) (fun j hj=>h j (by omega)) hlt;have:=h n (by omega);omega
theorem JW{a:List Int}{C:Nat}:∀{n:Nat},(∀j,j<n->(vf a j).natAbs<=C)->jV a n<=n*C
 |0,_=>by simp[jV]
 |n+1,h=>by
  have:=JW (n:=n) fun j hj=>h j (by omega);have:=h n (by omega);simp only[jV];rw[gL];omega
theorem NM{a:List Int}{n p:Nat}(hp:rN a p)(ha:a.length=n){k:Nat}(hk:k<n)(hkp:k≠p)(hk0:vf a k≠0):jV (bW a p n a) n<jV a n:=by
 have hpn:p<n:=by have:=hp.1;omega
 have key:∀j,j<n->(vf (bW a p n a) j).natAbs<=(vf a j).natAbs:=fun j hj=>by
  by_cases e:j=p
  . subst e;rw[mV hj ha];exact bK _
  . by_cases z:vf a j=0
    . rw[nH hj ha e,z,yF];simp
    . have:=(nD hp ha hj e).1;have:=hp.2.2 j (by omega) z;omega
 exact LP hk key (by have:=(nD hp ha hk hkp).1;have:=hp.2.2 k (by omega) hk0;omega)
open Go Go.X
structure me (K C:Nat)(s:St)(i p:Nat)(s':St):Prop where
 sim:gT s s'
 inv:Inv s'
 kn:s'.known=s.known
 st:s'.steps=s.steps
 status:s'.status=s.status
 value:s'.value=s.value
 dP:s'.stack=s.stack
 n:s'.n=s.n
 pos:s'.items.map AI.pos=s.items.map AI.pos
 pn:p<s.n
 free:vf s.status p=0
 unit:∀x,s'.items[i]?=some x->∀j,j<s.n->vf x.g j=if j=p then 1 else 0
 co:∀x∈s'.items,∀j,j<s.n->j≠p->(vf x.g j).natAbs<=4*(C*C)
 big:∀x∈s'.items,∀j,j<s.n->(vf x.g j).natAbs<=C+s.n*C*(4*(C*C))
 su:SU (K+9*(s.n*C)) s'
theorem UJ{n C:Nat}{a x:List Int}(ha:∀j,j<n->(vf a j).natAbs<=C)(hx:∀j,j<n->(vf x j).natAbs<=C):MB n a x ((2*(C*C):Nat):Int):=by
 intro j hj k hk;have key:∀{y z:Int},y.natAbs<=C->z.natAbs<=C->(y*z).natAbs<=C*C:=fun h1 h2=>by rw[vS];exact iu h1 h2
 have h1:=key (ha j hj) (hx k hk);have h2:=key (ha k hk) (hx j hj);unfold Mi;omega
structure IsoI (K C:Nat)(s:St)(i:Nat)(μ0:Nat)(g:St):Prop where
 sim:gT s g
 inv:Inv g
 kn:g.known=s.known
 st:g.steps=s.steps
 status:g.status=s.status
 value:g.value=s.value
 dP:g.stack=s.stack
 n:g.n=s.n
 pos:g.items.map AI.pos=s.items.map AI.pos
 t:∃t a,(g.items[i]?).map AI.g=some a/\a.length=s.n/\t+jV a s.n<=μ0/\SU (K+9*t) g/\(∀j,j<s.n->(vf a j).natAbs<=C)/\
  (∀x∈g.items,∀j,j<s.n->(vf x.g j).natAbs<=C+t*(4*(C*C)))/\
  ((t=0/\∀x∈g.items,MB s.n a x.g ((2*(C*C):Nat):Int))\/(SG s.n a/\∀x∈g.items,MB s.n a x.g ((4*(C*C):Nat):Int)))
theorem uh{s0 s:St}(h:s0.n=s.n):aR.mk s0.to.n s.to.known s.to.steps s.to.u s.to.status s.to.value s.to.items s.to.stack=s.to:=iy (x:=s.to) (by show(s0.n:Int)=s.n;rw[h])
theorem UK{K C:Nat}{s:St}{i:Nat}(hI:Inv s)(hu:SU K s)(hn:s.n<=4)(hil:s.items.length<=1073741824)(hi:i<s.items.length)(hC:∀x∈s.items,∀j,j<s.n->(vf x.g j).natAbs<=C)(hCb:C<=4294967296)(hK8:8<=K)(hK:K+9*(s.n*C)+40<=cY):
 Tm (fun N=>wX N s.to (i:Int)) (fun r=>∃(p:Nat) (s':St),r=((p:Int),s'.to)/\me K C s i p s'):=by
 have hL:cY=1099511627776:=rfl;unfold wX;have hC2:C*C<=4294967296*4294967296:=iu hCb hCb;have hnC:s.n*C<=4*4294967296:=iu hn hCb;have hbig:s.n*C*(4*(C*C))<=4*4294967296*(4*(4294967296*4294967296)):=iu hnC (by omega);have ha0:s.items[i]∈s.items:=cX hi;refine Tm.bind (Q:=fun r=>∃(p:Nat) (s':St),r=((p:Int),s'.to)/\me K C s i p s')
  (Tm.xg (fun(g:St) t=>t=iJ g/\IsoI K C s i (s.n*C) g) (fun g=>jV (((g.items[i]?).map AI.g).getD []) s.n) s ⟨rfl,gT.refl s,hI,rfl,rfl,rfl,rfl,rfl,rfl,rfl,?_⟩ ?_) fun r hr=>aL hr
 . refine⟨0,(s.items[i]).g,by rw[bV hi];rfl,(hI.it _ ha0).2,?_,hu,hC _ ha0,fun x hx j hj=>by have:=hC x hx j hj;omega,.inl ⟨rfl,fun x hx=>UJ (hC _ ha0) (hC x hx)⟩⟩;have:=JW (a:=(s.items[i]).g) (n:=s.n) (C:=C) (hC _ ha0);omega
 . rintro g _ ⟨rfl,hg⟩;obtain⟨t,a,ea,al,hμ,hsu,hac,hX,hM⟩:=hg.t;have hgl:g.items.length=s.items.length:=by have:=congrArg List.length hg.pos;simpa using this
   have hig:i<g.items.length:=by omega
   have eai:(g.items[i]).g=a:=by rw[bV hig]at ea;exact iR ea
   have hxm:g.items[i]∈g.items:=cX hig;have ht:t*(4*(C*C))<=s.n*C*(4*(C*C)):=pN _ (by omega);have hfit:∀x∈g.items,jT g.n 8 x.g:=fun x hx=>⟨(hg.inv.it x hx).2,fun v hv=>by
    obtain⟨j,hj,rfl⟩:=gE hv;have h1:=hX x hx j (by rw[(hg.inv.it x hx).2,hg.n]at hj;exact hj);refine bO (rA (k:=4) ?_) (by decide);have:aC^4=340282366920938463463374607431768211456:=by decide
    omega⟩
   have hnz:∃j,j<(g.items[i]).g.length/\vf (g.items[i]).g j≠0:=by
    refine jL fun h=>?_;have h1:=hg.inv.gD _ hxm;have h2:(2:Int)∣((dh (g.items[i]).g:Nat):Int):=oA fun v hv=>by
     obtain⟨j,hj,rfl⟩:=gE hv;have:vf (g.items[i]).g j=0:=jL fun e=>h ⟨j,hj,e⟩;rw[this];exact yG 2
    rw[h1]at h2;omega
   show Tm (fun N=>Bk N s.to (i:Int) (g.to.known,g.to.steps,g.to.u,g.to.status,g.to.value,g.to.items,g.to.stack)) _;unfold Bk;refine aN (a:=(g.items[i]).to) (by show idx (g.items.map AI.to) _=_;rw[cU (by simpa using hig),ky]) ?_;refine Tm.bind (OT (x:=g.items[i]) (by rw[(hg.inv.it _ hxm).2,hg.n];omega) (fun v hv=>bO ((hfit _ hxm).2 v hv) (by decide)) hnz) ?_;rintro _ ⟨p,rfl,hp⟩;rw[eai]at hp hnz;have hpn:p<s.n:=by have:=hp.1;omega
   have hpg:p<g.n:=by rw[hg.n];exact hpn
   have hfree:vf g.status p=0:=by
    refine jL fun e=>hp.2.1 ?_;rw[<-eai];exact hg.inv.nf _ hxm p hpg e
   have hanf:∀j,j<g.n->vf g.status j≠0->vf a j=0:=fun j hj hst=>by rw[<-eai];exact hg.inv.nf _ hxm j hj hst
   have hr:=Qj (s0:=s) (s:=g) (i:=i) (p:=p) hsu (by rw[hg.n];omega) hg.n.symm (by omega) hfit hig hpg (by omega) (by omega) true;rw[eai]at hr;refine Tm.bind hr ?_;rintro _ ⟨c,rfl,hc⟩;dsimp only;rw[Uy]at*;have hb:=PN (s:=g) (a:=a) hpg hfree hanf;have hsim2:=gT.ch hg.inv hb;have hinv2:=Inv.ch hg.inv hb;have hsu2:SU (K+9*(t+1)) (gX g (bW a p g.n)):=by
    refine⟨⟨by show(g.u.map _).length=_;rw[cD];exact hsu.u.1,fun l hl=>?_⟩,hsu.st,⟨hsu.v.1,fun v hv=>by have:=hsu.v.2 v hv;omega⟩⟩;obtain⟨w,hw,rfl⟩:=dz.1 hl;have:=DQ (a:=a) (p:=p) (k:=g.n) (hsu.u.2 w hw) (fun j=>by rw[<-eai];exact(hfit _ hxm).vf j);exact⟨this.1,fun v hv=>by have:=this.2 v hv;omega⟩
   cases c with
   |true=>
    refine cL rfl ?_;have hz:=(hc.1 rfl).2;rw[hg.n]at hz;have hzero:∀j,j<s.n->j≠p->vf a j=0:=hz;have hrow:∀l:List Int,bW a p g.n l=l:=fun l=>by
     refine lr oR fun j hj=>?_;rw[oR]at hj;unfold bW;rw[dH hj];split
     . rename_i h;rw[hzero j (by have:=h.1;rw[hg.n]at this;exact this) h.2,yF];omega
     . rfl
    have hsame:gX g (bW a p g.n)=g:=by
     unfold gX;rw[show bW a p g.n=id from funext hrow];simp
    rw[hsame];have hap:(vf a p).natAbs=1:=by
     have h1:=hg.inv.gD _ hxm;rw[eai]at h1;have h2:vf a p∣((dh a:Nat):Int):=oA fun v hv=>by
      obtain⟨j,hj,rfl⟩:=gE hv;by_cases e:j=p
      . subst e;exact Int.dvd_refl _
      . rw[hzero j (by omega) e];exact yG _
     rw[h1]at h2;have:=Int.natAbs_dvd_natAbs.2 h2;exact GF this
    have hco:∀x∈g.items,∀j,j<s.n->j≠p->(vf x.g j).natAbs<=4*(C*C):=fun x hx j hj hjp=>by
     have hm:-((4*(C*C):Nat):Int)<=Mi a x.g p j/\Mi a x.g p j<=((4*(C*C):Nat):Int):=by
      rcases hM with⟨_,hM⟩|⟨_,hM⟩
      . have:=hM x hx p hpn j hj;omega
      . exact hM x hx p hpn j hj
     unfold Mi at hm;rw[hzero j hj hjp,Int.zero_mul,GH]at hm;have:(vf a p*vf x.g j).natAbs=(vf x.g j).natAbs:=by rw[vS,hap,yx]
     omega
    have hbg:∀x∈g.items,∀j,j<s.n->(vf x.g j).natAbs<=C+s.n*C*(4*(C*C)):=fun x hx j hj=>by have:=hX x hx j hj;omega
    have hgi:idx (mB (g.items[i]).g) (p:Int)=some (B (vf a p)):=by rw[eai];exact ez (by omega)
    refine aN hgi (aU (jv (bO (j9 (by omega)) (by decide))) ?_);have hsu3:SU (K+9*(s.n*C)) g:=⟨⟨hsu.u.1,fun r hr=>⟨(hsu.u.2 r hr).1,fun v hv=>by have:=(hsu.u.2 r hr).2 v hv;omega⟩⟩,hsu.st,⟨hsu.v.1,fun v hv=>by have:=hsu.v.2 v hv;omega⟩⟩;refine Tm.bind (Q:=fun r=>∃s',r=iJ s'/\me K C s i p s') (aZ (fun h0=>?_) (fun h0=>aL ⟨g,rfl,?_⟩)) ?_
    . have hneg:vf a p<0:=og.1 h0;rw[uh hg.n.symm];have hbf:=UO (s:=g) hpg hfree;refine aU (Qn (K:=K+9*(s.n*C)) hsu3 (by rw[hg.n];omega) (by omega) (fun x hx=>⟨(hfit x hx).1,fun v hv=>by have:=(hfit x hx).2 v hv;omega⟩) hpg (by omega)) (aL ⟨flS g p,rfl,?_⟩);rw[UR];have hvs:∀x∈g.items,∀j,vf (x.g.set p (-vf x.g p)) j=if p=j then-vf x.g p else vf x.g j:=fun x hx j=>jR (by rw[(hg.inv.it x hx).2];exact hpg);refine⟨hg.sim.trans (gT.ch hg.inv hbf),Inv.ch hg.inv hbf,hg.kn,hg.st,hg.status,hg.value,hg.dP,hg.n,?_,hpn,by rw[<-hg.status];exact hfree,fun x hx j hj=>?_,fun x hx j hj hjp=>?_,fun x hx j hj=>?_,?_⟩
      . show(g.items.map _).map AI.pos=_;rw[mq,<-hg.pos];rfl
      . have hx':(g.items[i]?).map (fun x:AI=>({x with g:=x.g.set p (-vf x.g p)}:AI))=some x:=by rw[<-gR];exact hx
        rw[bV hig]at hx';obtain rfl:=iR hx';show vf ((g.items[i]).g.set p _) j=_;rw[hvs _ hxm j,eai];by_cases e:p=j
        . subst e;rw[if_pos rfl,if_pos rfl];omega
        . rw[if_neg e,if_neg fun h=>e h.symm];exact hzero j hj fun h=>e h.symm
      . obtain⟨z,hz',rfl⟩:=dz.1 hx;show(vf (z.g.set p _) j).natAbs<=_;rw[hvs z hz' j,if_neg fun h=>hjp h.symm];exact hco z hz' j hj hjp
      . obtain⟨z,hz',rfl⟩:=dz.1 hx;show(vf (z.g.set p _) j).natAbs<=_;rw[hvs z hz' j];split
        . have:=hbg z hz' p hpn;omega
        . exact hbg z hz' j hj
      . refine⟨⟨by show(g.u.map _).length=_;rw[cD];exact hsu3.u.1,fun l hl=>?_⟩,hsu3.st,hsu3.v⟩;obtain⟨w,hw,rfl⟩:=dz.1 hl;have hw':=hsu3.u.2 w hw;refine⟨by rw[iS];exact hw'.1,fun v hv=>?_⟩;rcases pM hv with hv|rfl
        . exact hw'.2 v hv
        . rw[fY];exact hw'.vf p
    . have hpos:¬vf a p<0:=fun e=>h0 (og.2 e);refine⟨hg.sim,hg.inv,hg.kn,hg.st,hg.status,hg.value,hg.dP,hg.n,hg.pos,hpn,by rw[<-hg.status];exact hfree,fun x hx j hj=>?_,hco,hbg,hsu3⟩;rw[bV hig]at hx;obtain rfl:=iR hx;rw[eai];by_cases e:j=p
      . subst e;rw[if_pos rfl];omega
      . rw[if_neg e];exact hzero j hj e
    . rintro⟨r1,r2,r3,r4,r5,r6,r7⟩ ⟨s',hs',hP⟩;obtain⟨rfl,rfl,rfl,rfl,rfl,rfl,rfl⟩:=by simpa[iJ]using hs'
      refine aL ⟨p,s',?_,hP⟩;dsimp only;rw[uh hP.n.symm]
   |false=>
    refine cC (by simp) (aL ?_);have hex:∃k,k<s.n/\k≠p/\vf a k≠0:=jL fun h=>by
     have:=hc.2 ⟨rfl,fun j hj hjp=>jL fun e=>h ⟨j,by rw[<-hg.n];exact hj,hjp,e⟩⟩;cases this
    obtain⟨k,hk,hkp,hk0⟩:=hex;have hlt:=NM hp al hk hkp hk0;have hgn:=hg.n;have e1:(((gX g (bW a p g.n)).items[i]?).map AI.g)=some (bW a p s.n a):=by
     show((g.items.map _)[i]?).map AI.g=_;rw[gR,bV hig];show some (bW a p g.n (g.items[i]).g)=_;rw[eai,hgn]
    have e0:((g.items[i]?).map AI.g)=some a:=ea;refine⟨gX g (bW a p g.n),⟨rfl,hg.sim.trans hsim2,hinv2,hg.kn,hg.st,hg.status,hg.value,hg.dP,hg.n,?_,t+1,bW a p s.n a,e1,oR.trans al,by omega,hsu2,fun j hj=>?_,fun x hx j hj=>?_,.inr ⟨Ra hp al,fun x hx=>?_⟩⟩,?_⟩
    . show(g.items.map _).map AI.pos=_;rw[mq,<-hg.pos];rfl
    . by_cases e:j=p
      . subst e;rw[mV hj al];exact hac j hj
      . have:=(nD hp al hj e).1;have:=hac p hpn;omega
    . obtain⟨z,hz',rfl⟩:=dz.1 hx;show(vf (bW a p g.n z.g) j).natAbs<=_;rw[hgn];have hzl:z.g.length=s.n:=(hg.inv.it z hz').2.trans hgn;have hMz:MB s.n a z.g ((4*(C*C):Nat):Int):=by
       rcases hM with⟨_,hM⟩|⟨_,hM⟩
       . intro j hj k hk;have:=hM z hz' j hj k hk;omega
       . exact hM z hz'
      have:=QT hp al hzl hMz (hX z hz') j hj;rw[gL];omega
    . obtain⟨z,hz',rfl⟩:=dz.1 hx;show MB s.n (bW a p s.n a) (bW a p g.n z.g) _;rw[hgn];have hzl:z.g.length=s.n:=(hg.inv.it z hz').2.trans hgn;rcases hM with⟨_,hM⟩|⟨hS,hM⟩
      . have:=S4 (M:=((2*(C*C):Nat):Int)) (by omega) hp al hzl (hM z hz');intro j hj k hk;have:=this j hj k hk;omega
      . exact Pj hp hS al hzl (hM z hz')
    . show jV ((((gX g (bW a p g.n)).items[i]?).map AI.g).getD []) s.n<jV (((g.items[i]?).map AI.g).getD []) s.n;rw[e1,e0];exact hlt
open Go Go.X
structure zy (n:Nat)(l:List AQ)(s:AS)(q:AQ):Prop where
 d:0<s.d
 dl:dl s.d<=4
 len:s.cG.length<=2
 cG:∀u∈s.cG,u.ix<l.length/\0<=u.n/\D.dl u.n<=4
 dvd:∀j,j<n->s.d∣dX l s.cG j
 q:q=mW n l s.cG s.d
inductive gV (n:Nat)(base:List AQ):List AS->List AQ->Prop where
 |nil:gV n base [] base
 |snoc {ss:List AS} {l:List AQ} {s:AS} {q:AQ} (h:gV n base ss l) (hs:zy n l s q):gV n base (ss++[s]) (l++[q])
structure Kept (s s':St):Prop where
 u:s'.u=s.u
 status:s'.status=s.status
 value:s'.value=s.value
 dP:s'.stack=s.stack
 n:s'.n=s.n
 kn:∃e,s'.known=s.known++e
theorem Kept.refl(s:St):Kept s s:=⟨rfl,rfl,rfl,rfl,rfl,[],by simp⟩
theorem Kept.trans{a b c:St}(h:Kept a b)(h':Kept b c):Kept a c:=by
 obtain⟨e,he⟩:=h.kn;obtain⟨e',he'⟩:=h'.kn;exact⟨h'.u.trans h.u,h'.status.trans h.status,h'.value.trans h.value,h'.dP.trans h.dP,h'.n.trans h.n,e++e',by rw[he',he,je]⟩
theorem Fp(s:St)(g:List Int)(us:List AU):Kept s (put s g us).2:=by
 obtain⟨h1,h2,h3,h4,h5⟩:=UF s g us;obtain⟨e,he,_⟩:=Bd s g us;exact⟨h1,h2,h3,h4,h5,e,he⟩
theorem DZ(s:St)(x:AI):Kept s (add s x):=⟨rfl,rfl,rfl,rfl,rfl,[],by simp[add]⟩
theorem AN:∀(L:List Act) (s:St),Kept s (bU s L).2
 |[],s=>Kept.refl s
 |.add x::r,s=>(DZ s x).trans (AN r _)
 |.put g us::r,s=>by
  unfold bU;split
  . exact(Fp s g us).trans (AN r _)
  . exact Fp s g us
def mG(K:Nat)(s:St):Act->Prop
 |.add x=>kB s x
 |.put g us=>gF K s g us/\nC s g us/\dl (dv g)<=4
def Cl(s:St)(y:Nat->Int):Act->Prop
 |.add x=>IH s y x
 |.put g us=>bE (vf g) y s.n<=gk s.known us
theorem Jo{kn e:List AQ}{j:Nat}:∀{us:List AU},(∀u∈us,u.ix<kn.length)->dX (kn++e) us j=dX kn us j
 |[],_=>rfl
 |u::us,h=>by
  show _+dX (kn++e) us j=_;rw[Jo fun v hv=>h v (cJ _ hv),iQ (h u cO)];rfl
theorem KF{kn e:List AQ}:∀{us:List AU},(∀u∈us,u.ix<kn.length)->gk (kn++e) us=gk kn us
 |[],_=>rfl
 |u::us,h=>by
  show _+gk (kn++e) us=_;rw[KF fun v hv=>h v (cJ _ hv),iQ (h u cO)];rfl
theorem kB.kept{s s':St}{x:AI}(h:kB s x)(k:Kept s s'):kB s' x:=by
 obtain⟨e,he⟩:=k.kn;exact⟨by rw[he];have:=h.pos;simp;omega,by rw[k.n];exact h.gl,fun j hj=>by rw[k.n]at hj⊢;rw[k.u,he,iQ h.pos];exact h.dp j hj,fun j hj hst=>by rw[k.n]at hj;rw[k.status]at hst;exact h.nf j hj hst,h.gD⟩
theorem mG.kept{K:Nat}{s s':St}{a:Act}(h:mG K s a)(k:Kept s s'):mG K s' a:=by
 obtain⟨e,he⟩:=k.kn;cases a with
 |add x=>exact kB.kept h k
 |put g us=>
  obtain⟨h1,h2,h3⟩:=h;have hix:∀u∈us,u.ix<s.known.length:=fun u hu=>(h1.u u hu).1;refine⟨lJ.app (a:=.put g us) h1 k.n he,⟨fun j hj=>?_,fun j hj hst=>?_⟩,h3⟩
  . rw[k.n]at hj;rw[h2.dp j hj];unfold Ai;rw[k.u,k.n,he];congr 1;exact J3 fun i _=>(Jo hix).symm
  . rw[k.n]at hj;rw[k.status]at hst;exact h2.nf j hj hst
theorem Cl.kept{K:Nat}{s s':St}{a:Act}{y:Nat->Int}(hs:mG K s a)(k:Kept s s'):Cl s' y a↔Cl s y a:=by
 obtain⟨e,he⟩:=k.kn;cases a with
 |add x=>exact wM k.n he (kB.pos hs)
 |put g us=>
  show bE (vf g) y s'.n<=gk s'.known us↔_;rw[k.n,he,KF fun u hu=>(hs.1.u u hu).1];rfl
theorem Kj{K n:Nat}{base:List AQ}{s:St}(h:Inv s){g:List Int}{us:List AU}(hn:n=s.n)(hp:gF K s g us)(hs:nC s g us)(hd:dl (dv g)<=4)(hD:gV n base s.steps s.known):gV n base (put s g us).2.steps (put s g us).2.known:=by
 have e:(put s g us).2.steps=(dst s g us).steps/\(put s g us).2.known=(dst s g us).known:=by
  unfold put;dsimp only;split<;>exact⟨rfl,rfl⟩
 rw[e.1,e.2];unfold dst;split
 . refine hD.snoc ⟨qc g,hd,hp.ul,fun u hu=>⟨(hp.u u hu).1,(hp.u u hu).2.1,(hp.u u hu).2.2.1⟩,fun j hj=>LR h hp.gl hs (by omega),by rw[hn]⟩
 . exact hD
def GB(M:Nat)(g:List Int):Prop:=∀v∈g,v.natAbs<=M
def xo(M:Nat):Act->Prop
 |.add x=>GB M x.g
 |.put g _=>GB M g
theorem S6{M n:Nat}{g:List Int}{d:Int}(hd:0<=d)(h:GB M g):GB M (vec n fun j=>vf g j/d):=fun v hv=>by
 obtain⟨j,hj,rfl⟩:=gE hv;rw[eN]at hj;rw[dH hj];have:=I6 (a:=vf g j) (b:=d);rw[jx _ hd]at this;have h2:(vf g j).natAbs<=M:=by
  rcases cw j g.length with h1|h1
  . exact h _ (gj h1)
  . rw[lV h1];omega
 omega
structure yn (K M:Nat)(s:St)(L:List Act)(ok:Bool)(s':St):Prop where
 kept:Kept s s'
 inv:Inv s'
 imp:ok=true->∀y,(∀z∈s'.items,IH s' y z)->(∀z∈s.items,IH s y z)/\∀a∈L,Cl s y a
 bad:ok=false->∃q∈s'.known,(∀j,j<s.n->vf q.c j=0)/\q.b<0
 il:s'.items.length<=s.items.length+L.length
 kl:s'.known.length<=s.known.length+L.length
 sl:s'.steps.length<=s.steps.length+L.length
 gb:∀z∈s'.items,GB M z.g
 jo:∀base,gV s.n base s.steps s.known->gV s.n base s'.steps s'.known
theorem uz{K M:Nat}:∀(L:List Act) (s:St),Inv s->(∀a∈L,mG K s a)->(∀z∈s.items,GB M z.g)->(∀a∈L,xo M a)->yn K M s L (bU s L).1 (bU s L).2
 |[],s,hI,_,hg,_=>⟨Kept.refl s,hI,fun _ y hy=>⟨hy,fun a ha=>(by cases ha)⟩,fun h=>(by cases h),bK _,bK _,bK _,hg,fun _ h=>h⟩
 |.add x::r,s,hI,hA,hg,hB=>by
  have hx:kB s x:=hA _ cO;have k:=DZ s x;have hg':∀z∈(add s x).items,GB M z.g:=fun z hz=>(l9 hz).elim (fun e=>by subst e;exact hB _ cO) (hg z);have h:=uz r (add s x) (hI.add hx) (fun a ha=>(hA a (cJ _ ha)).kept k) hg' fun a ha=>hB a (cJ _ ha);have hl:=vC (kn:=s.known) (x:=x) (l:=s.items);refine⟨k.trans h.kept,h.inv,fun hok y hy=>?_,h.bad,?_,?_,?_,h.gb,h.jo⟩
  . obtain⟨h1,h2⟩:=h.imp hok y hy;obtain⟨g1,g2⟩:=Ax (s:=s) (x:=x) (y:=y) (l:=s.items) h1;refine⟨g1,fun a ha=>?_⟩;rcases eb.1 ha with rfl|ha
    . exact g2
    . exact(Cl.kept (hA a (cJ _ ha)) k).1 (h2 a ha)
  . have:=h.il;have:(add s x).items.length<=s.items.length+1:=hl.2;simp only[cv];show(bU (add s x) r).2.items.length<=_;omega
  . have:=h.kl;have:(add s x).known.length=s.known.length:=rfl;simp only[cv];show(bU (add s x) r).2.known.length<=_;omega
  . have:=h.sl;have:(add s x).steps.length=s.steps.length:=rfl;simp only[cv];show(bU (add s x) r).2.steps.length<=_;omega
 |.put g us::r,s,hI,hA,hg,hB=>by
  obtain⟨hp,hs,hd⟩:gF K s g us/\nC s g us/\dl (dv g)<=4:=hA _ cO;have k:=Fp s g us;have hgb:GB M g:=hB (.put g us) cO;have hg':∀z∈(put s g us).2.items,GB M z.g:=fun z hz=>by
   have hi:=Im s g us;unfold put at hz;dsimp only at hz;split at hz
   . rcases l9 hz with e|hz
     . subst e;exact S6 (ed (qc g)) hgb
     . rw[hi]at hz;exact hg z hz
   . rw[hi]at hz;exact hg z hz
  have hkl:(put s g us).2.known.length<=s.known.length+1:=by
   obtain⟨e,he,hel⟩:=Bd s g us;rw[he];simp;omega
  have hsl:(put s g us).2.steps.length<=s.steps.length+1:=by
   have:(put s g us).2.steps=(dst s g us).steps:=by unfold put;dsimp only;split<;>rfl
   rw[this];unfold dst;split<;>simp
  have hil:(put s g us).2.items.length<=s.items.length+1:=by
   have hi:=Im s g us;unfold put;dsimp only;split
   . have:=vC (kn:=(dst s g us).known) (x:=lk s g us) (l:=(dst s g us).items);show(eh _ _ _).length<=_;rw[hi]at this⊢;exact this.2
   . rw[hi];omega
  by_cases hok:(put s g us).1=true
  . have h:=uz r (put s g us).2 (hI.put hp hs) (fun a ha=>(hA a (cJ _ ha)).kept k) hg' fun a ha=>hB a (cJ _ ha);have e:bU s (.put g us::r)=bU (put s g us).2 r:=by show(if _ then _ else _)=_;rw[if_pos hok]
    rw[e];refine⟨k.trans h.kept,h.inv,fun hok' y hy=>?_,fun hb=>by have:=h.bad hb;rwa[k.n]at this,?_,?_,?_,h.gb,fun base hD=>?_⟩
    . obtain⟨h1,h2⟩:=h.imp hok' y hy;obtain⟨g1,g2⟩:=R3 hI hp hs hok h1;refine⟨g1,fun a ha=>?_⟩;rcases eb.1 ha with rfl|ha
      . exact g2
      . exact(Cl.kept (hA a (cJ _ ha)) k).1 (h2 a ha)
    . have:=h.il;simp only[cv];omega
    . have:=h.kl;simp only[cv];omega
    . have:=h.sl;simp only[cv];omega
    . have:=h.jo base (by rw[k.n];exact Kj hI rfl hp hs hd hD);rwa[k.n]at this
  . have e:bU s (.put g us::r)=(false,(put s g us).2):=by show(if _ then _ else _)=_;rw[if_neg hok]
    rw[e];refine⟨k,hI.put hp hs,fun h=>(by cases h),fun _=>N4 hI hp hs (by simpa using hok),?_,?_,?_,hg',fun base hD=>Kj hI rfl hp hs hd hD⟩
    . simp only[cv];omega
    . simp only[cv];omega
    . simp only[cv];omega
open Go Go.X
def bD(s:St)(k:Nat):AI:=s.items.getD k ⟨0,[]⟩
theorem l7{s:St}{k:Nat}(h:k<s.items.length):bD s k=s.items[k]:=by unfold bD;rw[cA,bV h];rfl
theorem gU{s:St}{k:Nat}(h:k<s.items.length):bD s k∈s.items:=by rw[l7 h];exact cX h
theorem sK{s:St}{k:Nat}(h:k<s.items.length):idx s.to.items (k:Int)=some (bD s k).to:=by
 show idx (s.items.map AI.to) _=_;rw[cU (by simpa using h),ky,l7 h]
def eD(s:St)(i p:Nat):St:={s with status:=s.status.set p 1,value:=s.value.set p (aI s.known (bD s i).pos).b,items:=[]}
def jD(s:St)(i j p k:Nat):List Act:= if k=i\/k=j then[]else if vf (bD s k).g p=0 then[.add (bD s k)] else[.put ((bD s k).g.set p 0) [⟨(bD s k).pos,1⟩,if vf (bD s k).g p<0 then⟨(bD s i).pos,-vf (bD s k).g p⟩else⟨(bD s j).pos,vf (bD s k).g p⟩]]
def dZ(s:St)(i j p k:Nat):List Act:=((List.range s.items.length).drop k).flatMap (jD s i j p)
theorem LK{s:St}{i j p k:Nat}(h:k<s.items.length):dZ s i j p k=jD s i j p k++dZ s i j p (k+1):=by
 unfold dZ;rw[fD (by simpa using h),tx,List.getElem_range]
theorem JC{s:St}{i j p:Nat}:dZ s i j p s.items.length=[]:=by unfold dZ;rw[Cf (by simp)];rfl
theorem Mu{s:St}{i j p k:Nat}:(jD s i j p k).length<=1:=by unfold jD;(repeat' split)<;>simp
theorem DE{s:St}{i j p:Nat}:∀(m k:Nat),k+m=s.items.length->(dZ s i j p k).length<=m
  | 0, k, h => by obtain rfl : k = s.items.length := by omega
                  rw[JC];simp
  |m+1,k,h=>by
    rw[LK (s:=s) (by omega),dd];have:=DE (s:=s) (i:=i) (j:=j) (p:=p) m (k+1) (by omega);have:=Mu (s:=s) (i:=i) (j:=j) (p:=p) (k:=k);omega
theorem PO{s:St}{i j p:Nat}{a:Act}(h:a∈dZ s i j p 0):∃k,k<s.items.length/\k≠i/\k≠j/\jD s i j p k=[a]:=by
 unfold dZ at h;rw[lL,vX]at h;obtain⟨k,hk,ha⟩:=h;have hk:k<s.items.length:=by simpa using hk
 have hl:=Mu (s:=s) (i:=i) (j:=j) (p:=p) (k:=k);refine⟨k,hk,?_,?_,?_⟩
 . rintro rfl;unfold jD at ha;simp at ha
 . rintro rfl;unfold jD at ha;simp at ha
 . match he:jD s i j p k,hl,ha with
   |[b],_,ha=>rw[cP.1 ha]
   |[],_,ha=>cases ha
theorem Aq{s:St}{i j p k:Nat}(hk:k<s.items.length){a:Act}(h:a∈jD s i j p k):a∈dZ s i j p 0:=by
 unfold dZ;rw[lL,vX];exact⟨k,by simpa using hk,h⟩
theorem QA{l:List Int}{p n:Nat}{y:Nat->Int}(hl:l.length=n)(hp:p<n):bE (vf (l.set p 0)) y n=bE (vf l) y n-vf l p*y p:=by
  have h:=uk (f:=y) (y:=vf l) (z:=0) (v:=p) hp;rw[pg (f:=vf l),pg (f:=vf (l.set p 0))]
  rw [eF (f := y) (f' := y) (g := vf (l.set p 0)) (g' := cK (vf l) p 0) (fun _ _ => rfl) (fun j hj => by rw [jR (by omega)]; unfold cK; by_cases e : p = j
                                                                                                         . rw[if_pos e,if_pos e.symm]
                                                                                                         . rw[if_neg e,if_neg fun h=>e h.symm]),h]
  grind
section
variable {K C Kk:Nat} {s s1:St} {i j p:Nat}
structure sf (s:St)(i j:Nat):Prop where
 il:i<s.items.length
 jl:j<s.items.length
 ne:i≠j
 g:∀k,k<s.n->vf (bD s j).g k=-vf (bD s i).g k
 b:(aI s.known (bD s i).pos).b+(aI s.known (bD s j).pos).b=0
theorem om(h:me K C s i p s1)(k:Nat)(hk:k<s.items.length):k<s1.items.length/\(bD s1 k).pos=(bD s k).pos:=by
 have hl:s1.items.length=s.items.length:=by have:=congrArg List.length h.pos;simpa using this
 have hk1:k<s1.items.length:=by omega
 refine⟨hk1,?_⟩;rw[l7 hk1,l7 hk];have:=congrArg (fun l:List Nat=>l[k]?) h.pos;simp only[gR,bV hk1,bV hk,ov,tm]at this;exact this
theorem I9(h:me K C s i p s1):s1.items.length=s.items.length:=by have:=congrArg List.length h.pos;simpa using this
theorem BJ(h:me K C s i p s1)(he:sf s i j):∀k,k<s.n->vf (bD s1 i).g k=if k=p then 1 else 0:=by
 have hi:=(om h i he.il).1;exact h.unit _ (by rw[bV hi,l7 hi])
theorem Es(hI:Inv s)(h:me K C s i p s1)(he:sf s i j):∀k,k<s.n->vf (bD s1 j).g k=if k=p then-1 else 0:=by
 intro k hk;obtain⟨hj,hjp⟩:=om h j he.jl;obtain⟨hi,hip⟩:=om h i he.il;obtain⟨w,hw⟩:=hI.j2;have hc:∀m,m<s.n->vf (aI s.known (bD s j).pos).c m=0+-1*vf (aI s.known (bD s i).pos).c m:=fun m hm=>by
  rw[zo hw hm,zo hw hm,<-rW,Cg];refine eF (fun r hr=>?_) fun _ _=>rfl;rw[<-hI.dp _ (gU he.jl) r hr,<-hI.dp _ (gU he.il) r hr,he.g r hr];omega
 have h1:=h.inv.dp _ (gU hj) k (by rw[h.n];exact hk);have h2:=h.inv.dp _ (gU hi) k (by rw[h.n];exact hk);rw[hjp,h.kn,h.n]at h1;rw[hip,h.kn,h.n]at h2;have h3:cu s1.u s.n (aI s.known (bD s j).pos).c k=-1*cu s1.u s.n (aI s.known (bD s i).pos).c k:=A5 fun m hm=>by rw[hc m hm];omega
 rw[h1,h3,<-h2,BJ h he k hk];split<;>omega
theorem RB{n C:Nat}(hn:n<=4)(hC:C<=4294967296):C+n*C*(4*(C*C))<340282366920938463463374607431768211456:=by
 have h1:C*C<=4294967296*4294967296:=iu hC hC;have h2:n*C<=4*4294967296:=iu hn hC;have h3:n*C*(4*(C*C))<=4*4294967296*(4*(4294967296*4294967296)):=iu h2 (by omega);omega
theorem Aj{v:Int}(h:v.natAbs<340282366920938463463374607431768211456):dl v<=4:=rA (by
 have:aC^4=340282366920938463463374607431768211456:=by decide
 omega)
theorem AV(hn:s.n<=4)(hC:C<=4294967296)(h:me K C s i p s1){x:AI}(hx:x∈s1.items):∀v∈x.g,dl v<=4:=fun v hv=>by
 obtain⟨k,hk,rfl⟩:=gE hv;have:=h.big x hx k (by rw[(h.inv.it x hx).2,h.n]at hk;exact hk);exact Aj (B9 this (RB hn hC))
theorem Km(hI:Inv s)(hs:gr Kk s)(hn:s.n<=4)(hC:C<=4294967296)(h:me K C s i p s1)(he:sf s i j):
 ∀a∈dZ s1 i j p 0,(lJ Kk (eD s1 i p) a/\xo (4*(C*C)) a)/\mG Kk (eD s1 i p) a:=by
 intro a ha;obtain⟨k,hk,hki,hkj,hke⟩:=PO ha;have hkm:=gU hk;obtain⟨k1,k2⟩:=h.inv.it _ hkm;have hp1:p<s1.n:=by rw[h.n];exact h.pn
 have hn1:=h.n;have hvs:∀m,vf ((bD s1 k).g.set p 0) m=if p=m then 0 else vf (bD s1 k).g m:=fun m=>jR (by omega);have hstat:∀m,m<s1.n->vf (s1.status.set p 1) m≠0->m=p\/vf s1.status m≠0:=fun m hm hst=>by
  rw[jR (by rw[h.inv.fX];exact hp1)]at hst;by_cases e:p=m
  . exact .inl e.symm
  . rw[if_neg e]at hst;exact .inr hst
 unfold jD at hke;rw[if_neg (by omega)]at hke;split at hke
 . rename_i hc;obtain rfl:=(vU hke).1;refine⟨⟨⟨k1,k2,fun v hv=>bO (AV hn hC h hkm v hv) (by decide)⟩,fun v hv=>?_⟩,⟨k1,k2,h.inv.dp _ hkm,fun m hm hst=>?_,h.inv.gD _ hkm⟩⟩
   . obtain⟨m,hm,rfl⟩:=gE hv;by_cases e:m=p
     . subst e;rw[hc];simp
     . exact h.co _ hkm m (by omega) e
   . rcases hstat m hm hst with rfl|hst
     . exact hc
     . exact h.inv.nf _ hkm m hm hst
 . rename_i hc;obtain rfl:=(vU hke).1;obtain⟨hi,hip⟩:=om h i he.il;obtain⟨hj,hjp⟩:=om h j he.jl;have hkn:(eD s1 i p).known=s.known:=h.kn;have hq:∀m,m<s1.items.length->mc s1.n Kk s1.known ⟨(bD s1 m).pos,1⟩:=fun m hm=>by
    have h1:=(h.inv.it _ (gU hm)).1;have h2:=hs.k (aI s1.known (bD s1 m).pos) (by rw[<-h.kn];exact eL h1);exact⟨h1,GC 1,bO jF (by decide),h2.1,h2.2.trans h.n.symm⟩
   have hcdl:dl (vf (bD s1 k).g p)<=4:=AV hn hC h hkm _ (gj (by omega));have hu2:mc s1.n Kk s1.known (if vf (bD s1 k).g p<0 then⟨(bD s1 i).pos,-vf (bD s1 k).g p⟩else⟨(bD s1 j).pos,vf (bD s1 k).g p⟩):=by
    split
    . obtain⟨g1,g2,g3,g4,g5⟩:=hq i hi;exact⟨g1,by dsimp only;omega,by dsimp only;rw[fY];exact hcdl,g4,g5⟩
    . obtain⟨g1,g2,g3,g4,g5⟩:=hq j hj;exact⟨g1,by dsimp only;omega,hcdl,g4,g5⟩
   have hg8:∀v∈(bD s1 k).g.set p 0,dl v<=8:=fun v hv=>by
    rcases pM hv with hv|rfl
    . exact bO (AV hn hC h hkm v hv) (by decide)
    . rw[ir];omega
   have hP:gF Kk (eD s1 i p) ((bD s1 k).g.set p 0) [⟨(bD s1 k).pos,1⟩,if vf (bD s1 k).g p<0 then⟨(bD s1 i).pos,-vf (bD s1 k).g p⟩else⟨(bD s1 j).pos,vf (bD s1 k).g p⟩]:=
    ⟨by rw[iS];exact k2,hg8,by simp,by simp,fun u hu=>by
     rcases eb.1 hu with rfl|hu
     . exact hq k hk
     . rw[cP.1 hu];exact hu2⟩
   have hgb:GB (4*(C*C)) ((bD s1 k).g.set p 0):=fun v hv=>by
    obtain⟨m,hm,rfl⟩:=gE hv;rw[iS]at hm;rw[hvs m];split
    . simp
    . rename_i e;exact h.co _ hkm m (by omega) fun e'=>e e'.symm
   refine⟨⟨hP,hgb⟩,hP,⟨fun m hm=>?_,fun m hm hst=>?_⟩,?_⟩
   . have hm:m<s1.n:=hm;rw[hvs m];have hup:=BJ h he m (by omega);have hdn:=Es hI h he m (by omega);have r0:=h.inv.dp _ hkm m hm;have r1:=h.inv.dp _ (gU hi) m hm;have r2:=h.inv.dp _ (gU hj) m hm;show _=cu s1.u s1.n (vec s1.n (dX s1.known _)) m;by_cases hneg:vf (bD s1 k).g p<0
     . rw[if_pos hneg];have e:cu s1.u s1.n (vec s1.n (dX s1.known [⟨(bD s1 k).pos,1⟩,⟨(bD s1 i).pos,-vf (bD s1 k).g p⟩])) m=cu s1.u s1.n (aI s1.known (bD s1 k).pos).c m+(-vf (bD s1 k).g p)*cu s1.u s1.n (aI s1.known (bD s1 i).pos).c m:=zC fun r hr=>by
        rw[dH hr];show 1*_+(_+0)=_;dsimp only;omega
       rw[e,<-r0,<-r1,hup];by_cases e2:p=m
       . subst e2;rw[if_pos rfl,if_pos rfl];omega
       . rw[if_neg e2,if_neg fun h=>e2 h.symm];omega
     . rw[if_neg hneg];have e:cu s1.u s1.n (vec s1.n (dX s1.known [⟨(bD s1 k).pos,1⟩,⟨(bD s1 j).pos,vf (bD s1 k).g p⟩])) m=cu s1.u s1.n (aI s1.known (bD s1 k).pos).c m+(vf (bD s1 k).g p)*cu s1.u s1.n (aI s1.known (bD s1 j).pos).c m:=zC fun r hr=>by
        rw[dH hr];show 1*_+(_+0)=_;dsimp only;omega
       rw[e,<-r0,<-r2,hdn];by_cases e2:p=m
       . subst e2;rw[if_pos rfl,if_pos rfl];omega
       . rw[if_neg e2,if_neg fun h=>e2 h.symm];omega
   . have hm:m<s1.n:=hm;rw[hvs m];rcases hstat m hm hst with rfl|hst
     . rw[if_pos rfl]
     . split
       . rfl
       . exact h.inv.nf _ hkm m hm hst
   . unfold dv;split
     . exact bO jF (by decide)
     . exact u5 fun v hv=>by
        have:=hgb v hv;refine Aj (B9 this ?_);have h1:C*C<=4294967296*4294967296:=iu hC hC;omega
theorem UL(hI:Inv s)(h:me K C s i p s1):Inv (eD s1 i p)where
 ul:=h.inv.ul
 fX:=by show(s1.status.set p 1).length=_;rw[iS];exact h.inv.fX
 vl:=by show(s1.value.set p _).length=_;rw[iS];exact h.inv.vl
 kl:=h.inv.kl
 it x hx:=by cases hx
 dp x hx:=by cases hx
 nf x hx:=by cases hx
 gD x hx:=by cases hx
 kh:=List.Pairwise.nil
 j2:=h.inv.j2
 stat m hm:=by
  show vf (s1.status.set p 1) m=0\/vf (s1.status.set p 1) m=1\/vf (s1.status.set p 1) m=2;rw[jR (by rw[h.inv.fX,h.n];exact h.pn)];split
  . exact .inr (.inl rfl)
  . exact h.inv.stat m hm
 sv e he:=by
  obtain⟨e1,e2,e3⟩:=h.inv.sv e he;refine⟨e1,?_,e3⟩;show vf (s1.status.set p 1) e.v=2;rw[jR (by rw[h.inv.fX,h.n];exact h.pn),if_neg]
  . exact e2
  . intro e';have:=h.free;rw[h.status]at e2;rw[e',e2]at this;omega
 s2 m hm hst:=by
  have hst:vf (s1.status.set p 1) m=2:=hst;rw[jR (by rw[h.inv.fX,h.n];exact h.pn)]at hst;split at hst
  . omega
  . exact h.inv.s2 m hm hst
 sd:=h.inv.sd
theorem QG(hI:Inv s)(h:me K C s i p s1)(he:sf s i j){M:Nat}{s3:St}(hA:yn Kk M (eD s1 i p) (dZ s1 i j p 0) true s3)(hL:∀a∈dZ s1 i j p 0,mG Kk (eD s1 i p) a):gT s s3:=by
 refine h.sim.trans ?_;have hp1:p<s1.n:=by rw[h.n];exact h.pn
 obtain⟨e,hek⟩:=hA.kept.kn;have hst:∀m,vf s3.status m=if p=m then 1 else vf s1.status m:=fun m=>by
  rw[hA.kept.status];exact jR (by rw[h.inv.fX];exact hp1)
 have hva:∀m,vf s3.value m=if p=m then(aI s1.known (bD s1 i).pos).b else vf s1.value m:=fun m=>by
  rw[hA.kept.value];exact jR (by rw[h.inv.vl];exact hp1)
 have hfree:vf s1.status p=0:=by rw[h.status];exact h.free
 have hn3:s3.n=s1.n:=hA.kept.n;have hux:∀y i,ux s3 y i=ux s1 y i:=fun y i=>by unfold ux;rw[hA.kept.u,hn3];rfl
 refine⟨hn3,⟨e,hek⟩,⟨[],by rw[hA.kept.dP];simp[eD]⟩,fun m hm hs=>?_,fun y=>⟨y,fun i _=>hux y i,fun _ _ _=>rfl,fun k hk ⟨h1,h2,h3⟩=>?_⟩⟩
 . have hpm:p≠m:=fun e=>hs (by rw[<-e];exact hfree);exact⟨by rw[hst,if_neg hpm],fun _=>by rw[hva,if_neg hpm],fun i _=>by rw[hA.kept.u];rfl⟩
 . obtain⟨_,hcl⟩:=hA.imp rfl y h2;have hyp:y p=(aI s1.known (bD s1 i).pos).b:=by
    have:=h1 p (by rw[hn3];exact hp1) (by rw[hst,if_pos rfl]);rw[hva,if_pos rfl]at this;exact this
   obtain⟨hi,hip⟩:=om h i he.il;obtain⟨hj,hjp⟩:=om h j he.jl;have hbj:(aI s1.known (bD s1 j).pos).b=-(aI s1.known (bD s1 i).pos).b:=by
    have:=he.b;rw[hjp,hip,h.kn];omega
   refine⟨fun m hm hs=>?_,fun x hx=>?_,fun e' he' q hq=>?_⟩
   . have hpm:p≠m:=fun e=>by rw[<-e,hfree]at hs;omega
     have:=h1 m (by rw[hn3];exact hm) (by rw[hst,if_neg hpm];exact hs);rw[hva,if_neg hpm]at this;exact this
   . obtain⟨k',hk',rfl⟩:=nm hx;rw[<-l7 hk'];unfold IH;by_cases e1:k'=i
     . subst e1;rw[qL hp1 fun m hm hmp=>by rw[BJ h he m (by rw[<-h.n];exact hm),if_neg hmp],BJ h he p h.pn,if_pos rfl,hyp];omega
     by_cases e2:k'=j
     . subst e2;rw[qL hp1 fun m hm hmp=>by rw[Es hI h he m (by rw[<-h.n];exact hm),if_neg hmp],Es hI h he p h.pn,if_pos rfl,hyp,hbj];omega
     by_cases hc:vf (bD s1 k').g p=0
     . have:=hcl (.add (bD s1 k')) (Aq hk' (by unfold jD;rw[if_neg (by omega),if_pos hc];simp));exact this
     . have:=hcl _ (Aq (a:=.put ((bD s1 k').g.set p 0) [⟨(bD s1 k').pos,1⟩,if vf (bD s1 k').g p<0 then⟨(bD s1 i).pos,-vf (bD s1 k').g p⟩else⟨(bD s1 j).pos,vf (bD s1 k').g p⟩]) hk' (by unfold jD;rw[if_neg (by omega),if_neg hc];simp));have this:bE (vf ((bD s1 k').g.set p 0)) y s1.n<=1*(aI s1.known (bD s1 k').pos).b+(_+0):=this;rw[QA (h.inv.it _ (gU hk')).2 hp1,hyp]at this;generalize hcv:vf (bD s1 k').g p=c at*;by_cases hneg:c<0
       . rw[if_pos hneg]at this;dsimp only at this;rw[show(eD s1 i p).known=s1.known from rfl,show-c*(aI s1.known (bD s1 i).pos).b=-(c*(aI s1.known (bD s1 i).pos).b) by rw[lM]]at this;omega
       . rw[if_neg hneg]at this;dsimp only at this;rw[show(eD s1 i p).known=s1.known from rfl,hbj,show c*-(aI s1.known (bD s1 i).pos).b=-(c*(aI s1.known (bD s1 i).pos).b) by rw[ns]]at this;omega
   . have h4:=h3 e' (by rw[hA.kept.dP];exact he') q hq;exact(si hn3 hek ((h.inv.sv e' (Gi he')).2.2 q hq) fun i _=>hux y i).1 h4
end
end Go.D
set_option maxHeartbeats 1000000
namespace Go.D
open Go Go.X
theorem A2{l:List Int}{k:Nat}(h:k<l.length):idx l (k:Int)=some (vf l k):=by rw[cU h,mz h]
theorem N6{K C Kk:Nat}{s:St}{i j:Nat}(hI:Inv s)(hs:gr Kk s)(hu:SU K s)(hn:s.n<=4)(he:sf s i j)(hC:∀x∈s.items,∀k,k<s.n->(vf x.g k).natAbs<=C)(hCb:C<=4294967296)(hK8:8<=K)(hK:K+9*(s.n*C)+40<=cY)
 (hkl:s.known.length+s.items.length<=1073741824)(hsl:s.steps.length+s.items.length<=1073741824)(hKk:Kk+6<=1099511627000):
 Tm (fun N=>td N s.to (i:Int) (j:Int)) (fun r=>∃(p:Nat) (s1:St),me K C s i p s1/\r=((bU (eD s1 i p) (dZ s1 i j p 0)).1,(bU (eD s1 i p) (dZ s1 i j p 0)).2.to)):=by
 have hL:cY=1099511627776:=rfl;have hil:=hs.il;unfold td;refine Tm.bind (UK hI hu hn hs.il he.il hC hCb hK8 hK) ?_;rintro _ ⟨p,s1,rfl,hP⟩;obtain⟨hi,hip⟩:=om hP i he.il;obtain⟨hj,hjp⟩:=om hP j he.jl;have hn1:=hP.n;have hlen:=I9 hP;have hp1:p<s1.n:=by rw[hP.n];exact hP.pn
 have hkn:=hP.kn;dsimp only;refine aN (sK hi) (aN (sK hj) ?_);rw[uh hn1.symm];refine aU (sG (hP.inv.it _ (gU hi)).1) ?_;refine aN (A2 (l:=s1.status) (by rw[hP.inv.fX];exact hp1)) (aN (ee (xs:=s1.status) rfl (by rw[hP.inv.fX];exact hp1)) ?_);refine aN (ez (l:=s1.value) (by rw[hP.inv.vl];exact hp1)) (aN (ee (xs:=mB s1.value) rfl (by rw[dJ,hP.inv.vl];exact hp1)) ?_);have hok2:gr (Kk+6) (eD s1 i p):=⟨by show s1.n<=_;omega,by show s1.known.length<=_;rw[hkn];exact hs.kl,by show s1.steps.length<=_;rw[hP.st];exact hs.sl,by simp[eD],fun q hq=>by
  have hq:q∈s1.known:=hq;rw[hkn]at hq;exact⟨(hs.k q hq).1.mono (by omega),by rw[(hs.k q hq).2];exact hn1.symm⟩,fun x hx=>(by cases hx),hKk⟩
 have hLl:=DE (s:=s1) (i:=i) (j:=j) (p:=p) s1.items.length 0 (by omega);have hroom:jk (dZ s1 i j p 0).length (eD s1 i p):=⟨by show s1.known.length+_<=_;rw[hkn];omega,by show s1.steps.length+_<=_;rw[hP.st];omega,by show 0+_<=_;omega⟩;have hA:=Km hI hs hn hCb hP he;have hmi:s1.to.items.length=s1.items.length:=cD ..;refine Tm.bind (Q:=fun r=>(∃s',r=.inl (iJ s')/\bU (eD s1 i p) (dZ s1 i j p 0)=(true,s')/\s'.n=s1.n)\/r=.inr ((bU (eD s1 i p) (dZ s1 i j p 0)).1,(bU (eD s1 i p) (dZ s1 i j p 0)).2.to))
  (ei s1.items.length (fun k t=>∃s' k',iK (Kk+6) (eD s1 i p) (dZ s1 i j p 0) k' s'/\(dZ s1 i j p 0).drop k'=dZ s1 i j p k/\t=(s'.to.known,s'.to.steps,s'.to.u,s'.to.status,s'.to.value,s'.to.items,s'.to.stack,(k:Int))) ⟨eD s1 i p,0,iK.first hok2 hroom,rfl,?_⟩ ?_) ?_
 . show(s1.to.known,s1.to.steps,s1.to.u,s1.status.set p 1,(mB s1.value).set p _,[],s1.to.stack,(0:Int))=_;rw[vE];rfl
 . rintro k hk _ ⟨s',k',hv,hd,rfl⟩;dsimp only[E4];refine aZ (fun hlt=>?_) (fun hge=>aL ?_)
   . have hlt:k<s1.items.length:=by omega
     have hstp:=LK (i:=i) (j:=j) (p:=p) hlt;have hxg:=(hP.inv.it _ (gU hlt)).2;have hcd:dl (vf (bD s1 k).g p)<=4:=AV hn hCb hP (gU hlt) _ (gj (by omega));have hns:s.to.n=s'.to.n:=by show(s.n:Int)=s'.n;rw[hv.n];show(s.n:Int)=s1.n;rw[hn1]
     refine Tm.bind (Q:=fun r=>(∃s'' k'',r=.inl (iJ s'')/\iK (Kk+6) (eD s1 i p) (dZ s1 i j p 0) k'' s''/\(dZ s1 i j p 0).drop k''=dZ s1 i j p (k+1))\/r=.inr ((bU (eD s1 i p) (dZ s1 i j p 0)).1,(bU (eD s1 i p) (dZ s1 i j p 0)).2.to)) (aN (sK hlt) (Tm.bind (Q:=fun c=>c=decide (k=i\/k=j)) (aZ (fun h=>aL ?_) (fun h=>aL ?_)) ?_)) ?_
     . rw[decide_eq_true];omega
     . apply decide_eq_decide.2;omega
     . rintro _ rfl;refine aZ (fun h=>aL (.inl ⟨s',k',rfl,hv,?_⟩)) (fun h=>?_)
       . rw[hd,hstp];unfold jD;rw[if_pos (of_decide_eq_true h)];rfl
       have hne:¬(k=i\/k=j):=fun e=>h (decide_eq_true e);refine aN (ez (l:=(bD s1 k).g) (by omega)) (aU (jv (by omega)) (aZ (fun h0=>?_) (fun h0=>?_)))
       . have h0:vf (bD s1 k).g p=0:=jL fun e=>pJ.2 e h0;have ha:jD s1 i j p k=[.add (bD s1 k)]:=by unfold jD;rw[if_neg hne,if_pos h0]
         rw[ha]at hstp;have hk'l:k'<(dZ s1 i j p 0).length:=by
          rcases cw k' (dZ s1 i j p 0).length with h1|h1
          . exact h1
          . rw[Cf h1,hstp]at hd;cases hd
         rw[fD hk'l,hstp]at hd;obtain⟨hd1,hd2⟩:=vU hd;obtain⟨g1,g2⟩:=hv.add hk'l hd1 (K0:=Kk) (hA _ (Aq hlt (by rw[ha];simp))).1.1;rw[iy (x:=s'.to) hns];refine aU (tE hv.ok g1) (aL (.inl ⟨add s' (bD s1 k),k'+1,rfl,g2,hd2⟩))
       . have h0:vf (bD s1 k).g p≠0:=pJ.1 h0;refine aU (zB (by omega)) (aN (ez (l:=(bD s1 k).g) (by omega)) (aN (ee (xs:=mB (bD s1 k).g) rfl (by rw[dJ];omega)) (aU (jv (by omega)) ?_)));have hset:(mB (bD s1 k).g).set p ⟨false,[]⟩=mB ((bD s1 k).g.set p 0):=by rw[<-vE,B0]
         rw[hset];have ha:jD s1 i j p k=[.put ((bD s1 k).g.set p 0) [⟨(bD s1 k).pos,1⟩,if vf (bD s1 k).g p<0 then⟨(bD s1 i).pos,-vf (bD s1 k).g p⟩else⟨(bD s1 j).pos,vf (bD s1 k).g p⟩]]:=by unfold jD;rw[if_neg hne,if_neg h0]
         refine aU (a:=(if vf (bD s1 k).g p<0 then(⟨(bD s1 i).pos,-vf (bD s1 k).g p⟩:AU)else⟨(bD s1 j).pos,vf (bD s1 k).g p⟩).to) (aZ (fun h1=>?_) (fun h1=>aL ?_)) ?_
         . rw[if_pos (og.1 h1)];exact aU (nX (by omega)) (aL rfl)
         . rw[if_neg fun e=>h1 (og.2 e)];rfl
         rw[ha]at hstp;have hk'l:k'<(dZ s1 i j p 0).length:=by
          rcases cw k' (dZ s1 i j p 0).length with h1|h1
          . exact h1
          . rw[Cf h1,hstp]at hd;cases hd
         rw[fD hk'l,hstp]at hd;obtain⟨hd1,hd2⟩:=vU hd;obtain⟨g1,g2,g3,g4⟩:=hv.put hk'l hd1 (K0:=Kk) (hA _ (Aq hlt (by rw[ha];simp))).1.1 (by omega);refine aU (jU (by decide) (by decide)) ?_;rw[iy (x:=s'.to) hns];refine aU g1 ?_;have hns2:s.to.n=(put s' ((bD s1 k).g.set p 0) [⟨(bD s1 k).pos,1⟩,if vf (bD s1 k).g p<0 then⟨(bD s1 i).pos,-vf (bD s1 k).g p⟩else⟨(bD s1 j).pos,vf (bD s1 k).g p⟩]).2.to.n:=by
          show(s.n:Int)=((put s' _ _).2.n:Int);rw[g4];show(s.n:Int)=s1.n;rw[hn1]
         refine aZ (fun hf=>aL (.inr ?_)) (fun ht=>aL (.inl ⟨_,k'+1,rfl,g2 (by simpa using ht),hd2⟩));dsimp only;rw[iy hns2,g3 (by simpa using hf)]
     . rintro r (⟨s'',k'',rfl,h1,h2⟩|rfl)
       . exact aL ⟨hlt,s'',k'',h1,h2,by rw[dT (by omega)]⟩
       . exact aL (.inr rfl)
   . have:k=s1.items.length:=by omega
     subst this;rw[JC]at hd;refine .inl ⟨s',rfl,?_,hv.n⟩;rw[hv.run,hd];rfl
 . rintro r (⟨s',rfl,h1,h2⟩|rfl)
   . refine aL ⟨p,s1,hP,?_⟩;show(true,aR.mk s.to.n s'.to.known s'.to.steps s'.to.u s'.to.status s'.to.value s'.to.items s'.to.stack)=_;rw[uh (h2.trans hn1).symm,h1]
   . exact aL ⟨p,s1,hP,rfl⟩
theorem DD{K V:Type}[DecidableEq K]{k k':K}{v z:V}:∀{m:List (K×V)},fx (kp m k v) k' z=if k=k' then(v,true)else fx m k' z
 |[]=>by simp only[kp,fx]
 |p::m=>by
  simp only[kp];by_cases e:p.1=k
  . rw[if_pos e];simp only[fx];by_cases e2:k=k'
    . rw[if_pos e2,if_pos e2]
    . rw[if_neg e2,if_neg e2,if_neg (by rw[e];exact e2)]
  . rw[if_neg e];simp only[fx];by_cases e2:p.1=k'
    . rw[if_pos e2];by_cases e3:k=k'
      . exact absurd (e2.trans e3.symm) e
      . rw[if_neg e3,if_pos e2]
    . rw[if_neg e2,DD];by_cases e3:k=k'
      . rw[if_pos e3,if_pos e3]
      . rw[if_neg e3,if_neg e3,if_neg e2]
inductive ui (K:Nat)(s:St):Int×Int×Bool×Bool×aR->Prop where
 |none (h:∀i j,i<s.items.length->j<s.items.length->(∀k,k<s.n->vf (bD s j).g k=-vf (bD s i).g k)->0<(aI s.known (bD s i).pos).b+(aI s.known (bD s j).pos).b):ui K s (0,0,false,true,s.to)
 |some (i j:Nat) (h:sf s i j):ui K s (i,j,true,true,s.to)
 |bad (s':St) (L:List Act) (hL:∀a∈L,mG K s a) (hO:∀a∈L,lJ K s a) (hB:∀a∈L,xo 0 a) (hl:L.length<=1) (hb:bU s L=(false,s')):ui K s (0,0,false,false,s'.to)
theorem wL{n:Nat}:(List.replicate n (0:Int))=vec n fun _=>0:=by
 apply pR (by simp[vec]);intro i h1 h2;simp[vec]
theorem G5:∀m,dh (List.replicate m (0:Int))=0
 |0=>rfl
 |m+1=>by rw[yy];show Int.gcd 0 (dh _:Nat)=0;rw[G5 m];rfl
theorem Ov{Kk:Nat}{s:St}(hI:Inv s)(hKq:∀q∈s.known,fF Kk q){k o:Nat}(hlt:k<s.items.length)(ho:o<s.items.length)(hog:(bD s o).g=bT (bD s k).g)(hlt0:(aI s.known (bD s k).pos).b+(aI s.known (bD s o).pos).b<0):
 mG Kk s (.put (List.replicate s.n 0) [⟨(bD s k).pos,1⟩,⟨(bD s o).pos,1⟩])/\bU s [.put (List.replicate s.n 0) [⟨(bD s k).pos,1⟩,⟨(bD s o).pos,1⟩]]=(false,(put s (List.replicate s.n 0) [⟨(bD s k).pos,1⟩,⟨(bD s o).pos,1⟩]).2):=by
 have hUO:∀m,m<s.items.length->mc s.n Kk s.known ⟨(bD s m).pos,1⟩:=fun m hm=>by
  have h1:=(hI.it _ (gU hm)).1;exact⟨h1,GC 1,bO jF (by decide),hKq _ (eL h1),hI.kl _ (eL h1)⟩
 have hP:gF Kk s (List.replicate s.n 0) [⟨(bD s k).pos,1⟩,⟨(bD s o).pos,1⟩]:=⟨by simp,fun v hv=>by rw[(yB.1 hv).2,ir];omega,by simp,by simp,fun u hu=>by
  rcases eb.1 hu with rfl|hu
  . exact hUO k hlt
  . rw[cP.1 hu];exact hUO o ho⟩
 have hz:∀j,j<s.n->vf (List.replicate s.n (0:Int)) j=0:=fun j hj=>by rw[wL,dH hj]
 have hgc:dh (List.replicate s.n (0:Int))=0:=G5 _;have hdv:dv (List.replicate s.n (0:Int))=1:=by unfold dv;rw[if_pos hgc]
 have hPS:nC s (List.replicate s.n 0) [⟨(bD s k).pos,1⟩,⟨(bD s o).pos,1⟩]:=⟨fun j hj=>by
  rw[hz j hj];have e:Ai s [⟨(bD s k).pos,1⟩,⟨(bD s o).pos,1⟩] j=cu s.u s.n (aI s.known (bD s k).pos).c j+1*cu s.u s.n (aI s.known (bD s o).pos).c j:=zC fun r hr=>by
   rw[dH hr];show 1*_+(1*_+0)=_;dsimp only;omega
  rw[e,<-hI.dp _ (gU hlt) j hj,<-hI.dp _ (gU ho) j hj,hog,iL];omega,fun j hj _=>hz j hj⟩
 have hdok:(put s (List.replicate s.n 0) [⟨(bD s k).pos,1⟩,⟨(bD s o).pos,1⟩]).1=false:=by
  show nc s _ _=false;unfold nc;rw[Js hP,hdv,hgc];have:gk s.known [⟨(bD s k).pos,1⟩,⟨(bD s o).pos,1⟩]=(aI s.known (bD s k).pos).b+(aI s.known (bD s o).pos).b:=by
   show 1*_+(1*_+0)=_;dsimp only;omega
  rw[this];simp;omega
 refine⟨⟨hP,hPS,by rw[hdv];exact bO jF (by decide)⟩,?_⟩;show(if _ then _ else _)=_;rw[if_neg (by rw[hdok];simp)]
theorem RN{K Kk:Nat}{s:St}(hI:Inv s)(hs:gr K s)(hK:Kk+6<=K)(hKq:∀q∈s.known,fF Kk q)(hr:jk 1 s):Tm (fun N=>ud N s.to) (ui Kk s):=by
 have hL:cY=1099511627776:=rfl;have hil:=hs.il;have hKK:=hs.K;have hn:=hs.n;have hmi:s.to.items.length=s.items.length:=cD ..;have hgl:∀k,k<s.items.length->(bD s k).g.length=s.n:=fun k hk=>(hI.it _ (gU hk)).2;have hgd:∀k,k<s.items.length->∀v∈(bD s k).g,dl v<=8:=fun k hk=>(hs.i _ (gU hk)).2.2;have hdis:∀i j,i<s.items.length->j<s.items.length->(bD s i).g=(bD s j).g->i=j:=fun i j hi hj e=>by
  have:=Nh.1 hI.kh;rcases M9 i j with h|h|h
  . exact absurd (by rw[<-l7 hi,<-l7 hj];exact e) (this i j hi hj h)
  . exact h
  . exact absurd (by rw[<-l7 hi,<-l7 hj];exact e.symm) (this j i hj hi h)
 unfold ud;refine Tm.bind (Q:=fun m=>(∀k,k<s.items.length->fx m (keyOf (bD s k).g) (0:Int)=((k:Int),true))/\∀t:List UInt8,(∀k,k<s.items.length->keyOf (bD s k).g≠t)->fx m t (0:Int)=(0,false)) (ei s.items.length (fun k t=>t.2=(k:Int)/\(∀j,j<k->fx t.1 (keyOf (bD s j).g) (0:Int)=((j:Int),true))/\∀u:List UInt8,(∀j,j<k->keyOf (bD s j).g≠u)->fx t.1 u (0:Int)=(0,false)) ⟨rfl,fun j hj=>by omega,fun u _=>rfl⟩ ?_) ?_
 . rintro k hk ⟨m,i⟩ ⟨rfl,h1,h2⟩;dsimp only at h1 h2;dsimp only[DI];refine aZ (fun hlt=>?_) (fun hge=>aL ?_)
   . have hlt:k<s.items.length:=by omega
     refine aN (sK hlt) (aU (Ju (g:=(bD s k).g) (by rw[hgl k hlt];omega) (fun v hv=>bO (hgd k hlt v hv) (by decide))) (aL ⟨hlt,dT (by omega),fun j hj=>?_,fun u hu=>?_⟩))
     . dsimp only;rw[DD];by_cases e:k=j
       . subst e;rw[if_pos rfl]
       . rw[if_neg,h1 j (by omega)];intro e2;exact e (hdis k j hlt (by omega) (I5 (by rw[hgl k hlt,hgl j (by omega)]) e2))
     . dsimp only;rw[DD,if_neg (hu k (by omega)),h2 u fun j hj=>hu j (by omega)]
   . have:k=s.items.length:=by omega
     subst this;exact⟨h1,h2⟩
 rintro m ⟨m1,m2⟩;dsimp only;have hopp:∀k,k<s.items.length->(∃o,o<s.items.length/\(bD s o).g=bT (bD s k).g/\fx m (keyOf (bT (bD s k).g)) (0:Int)=((o:Int),true))\/((∀o,o<s.items.length->(bD s o).g≠bT (bD s k).g)/\fx m (keyOf (bT (bD s k).g)) (0:Int)=(0,false)):=fun k hk=>by
  by_cases h:∃o,o<s.items.length/\(bD s o).g=bT (bD s k).g
  . obtain⟨o,ho,he⟩:=h;exact .inl ⟨o,ho,he,by rw[<-he];exact m1 o ho⟩
  . have h':∀o,o<s.items.length->(bD s o).g≠bT (bD s k).g:=fun o ho e=>h ⟨o,ho,e⟩;refine .inr ⟨h',m2 _ fun o ho e=>h' o ho (I5 (by rw[hgl o ho,jd,hgl k hk]) e)⟩
 have hbd:∀k,k<s.items.length->dl (aI s.known (bD s k).pos).b<=Kk:=fun k hk=>(hKq _ (eL (hI.it _ (gU hk)).1)).2;refine Tm.bind (Q:=fun r=>(r=.inl ()/\∀k o,k<s.items.length->o<s.items.length->k<=o->(bD s o).g=bT (bD s k).g->0<(aI s.known (bD s k).pos).b+(aI s.known (bD s o).pos).b)\/∃z,r=.inr z/\ui Kk s z)
  (ei s.items.length (fun k t=>t=(k:Int)/\∀k' o,k'<k->o<s.items.length->k'<=o->(bD s o).g=bT (bD s k').g->0<(aI s.known (bD s k').pos).b+(aI s.known (bD s o).pos).b) ⟨rfl,fun k' o h=>by omega⟩ ?_) ?_
 . rintro k hk _ ⟨rfl,hp⟩;dsimp only[EU];refine aZ (fun hlt=>?_) (fun hge=>aL (.inl ⟨rfl,fun k' o h1=>hp k' o (by omega)⟩));have hlt:k<s.items.length:=by omega
   have hng:∀v∈bT (bD s k).g,dl v<=8:=fun v hv=>by rw[<-fY];exact hgd k hlt _ (Ek hv)
   refine Tm.bind (Q:=fun r=>(r=.inl ()/\∀o,o<s.items.length->k<=o->(bD s o).g=bT (bD s k).g->0<(aI s.known (bD s k).pos).b+(aI s.known (bD s o).pos).b)\/∃z,r=.inr z/\ui Kk s z)
    (aN (sK hlt) (aU (rJ (l:=(bD s k).g) (K:=8) (by omega) (by rw[hgl k hlt];omega) (hgd k hlt)) (aU (Ju (g:=bT (bD s k).g) (by rw[jd,hgl k hlt];omega) (fun v hv=>bO (hng v hv) (by decide))) ?_))) ?_
   . rcases hopp k hlt with⟨o,ho,hog,hom⟩|⟨hno,hom⟩
     . rw[hom];dsimp only;refine Tm.bind (Q:=fun c=>c=decide ((o:Int)<(k:Int))) (cC (by simp) (aL rfl)) ?_;rintro _ rfl;refine aZ (fun hlt'=>aL (.inl ⟨rfl,fun o' ho' hko hg=>?_⟩)) (fun hlt'=>?_)
       . have:o'=o:=hdis o' o ho' ho (hg.trans hog.symm);have:=of_decide_eq_true hlt';omega
       . have hko:k<=o:=by
          have:¬((o:Int)<(k:Int)):=fun e=>hlt' (decide_eq_true e);omega
         have b1:=hbd k hlt;have b2:=hbd o ho;refine aU (sG (hI.it _ (gU hlt)).1) (aN (sK ho) (aU (sG (hI.it _ (gU ho)).1) (aU (mN (by omega) (by omega)) (aU (jv (bO (oD b1 b2) (by omega))) ?_))));refine aZ (fun hs1=>?_) (fun hs1=>aZ (fun hs2=>aL (.inr ⟨_,rfl,?_⟩)) (fun hs2=>aL (.inl ⟨rfl,fun o' ho' _ hg=>?_⟩)))
         . 
           have hlt0:(aI s.known (bD s k).pos).b+(aI s.known (bD s o).pos).b<0:=og.1 (by omega);obtain⟨hP,hb⟩:=Ov hI hKq hlt ho hog hlt0;refine aN (ik (n:=s.n) rfl (by omega) (by decide)) (aU (jU (by decide) (by decide)) (aN (sK ho) (aU (jU (by decide) (by decide)) ?_)));rw[<-oy];have hput:=Kt hs hP.1 hK hr;refine aU hput (aL (.inr ⟨_,rfl,?_⟩));dsimp only;rw[iy (by show(s.n:Int)=((put s _ _).2.n:Int);rw[zH])];exact .bad _ [.put (List.replicate s.n 0) [⟨(bD s k).pos,1⟩,⟨(bD s o).pos,1⟩]] (fun a ha=>by rw[cP.1 ha];exact hP) (fun a ha=>by rw[cP.1 ha];exact hP.1) (fun a ha=>by rw[cP.1 ha];exact fun v hv=>by rw[(yB.1 hv).2];simp) (by simp) hb
         . refine .some k o ⟨hlt,ho,fun e=>?_,fun m hm=>by rw[hog,iL],?_⟩
           . subst e;have h1:=hI.gD _ (gU hlt);have h2:(2:Int)∣((dh (bD s k).g:Nat):Int):=oA fun v hv=>by
              obtain⟨m,hm,rfl⟩:=gE hv;have:=congrArg (fun l=>vf l m) hog;simp only[iL]at this;have:vf (bD s k).g m=0:=by omega
              rw[this];exact yG 2
             rw[h1]at h2;omega
           . exact jL fun e=>pJ.2 e hs2
         . have:o'=o:=hdis o' o ho' ho (hg.trans hog.symm);subst this;revert hs1 hs2;unfold bM;(repeat' split)<;>omega
     . rw[hom];refine Tm.bind (Q:=fun c=>c=true) (cL (by simp) (aL rfl)) ?_;rintro _ rfl;exact cL rfl (aL (.inl ⟨rfl,fun o ho _ hg=>absurd hg (hno o ho)⟩))
   . rintro r (⟨rfl,h⟩|⟨z,rfl,hz⟩)
     . refine aL ⟨hlt,dT (by omega),fun k' o h1 h2 h3 h4=>?_⟩;rcases cw k' k with h5|h5
       . exact hp k' o h5 h2 h3 h4
       . obtain rfl:k'=k:=by omega
         exact h o h2 h3 h4
     . exact aL (.inr ⟨z,rfl,hz⟩)
 . rintro r (⟨rfl,h⟩|⟨z,rfl,hz⟩)
   . refine aL (.none fun i j hi hj hg=>?_);have hg1:(bD s j).g=bT (bD s i).g:=lr (by rw[jd,hgl i hi,hgl j hj]) fun k hk=>by rw[iL];exact hg k (by rw[hgl j hj]at hk;exact hk)
     rcases Nat.le_total i j with h1|h1
     . exact h i j hi hj h1 hg1
     . have:=h j i hj hi h1 (by rw[hg1,EG]);omega
   . exact aL hz
open Go Go.X
def EE(N:Nat)(s:aR)(v:Int):((List aY)×(List aY)×Int)->Option (aK ((List aY)×(List aY)×Int) ((List aY)×(List aY)))
 |(a,b,c)=>(if(c:Int)<(List.length s.items:Int)then ((((idx s.items c).bind fun d=>(idx d.g v).bind fun f=>(gJ N f).bind fun e=>(if(e:Int)=1 then (cM 32 a [d]).bind fun i=>some (i,b) else (if(e:Int)=(-1)then (cM 32 b [d]).bind fun j=>some (a,j) else some (a,b)))):Option ((List aY)×(List aY)))).bind fun ss=>match ss with
    |(k,l)=>some (aK.next (k,l,(iw (c+1)))) else some (aK.done (a,b)))
def rS(N:Nat)(s:aR)(v:Int):Option ((List aY)×(List aY)):=(bI (EE N s v) N (([]:(List aY)),([]:(List aY)),0)).bind fun ss=>match ss with
  |(a,b)=>some (a,b)
def KX(N:Nat)(s:aR)(v:Int):((List aY)×(List aY)×Int)->Option (aK ((List aY)×(List aY)×Int) ((List aY)×(List aY)))
 |(a,b,c)=>(if(c:Int)<(List.length s.items:Int)then ((((idx s.items c).bind fun d=>(idx d.g v).bind fun f=>(gJ N f).bind fun e=>(if(e:Int)=1 then (cM 32 a [d]).bind fun i=>some (i,b) else (if(e:Int)=(-1)then (cM 32 b [d]).bind fun j=>some (a,j) else some (a,b)))):Option ((List aY)×(List aY)))).bind fun ss=>match ss with
    |(k,l)=>some (aK.next (k,l,(iw (c+1)))) else some (aK.done (a,b)))
def sy(N:Nat)(s:aR)(v:Int):Option ((List aY)×(List aY)):=(bI (KX N s v) N (([]:(List aY)),([]:(List aY)),0)).bind fun ss=>match ss with
  |(a,b)=>some (a,b)
def D2(N:Nat)(v:Int)(r1:((List aY)×(List aY))):(aB×Int)->Option (aK (aB×Int) aB)
 |(a,b)=>(if(b:Int)<(List.length r1.2:Int)then ((((idx r1.2 b).bind fun d=>(ox N v d r1.1).bind fun c=>(gJ N c).bind fun e=>(if(e:Int)≥0 then (fN N 1000).bind fun f=>(iT N c f).bind fun g=>(km N a g).bind fun i=>some i else some a)):Option aB)).bind fun ss=>match ss with
    |j=>some (aK.next (j,(iw (b+1)))) else some (aK.done a))
def xK(N:Nat)(s:aR)(v:Int):Option (aB×Bool):=(rS N s v).bind fun r1=>(if((iw ((List.length r1.1:Int)+(List.length r1.2:Int))):Int)=0 then some ((aB.mk false ([]:(List Int))),false) else ((((if((List.length r1.1:Int):Int)=0 then some true else some (decide (((List.length r1.2:Int):Int)=0)))):Option Bool)).bind fun ss=>match ss with
   |x7=>(if x7=true then some ((aB.mk false ([]:(List Int))),true) else (fN N (iw ((List.length r1.1:Int)*(List.length r1.2:Int)))).bind fun a=>(bI (D2 N v r1) N (a,0)).bind fun ss=>match ss with
      |b=>some (b,true)))
def Eb(N:Nat)(s:aR):(Int×Bool×aB×Int)->Option (aK (Int×Bool×aB×Int) (Int×Bool))
 |(c,b,d,a)=>(if(a:Int)<s.n then ((((idx s.status a).bind fun f=>(if(f:Int)≠0 then some (c,b,d) else (xK N s a).bind fun e=>((((if e.2=true then (if(!b)=true then some true else (iN N e.1 d).bind fun g=>some (decide ((g:Int)<0))) else some false)):Option Bool)).bind fun ss=>match ss with
     |i=>(if i=true then some (a,true,e.1) else some (c,b,d)))):Option (Int×Bool×aB))).bind fun ss=>match ss with
    |(j,k,l)=>some (aK.next (j,k,l,(iw (a+1)))) else some (aK.done (c,b)))
def uI(N:Nat)(s:aR):Option (Int×Bool):=(bI (Eb N s) N (0,false,(aB.mk false ([]:(List Int))),0)).bind fun ss=>match ss with
  |(a,b)=>some (a,b)
def uA(N:Nat)(s:aR)(v:Int):Option Bool:=(rS N s v).bind fun r1=>(if((List.length r1.1:Int):Int)=0 then some true else (BQ N r1.2 (fun y0=>uO N y0 v r1.1)).bind fun r5=>some (!r5))
def Dw(N:Nat)(r2:(List aY)):((List Int)×Int)->Option (aK ((List Int)×Int) (List Int))
 |(b,a)=>(if(a:Int)<(List.length r2:Int)then (idx r2 a).bind fun c=>(cM 8 b [c.pos]).bind fun d=>some (aK.next (d,(iw (a+1)))) else some (aK.done b))
def A8(N:Nat)(c:(List aB))(d:aY)(e:aB)(f:aY)(i:aB):((List aB)×Int)->Option (aK ((List aB)×Int) (List aB))
 |(b,a)=>(if(a:Int)<(List.length c:Int)then (idx d.g a).bind fun j=>(km N e j).bind fun k=>(idx f.g a).bind fun l=>(km N i l).bind fun m=>(iT N k m).bind fun n=>(idx b a).bind fun p=>(dw b a n).bind fun o=>some (aK.next (o,(iw (a+1)))) else some (aK.done b))
def DW(N:Nat)(s:aR)(v:Int)(r1:((List aY)×(List aY)))(b:aY):((List bB)×(List Step)×(List (List aB))×(List Int)×(List aB)×(List aY)×(List dK)×Int)->Option (aK ((List bB)×(List Step)×(List (List aB))×(List Int)×(List aB)×(List aY)×(List dK)×Int) (Sum ((List bB)×(List Step)×(List (List aB))×(List Int)×(List aB)×(List aY)×(List dK)) (Bool×aR)))
 |(e,f,i,j,k,l,m,c)=>(if(c:Int)<(List.length r1.2:Int)then (idx r1.2 c).bind fun d=>(idx b.g v).bind fun o=>(idx d.g v).bind fun a0=>(jq N a0).bind fun p=>(gg (α:=aB) 32 (aB.mk false ([]:(List Int))) s.n).bind fun y=>(bI (A8 N y b p d o) N (y,0)).bind fun ss=>match ss with
    |a1=>(mY N (aR.mk s.n e f i j k l m) a1 [(dR.mk b.pos p),(dR.mk d.pos o)]).bind fun a=>(if(!a.1)=true then some (aK.done (Sum.inr (false,(aR.mk s.n a.2.known a.2.steps a.2.u a.2.status a.2.value a.2.items a.2.stack)))) else some (aK.next (a.2.known,a.2.steps,a.2.u,a.2.status,a.2.value,a.2.items,a.2.stack,(iw (c+1))))) else some (aK.done (Sum.inl (e,f,i,j,k,l,m))))
def FG(N:Nat)(s:aR)(v:Int)(r1:((List aY)×(List aY))):((List bB)×(List Step)×(List (List aB))×(List Int)×(List aB)×(List aY)×(List dK)×Int)->Option (aK ((List bB)×(List Step)×(List (List aB))×(List Int)×(List aB)×(List aY)×(List dK)×Int) (Sum ((List bB)×(List Step)×(List (List aB))×(List Int)×(List aB)×(List aY)×(List dK)) (Bool×aR)))
 |(b,c,d,e,f,g,i,a)=>(if(a:Int)<(List.length r1.1:Int)then (idx r1.1 a).bind fun j=>(bI (DW N s v r1 j) N (b,c,d,e,f,g,i,0)).bind fun ss=>match ss with
    |(Sum.inl (k,l,m,n,o,p,u))=>some (aK.next (k,l,m,n,o,p,u,(iw (a+1))))
    |(Sum.inr z)=>some (aK.done (Sum.inr z)) else some (aK.done (Sum.inl (b,c,d,e,f,g,i))))
def n5(N:Nat)(s:aR)(v:Int)(dD:Bool):Option (Bool×aR):=(rS N s v).bind fun r1=>(tU N [r1.1,r1.2]).bind fun r2=>(bI (Dw N r2) N (([]:(List Int)),0)).bind fun ss=>match ss with
  |a=>(cM 40 s.stack [(dK.mk v a dD)]).bind fun b=>(idx s.status v).bind fun o=>(dw s.status v 2).bind fun c=>(qI N s.items).bind fun d=>(yi N d (fun y0=>vu N y0 v)).bind fun e=>(bI (FG N s v r1) N (s.known,s.steps,s.u,c,s.value,e,b,0)).bind fun ss=>match ss with
    |(Sum.inl (f,g,i,j,k,l,m))=>some (true,(aR.mk s.n f g i j k l m))
    |(Sum.inr z)=>some z
def D4(N:Nat)(s:aR)(j:Int)(x1:bB):(aB×Int)->Option (aK (aB×Int) aB)
 |(b,a)=>(if(a:Int)<(List.length x1.aT:Int)then (idx x1.aT a).bind fun c=>(idx s.u a).bind fun d=>(idx d j).bind fun e=>(km N c e).bind fun f=>(iT N b f).bind fun g=>some (aK.next (g,(iw (a+1)))) else some (aK.done b))
def vJ(N:Nat)(s:aR)(vat1:Int)(j:Int):Option aB:=(idx s.known vat1).bind fun x1=>(bI (D4 N s j x1) N ((aB.mk false ([]:(List Int))),0)).bind fun ss=>match ss with
  |a=>some a
def zx(N:Nat)(s:aR)(e:dK)(y:(List aB))(c:Int):(aB×Int)->Option (aK (aB×Int) aB)
 |(b,a)=>(if(a:Int)<(List.length y:Int)then ((((if(a:Int)≠e.v then (vJ N s c a).bind fun d=>(idx y a).bind fun f=>(km N d f).bind fun g=>(jc N b g).bind fun i=>some i else some b)):Option aB)).bind fun ss=>match ss with
    |j=>some (aK.next (j,(iw (a+1)))) else some (aK.done b))
def CO(N:Nat)(s:aR)(e:dK)(y:(List aB)):(aB×aB×Bool×Bool×Int)->Option (aK (aB×aB×Bool×Bool×Int) (aB×aB×Bool×Bool))
 |(a,b,c,d,f)=>(if(f:Int)<(List.length e.items:Int)then ((((idx e.items f).bind fun g=>(idx s.known g).bind fun m=>(bI (zx N s e y g) N (m.dA,0)).bind fun ss=>match ss with
    |j=>(vJ N s g e.v).bind fun i=>(gJ N i).bind fun n=>(if(n:Int)>0 then (kG N j i).bind fun k=>((((if(!d)=true then some true else (iN N k.1 b).bind fun o=>some (decide ((o:Int)<0)))):Option Bool)).bind fun ss=>match ss with
       |p=>(if p=true then some (a,k.1,c,true) else some (a,b,c,d)) else (jq N i).bind fun u=>(kG N j u).bind fun a0=>(jq N a0.1).bind fun l=>((((if(!c)=true then some true else (iN N l a).bind fun a1=>some (decide ((a1:Int)>0)))):Option Bool)).bind fun ss=>match ss with
       |a2=>(if a2=true then some (l,b,true,d) else some (a,b,c,d)))):Option (aB×aB×Bool×Bool))).bind fun ss=>match ss with
    |(a3,a4,a5,a6)=>some (aK.next (a3,a4,a5,a6,(iw (f+1)))) else some (aK.done (a,b,c,d)))
def nA(N:Nat)(s:aR)(e:dK)(y:(List aB)):Option (aB×Bool):=(bI (CO N s e y) N ((aB.mk false ([]:(List Int))),(aB.mk false ([]:(List Int))),false,false,0)).bind fun ss=>match ss with
  |(a,b,c,d)=>(if(!c)=true then some (b,true) else (if(!d)=true then some (a,true) else (iN N a b).bind fun f=>some (a,(decide ((f:Int)<=0)))))
def jG(N:Nat)(s:aR):Option bX:= some (bX.mk 1 ([]:(List aB)) (Proof.mk s.steps ([]:(List aB)) (aB.mk false ([]:(List Int))) ([]:(List Proof))) 0)
def CH(N:Nat)(n:Int):((List (List aB))×Int)->Option (aK ((List (List aB))×Int) (List (List aB)))
 |(b,a)=>(if(a:Int)<n then (gg (α:=aB) 32 (aB.mk false ([]:(List Int))) n).bind fun c=>(fN N 1).bind fun d=>(idx c a).bind fun g=>(dw c a d).bind fun e=>(cM 24 b [e]).bind fun f=>some (aK.next (f,(iw (a+1)))) else some (aK.done b))
def yb(N:Nat)(n:Int)(system:(List bB)):Option aR:=(yP N system).bind fun r1=>(gg (α:=Int) 8 0 n).bind fun x2=>(gg (α:=aB) 32 (aB.mk false ([]:(List Int))) n).bind fun x3=>(bI (CH N n) N (([]:(List (List aB))),0)).bind fun ss=>match ss with
  |a=>some (aR.mk n r1 ([]:(List Step)) a x2 x3 ([]:(List aY)) ([]:(List dK)))
def qQ(N:Nat)(s:aR):Option aR:=(AW N s.known).bind fun r1=>(DY N s.steps).bind fun r2=>(AO N s.u).bind fun r3=>(zU N s.status).bind fun r4=>(nT N s.value).bind fun r5=>(qI N s.items).bind fun r6=>(Fq N s.stack).bind fun r7=>some (aR.mk s.n r1 r2 r3 r4 r5 r6 r7)
def ng(N:Nat)(s:aR)(q:bB):Option aR:=(qQ N s).bind fun r1=>(cM 56 r1.known [q]).bind fun x2=>some (aR.mk r1.n x2 ([]:(List Step)) r1.u r1.status r1.value r1.items r1.stack)
def qO(N:Nat)(s:aR)(form:(List aB))(bound:aB)(left:bX)(right:bX):Option bX:= some (bX.mk 1 ([]:(List aB)) (Proof.mk s.steps form bound [left.proof,right.proof]) 0)
def Ei(N:Nat)(v:Int)(r1:((List aY)×(List aY))):(aB×Int)->Option (aK (aB×Int) aB)
 |(a,b)=>(if(b:Int)<(List.length r1.2:Int)then ((((idx r1.2 b).bind fun d=>(ox N v d r1.1).bind fun c=>(gJ N c).bind fun e=>(if(e:Int)≥0 then (fN N 1).bind fun f=>(iT N c f).bind fun g=>(iT N a g).bind fun i=>some i else some a)):Option aB)).bind fun ss=>match ss with
    |j=>some (aK.next (j,(iw (b+1)))) else some (aK.done a))
def wy(N:Nat)(s:aR)(v:Int):Option aB:=(sy N s v).bind fun r1=>(bI (Ei N v r1) N ((aB.mk false ([]:(List Int))),0)).bind fun ss=>match ss with
  |a=>some a
def El(N:Nat)(s:aR)(e:(Int×Bool))(f:aY):(gQ×Bool×Int)->Option (aK (gQ×Bool×Int) (gQ×Bool))
 |(a,b,c)=>(if(c:Int)<(List.length s.items:Int)then ((((idx s.items c).bind fun d=>(uH N d).bind fun i=>((((if(!i.2)=true then some true else (if(i.1:Int)≠e.1 then some true else (idx d.g e.1).bind fun l=>(gJ N l).bind fun m=>some (decide ((m:Int)>0))))):Option Bool)).bind fun ss=>match ss with
    |n=>(if n=true then some (a,b) else (xf N s d).bind fun o=>(jq N o).bind fun j=>(xf N s f).bind fun k=>((((if(!b)=true then some true else (jc N k j).bind fun p=>(jc N a.high a.low).bind fun u=>(iN N p u).bind fun v=>some (decide ((v:Int)<0)))):Option Bool)).bind fun ss=>match ss with
       |y=>(if y=true then some ((gQ.mk f j k),true) else some (a,b)))):Option (gQ×Bool))).bind fun ss=>match ss with
    |(a0,a1)=>some (aK.next (a0,a1,(iw (c+1)))) else some (aK.done (a,b)))
def DN(N:Nat)(s:aR):(gQ×Bool×Int)->Option (aK (gQ×Bool×Int) (gQ×Bool))
 |(a,b,c)=>(if(c:Int)<(List.length s.items:Int)then ((((idx s.items c).bind fun d=>(uH N d).bind fun e=>((((if(!e.2)=true then some true else (idx d.g e.1).bind fun f=>(gJ N f).bind fun i=>some (decide ((i:Int)<0)))):Option Bool)).bind fun ss=>match ss with
    |j=>(if j=true then some (a,b) else (bI (El N s e d) N (a,b,0)).bind fun ss=>match ss with
       |(k,l)=>some (k,l))):Option (gQ×Bool))).bind fun ss=>match ss with
    |(m,n)=>some (aK.next (m,n,(iw (c+1)))) else some (aK.done (a,b)))
def wg(N:Nat)(s:aR):Option (gQ×Bool):=(bI (DN N s) N ((gQ.mk (aY.mk 0 ([]:(List aB))) (aB.mk false ([]:(List Int))) (aB.mk false ([]:(List Int)))),false,0)).bind fun ss=>match ss with
  |(a,b)=>some (a,b)
end Go.D
set_option maxHeartbeats 1000000
namespace Go.D
open Go Go.X
def cz(v:Nat)(l:List AI):List AI:=l.filter fun x=>decide (0<vf x.g v)
def du(v:Nat)(l:List AI):List AI:=l.filter fun x=>decide (vf x.g v<0)
theorem j7{v:Nat}{l:List AI}{x:AI}:x∈cz v l↔x∈l/\0<vf x.g v:=by simp[cz]
theorem im{v:Nat}{l:List AI}{x:AI}:x∈du v l↔x∈l/\vf x.g v<0:=by simp[du]
def mI(l:List AI):List aY:=l.map AI.to
theorem fh(l:List AI):(mI l).length=l.length:=cD ..
theorem oL{l:List AI}{k:Nat}(h:k<l.length):idx (mI l) (k:Int)=some (l[k]).to:=by
 unfold mI;rw[cU (by simpa using h),ky]
def iD(n:Nat)(l:List AI):Prop:=l.length<=1073741824/\∀x∈l,x.g.length=n/\∀w∈x.g,dl w<=8
theorem iD.vf{n:Nat}{l:List AI}(h:iD n l){x:AI}(hx:x∈l)(v:Nat):dl (vf x.g v)<=8:=jT.vf ⟨(h.2 x hx).1,(h.2 x hx).2⟩ v
theorem iD.sub{n:Nat}{l m:List AI}(h:iD n l)(hl:m.length<=l.length)(hm:∀x∈m,x∈l):iD n m:=⟨by have:=h.1;omega,fun x hx=>h.2 x (hm x hx)⟩
theorem oG{n v:Nat}{l:List AI}(h:iD n l):iD n (cz v l):=h.sub (tp ..) fun x hx=>(j7.1 hx).1
theorem xY{n v:Nat}{l:List AI}(h:iD n l):iD n (du v l):=h.sub (tp ..) fun x hx=>(im.1 hx).1
theorem Jd{a:Int}:bM a 0=1↔0<a:=by unfold bM;(repeat' split)<;>omega
theorem Lp{a:Int}:bM a 0=-1↔a<0:=by unfold bM;(repeat' split)<;>omega
theorem Np{a:Int}:bM a 0≥0↔0<=a:=by unfold bM;(repeat' split)<;>omega
theorem Oy{v:Nat}{l:List AI}{k:Nat}(h:k<l.length):cz v (l.take (k+1))=cz v (l.take k)++(if 0<vf (l[k]).g v then[l[k]]else[]):=by
 unfold cz;rw[<-jh h,Cm];congr 1;by_cases e:0<vf (l[k]).g v<;>simp[e]
theorem TK{v:Nat}{l:List AI}{k:Nat}(h:k<l.length):du v (l.take (k+1))=du v (l.take k)++(if vf (l[k]).g v<0 then[l[k]]else[]):=by
 unfold du;rw[<-jh h,Cm];congr 1;by_cases e:vf (l[k]).g v<0<;>simp[e]
theorem zF{s:St}{v:Nat}(hi:iD s.n s.items)(hv:v<s.n):Tm (fun N=>rS N s.to (v:Int)) (·=(mI (cz v s.items),mI (du v s.items))):=by
 have hl:=hi.1;have hmi:s.to.items.length=s.items.length:=cD ..;unfold rS;refine aU (a:=(mI (cz v s.items),mI (du v s.items))) (ei s.items.length (fun k t=>t=(mI (cz v (s.items.take k)),mI (du v (s.items.take k)),(k:Int))) rfl ?_) (aL rfl);rintro k hk _ rfl;dsimp only[EE];refine aZ (fun hlt=>?_) (fun hge=>aL ?_)
 . have hlt:k<s.items.length:=by omega
   have hm:=cX hlt;have hd:=hi.vf hm v;have lu:(cz v (s.items.take k)).length<=k:=bO (tp ..) (by rw[eQ];omega);have ll:(du v (s.items.take k)).length<=k:=bO (tp ..) (by rw[eQ];omega);refine aU (a:=(mI (cz v (s.items.take (k+1))),mI (du v (s.items.take (k+1))))) ?_ (aL ⟨hlt,by rw[dT (by omega)]⟩);rw[Oy hlt,TK hlt];refine aN (a:=(s.items[k]).to) (by show idx (mI s.items) _=_;exact oL hlt) (aN (ez (l:=(s.items[k]).g) (by rw[(hi.2 _ hm).1];exact hv)) (aU (jv (bO hd (by decide))) ?_));refine aZ (fun h1=>?_) (fun h1=>aZ (fun h2=>?_) (fun h2=>aL ?_))
   . have h1:=Jd.1 h1;refine aN (dN (by rw[fh];simp only[cv,dM];omega) (by decide)) (aL ?_);rw[if_pos h1,if_neg (by omega)];simp[mI]
   . have h2:=Lp.1 h2;refine aN (dN (by rw[fh];simp only[cv,dM];omega) (by decide)) (aL ?_);rw[if_pos h2,if_neg (by omega)];simp[mI]
   . rw[if_neg fun e=>h1 (Jd.2 e),if_neg fun e=>h2 (Lp.2 e)];simp[mI]
 . show _=_;rw[eU (by omega)]
theorem wJ{s:St}{v:Nat}(hi:iD s.n s.items)(hv:v<s.n):Tm (fun N=>sy N s.to (v:Int)) (·=(mI (cz v s.items),mI (du v s.items))):=zF hi hv
def ko(v:Nat)(l:List AI)(a:Int):Int:=l.foldl (fun a y=>if a<vf y.g v then vf y.g v else a) a
theorem K5{v:Nat}:∀{l:List AI} {a:Int},a<=ko v l a/\∀x∈l,vf x.g v<=ko v l a
 |[],a=>⟨nk _,fun x hx=>by cases hx⟩
 |y::l,a=>by
  obtain⟨h1,h2⟩:=K5 (v:=v) (l:=l) (a:=if a<vf y.g v then vf y.g v else a);refine⟨?_,fun x hx=>?_⟩
  . show a<=ko v l _;split at h1<;>rename_i h<;>simp only[h,if_true,if_false]<;>omega
  . rcases eb.1 hx with rfl|hx
    . show _<=ko v l _;split at h1<;>rename_i h<;>simp only[h,if_true,if_false]<;>omega
    . exact h2 x hx
theorem EY{v:Nat}:∀{l:List AI} {a:Int},ko v l a=a\/∃x∈l,ko v l a=vf x.g v
 |[],a=>.inl rfl
 |y::l,a=>by
  have e:ko v (y::l) a=ko v l (if a<vf y.g v then vf y.g v else a):=rfl;rw[e];rcases EY (v:=v) (l:=l) (a:=if a<vf y.g v then vf y.g v else a)with h|⟨x,hx,h⟩
  . rw[h];split
    . exact .inr ⟨y,cO,rfl⟩
    . exact .inl rfl
  . exact .inr ⟨x,cJ _ hx,h⟩
def dY(v:Nat)(l:List AI):Int:=ko v l (vf (l.headD ⟨0,[]⟩).g v)
theorem Kw{v:Nat}{l:List AI}:∀x∈l,vf x.g v<=dY v l:=K5.2
theorem DG{v:Nat}{l:List AI}(h:l≠[]):∃x∈l,dY v l=vf x.g v:=by
 cases l with
 |nil=>exact absurd rfl h
 |cons y r=>
  rcases EY (v:=v) (l:=y::r) (a:=vf y.g v)with h|h
  . exact⟨y,cO,h⟩
  . exact h
def gM(v:Nat)(low:AI)(bR:List AI):Int:=(dY v bR*-vf low.g v-dY v bR- -vf low.g v).fdiv (dY v bR)
theorem yf{n v:Nat}{low:AI}{bR:List AI}(h:iD n bR)(h0:bR≠[])(hl:dl (vf low.g v)<=8):dl (gM v low bR)<=18:=by
 obtain⟨x,hx,e⟩:=DG (v:=v) h0;have h1:=h.vf hx v;rw[<-e]at h1;have h2:=kr (dY v bR) (-vf low.g v);rw[fY]at h2;have h3:=jX (K:=16) (a:=dY v bR*-vf low.g v) (b:=dY v bR) (by omega) (by omega);have h4:=jX (K:=17) (a:=dY v bR*-vf low.g v-dY v bR) (b:=-vf low.g v) (by omega) (by rw[fY];omega);exact bO (re _ _) (by omega)
theorem wh{n v:Nat}{low:AI}{bR:List AI}(h:iD n bR)(h0:bR≠[])(hll:low.g.length=n)(hl:dl (vf low.g v)<=8)(hv:v<n):Tm (fun N=>ox N (v:Int) low.to (mI bR)) (·=B (gM v low bR)):=by
 have hL:cY=1099511627776:=rfl;have hul:=h.1;have hlen:0<bR.length:=qV.2 h0;obtain⟨u0,r,hur⟩:∃u r,bR=u::r:=by
  cases bR with
  |nil=>exact absurd rfl h0
  |cons u r=>exact⟨u,r,rfl⟩
 have hmem0:u0∈bR:=by rw[hur];exact cO
 have hdl:∀k,dl (ko v (bR.take k) (vf u0.g v))<=8:=fun k=>by
  rcases EY (v:=v) (l:=bR.take k) (a:=vf u0.g v)with e|⟨x,hx,e⟩
  . rw[e];exact h.vf hmem0 v
  . rw[e];exact h.vf (tk hx) v
 unfold ox;refine aN (a:=u0.to) (by rw[hur];rfl) (aN (ez (l:=u0.g) (by rw[(h.2 _ hmem0).1];exact hv)) ?_);refine aU (a:=B (dY v bR)) (ei bR.length (fun k t=>t=(B (ko v (bR.take k) (vf u0.g v)),(k:Int))) rfl ?_) ?_
 . rintro k hk _ rfl;dsimp only[Ej];rw[fh];refine aZ (fun hlt=>?_) (fun hge=>aL ?_)
   . have hlt:k<bR.length:=by omega
     have hm:=cX hlt;have hstep:ko v (bR.take (k+1)) (vf u0.g v)=if ko v (bR.take k) (vf u0.g v)<vf (bR[k]).g v then vf (bR[k]).g v else ko v (bR.take k) (vf u0.g v):=by
      unfold ko;rw[<-jh hlt,M2];rfl
     have hi:=ez (l:=(bR[k]).g) (k:=v) (by rw[(h.2 _ hm).1];exact hv);have hvk:=h.vf hm v;have hdk:=hdl k;refine aN (oL hlt) (aN hi (aU (j8 (by omega) (by omega)) (aZ (fun h1=>aN hi (aL ⟨hlt,?_⟩)) (fun h1=>aL ⟨hlt,?_⟩))))
     . rw[dT (by omega),hstep,if_pos (by unfold bM at h1;(repeat' split at h1)<;>omega)]
     . rw[dT (by omega),hstep,if_neg (by unfold bM at h1;(repeat' split at h1)<;>omega)]
   . show _=_;rw[eU (by omega)];unfold dY;rw[hur];rfl
 . dsimp only;have ha:dl (dY v bR)<=8:=by
    obtain⟨x,hx,e⟩:=DG (v:=v) h0;rw[e];exact h.vf hx v
   have h2:=kr (dY v bR) (-vf low.g v);rw[fY]at h2;have h3:=jX (K:=16) (a:=dY v bR*-vf low.g v) (b:=dY v bR) (by omega) (by omega);have h4:=jX (K:=17) (a:=dY v bR*-vf low.g v-dY v bR) (b:=-vf low.g v) (by omega) (by rw[fY];omega);refine aN (ez (l:=low.g) (by omega)) (aU (nX (by omega)) (aU (oc (by omega) (by rw[fY];omega)) (aU (l5 (by omega) (by omega)) (aU (l5 (by omega) (by rw[fY];omega)) (Tm.bind (qH (by omega) (by omega)) fun r hr=>aL ?_)))));rw[hr];rfl
theorem RR{s:St}{v:Nat}(hi:iD s.n s.items)(hv:v<s.n):Tm (fun N=>xK N s.to (v:Int)) (fun r=>(r.2=true↔∃x∈s.items,vf x.g v≠0)/\∃c,r.1=B c/\dl c<=cY):=by
 have hL:cY=1099511627776:=rfl;have hl:=hi.1;have hu:=(oG (v:=v) hi).1;have hw:=(xY (v:=v) hi).1;have hex:(∃x∈s.items,vf x.g v≠0)↔cz v s.items≠[]\/du v s.items≠[]:=by
  constructor
  . rintro⟨x,hx,h⟩;rcases tw h with h|h
    . exact .inr (GI (im.2 ⟨hx,h⟩))
    . exact .inl (GI (j7.2 ⟨hx,h⟩))
  . rintro(h|h)
    . obtain⟨x,hx⟩:=U2 _ h;exact⟨x,(j7.1 hx).1,by have:=(j7.1 hx).2;omega⟩
    . obtain⟨x,hx⟩:=U2 _ h;exact⟨x,(im.1 hx).1,by have:=(im.1 hx).2;omega⟩
 have hul:∀{l:List AI},l≠[]↔l.length≠0:=fun{l}=>by rw[ne_eq,<-mo]
 rw[hex,hul,hul];unfold xK;refine aU (zF hi hv) ?_;dsimp only;rw[fh,fh];refine aZ (fun h0=>aL ⟨?_,0,B0.symm,by rw[ir];omega⟩) (fun h0=>?_)
 . rw[bH (by omega) (by omega)]at h0;exact⟨fun e=>(by cases e),fun e=>by omega⟩
 . rw[bH (by omega) (by omega)]at h0;refine Tm.bind (Q:=fun c=>c=decide ((cz v s.items).length=0\/(du v s.items).length=0)) (aZ (fun h=>aL ?_) (fun h=>aL ?_)) ?_
   . rw[decide_eq_true];omega
   . apply decide_eq_decide.2;omega
   rintro _ rfl;refine aZ (fun h1=>aL ⟨?_,0,B0.symm,by rw[ir];omega⟩) (fun h1=>?_)
   . exact⟨fun _=>by omega,fun _=>rfl⟩
   . have h1:¬((cz v s.items).length=0\/(du v s.items).length=0):=fun e=>h1 (decide_eq_true e);have hun:cz v s.items≠[]:=hul.2 (by omega);have hmul:((cz v s.items).length:Int)*((du v s.items).length:Int)<=1073741824*1073741824:=nr (by omega) (by omega) (by omega) (by omega);have hmul0:0<=((cz v s.items).length:Int)*((du v s.items).length:Int):=eI (by omega) (by omega);rw[bH (by omega) (by omega)];refine aU (jU (by omega) (by omega)) ?_;refine Tm.bind (Q:=fun r=>∃c,r=B c/\dl c<=cY) (ei (du v s.items).length (fun k t=>∃c,t=(B c,(k:Int))/\dl c<=2+20*k) ⟨_,rfl,Ey (by omega)⟩ ?_) ?_
     . rintro k hk _ ⟨c,rfl,hc⟩;dsimp only[D2];rw[fh];refine aZ (fun hlt=>?_) (fun hge=>aL ⟨c,rfl,by omega⟩);have hlt:k<(du v s.items).length:=by omega
       have hm:=cX hlt;have hlo:=(xY (v:=v) hi);have hsd:=yf (low:=(du v s.items)[k]) (oG (v:=v) hi) hun (hlo.vf hm v);refine Tm.bind (Q:=fun r=>∃c,r=B c/\dl c<=2+20*(k+1)) (aN (oL hlt) (aU (wh (oG (v:=v) hi) hun (hlo.2 _ hm).1 (hlo.vf hm v) hv) (aU (jv (by omega)) (aZ (fun h2=>?_) (fun h2=>aL ⟨c,rfl,by omega⟩))))) ?_
       . have h1000:dl 1000<=18:=bO (j9 (by decide)) (by decide);have ha:=oD hsd h1000;refine aU (jU (by decide) (by decide)) (aU (mN (by omega) (by omega)) (aU (oc (by omega) (by omega)) (aL ⟨_,rfl,?_⟩)));have:=kr c (gM v (du v s.items)[k] (cz v s.items)+1000);omega
       . rintro _ ⟨c',rfl,hc'⟩;exact aL ⟨hlt,c',by rw[dT (by omega)],hc'⟩
     . rintro _ ⟨c,rfl,hc⟩;exact aL ⟨⟨fun _=>by omega,fun _=>rfl⟩,c,rfl,hc⟩
theorem UI{s:St}(hi:iD s.n s.items)(hst:s.status.length=s.n)(hn:s.n<=512):Tm (fun N=>uI N s.to) (fun r=>(r.2=true/\∃v:Nat,r.1=(v:Int)/\v<s.n/\vf s.status v=0/\∃x∈s.items,vf x.g v≠0)\/(r.2=false/\∀v,v<s.n->vf s.status v=0->∀x∈s.items,vf x.g v=0)):=by
 have hL:cY=1099511627776:=rfl;unfold uI;refine Tm.bind (Q:=fun r=>(r.2=true/\∃v:Nat,r.1=(v:Int)/\v<s.n/\vf s.status v=0/\∃x∈s.items,vf x.g v≠0)\/(r.2=false/\∀v,v<s.n->vf s.status v=0->∀x∈s.items,vf x.g v=0))
  (ei s.n (fun k t=>t.2.2.2=(k:Int)/\(∃c,t.2.2.1=B c/\dl c<=cY)/\((t.2.1=true/\∃v:Nat,t.1=(v:Int)/\v<s.n/\vf s.status v=0/\∃x∈s.items,vf x.g v≠0)\/(t.2.1=false/\∀v,v<k->vf s.status v=0->∀x∈s.items,vf x.g v=0)))
   ⟨rfl,⟨0,B0.symm,by rw[ir];omega⟩,.inr ⟨rfl,fun v hv=>by omega⟩⟩ ?_) fun r hr=>aL hr
 rintro k hk ⟨b,f,l,i⟩ ⟨rfl,⟨c,rfl,hc⟩,hI⟩;dsimp only at hI;dsimp only[Eb];refine aZ (fun hlt=>?_) (fun hge=>aL ?_)
 . have hlt:k<s.n:=by have:(k:Int)<(s.n:Int):=hlt;omega
   refine Tm.bind (Q:=fun r=>(∃c,r.2.2=B c/\dl c<=cY)/\((r.2.1=true/\∃v:Nat,r.1=(v:Int)/\v<s.n/\vf s.status v=0/\∃x∈s.items,vf x.g v≠0)\/(r.2.1=false/\∀v,v<k+1->vf s.status v=0->∀x∈s.items,vf x.g v=0))) (aN (A2 (l:=s.status) (by omega)) (aZ (fun h1=>aL ⟨⟨c,rfl,hc⟩,?_⟩) (fun h1=>?_))) ?_
   . dsimp only;rcases hI with hI|⟨h2,h3⟩
     . exact .inl hI
     . refine .inr ⟨h2,fun v hv h0=>?_⟩;rcases cw v k with h4|h4
       . exact h3 v h4 h0
       . obtain rfl:v=k:=by omega
         exact absurd h0 h1
   . have h1:vf s.status k=0:=tu.1 h1;refine Tm.bind (RR hi hlt) ?_;rintro⟨pc,ok⟩ ⟨hp,c',hc',hcl'⟩;dsimp only at hp hc'⊢;subst hc';refine Tm.bind (Q:=fun t=>(t=true->ok=true)/\(t=false->ok=true->f=true)) (aZ (fun h2=>aZ (fun h3=>aL ⟨fun _=>h2,fun e=>(by cases e)⟩) (fun h3=>aU (j8 hcl' hc) (aL ⟨fun _=>h2,fun _ _=>by simpa using h3⟩))) (fun h2=>aL ⟨fun e=>(by cases e),fun _ e=>absurd e h2⟩)) ?_;rintro t ⟨ht1,ht2⟩;refine aZ (fun h2=>aL ⟨⟨c',rfl,hcl'⟩,.inl ⟨rfl,k,rfl,hlt,h1,hp.1 (ht1 h2)⟩⟩) (fun h2=>aL ⟨⟨c,rfl,hc⟩,?_⟩);dsimp only;rcases hI with hI|⟨h3,h4⟩
     . exact .inl hI
     . refine .inr ⟨h3,fun v hv h0 x hx=>?_⟩;rcases cw v k with h5|h5
       . exact h4 v h5 h0 x hx
       . obtain rfl:v=k:=by omega
         refine jL fun e=>?_;have:=ht2 (by simpa using h2) (hp.2 ⟨x,hx,e⟩);rw[h3]at this;cases this
   . rintro⟨b',f',l'⟩ ⟨⟨c',hc',hcl'⟩,h2⟩;exact aL ⟨hlt,dT (by omega),⟨c',hc',hcl'⟩,h2⟩
 . have:k=s.n:=by have:¬(k:Int)<(s.n:Int):=hge;omega
   subst this;exact hI
theorem Ji{l:List AI}{f:Nat->aY->Option Bool}{g:AI->Bool}(hl:l.length<=1073741824)(h:∀x∈l,Tm (fun N=>f N x.to) (·=g x)):Tm (fun N=>vD N (mI l) (f N)) (fun r=>(l.any g=false/\r=-1)\/∃k,∃hk:k<l.length,g l[k]=true/\(∀j (hj:j<k),g (l[j]'(by omega))=false)/\r=(k:Int)):=by
 unfold vD;refine Tm.bind (Tm.findL (b:=fun N=>xL N (f N) (mI l)) l g (fun k=>(k:Int)) (by omega) ?_ ?_) ?_
 . intro k hk;dsimp only[xL];refine cL (by rw[fh];omega) (aN (oL hk) (aU (h _ (cX hk)) ?_));refine aZ (fun h=>aL ?_) (fun h=>aL ?_)
   . simp[h]
   . simp[h]
 . dsimp only[xL];exact cC (by rw[fh];omega) (aL rfl)
 . rintro _ (⟨h,rfl⟩|⟨k,hk,hg,hj,rfl⟩)
   . exact aL (.inl ⟨h,rfl⟩)
   . exact aL (.inr ⟨k,hk,hg,hj,rfl⟩)
def rV(s:St)(v:Nat):Prop:=cz v s.items=[]\/∀x∈du v s.items,gM v x (cz v s.items)<0
theorem OD{s:St}{v:Nat}(hi:iD s.n s.items)(hv:v<s.n):Tm (fun N=>uA N s.to (v:Int)) (fun r=>r=true↔rV s v):=by
 have hL:cY=1099511627776:=rfl;unfold uA;refine aU (zF hi hv) ?_;dsimp only;rw[fh];refine aZ (fun h0=>aL ⟨fun _=>.inl (mo.1 (by omega)),fun _=>rfl⟩) (fun h0=>?_);have hun:cz v s.items≠[]:=fun e=>h0 (by rw[e];rfl);have hlo:=xY (v:=v) hi;refine aU (a:=(du v s.items).any fun x=>decide (0<=gM v x (cz v s.items))) ?_ (aL ?_)
 . unfold BQ;refine Tm.bind (Ji (f:=fun N y0=>uO N y0 (v:Int) (mI (cz v s.items))) (g:=fun x=>decide (0<=gM v x (cz v s.items))) hlo.1 fun x hx=>?_) ?_
   . unfold uO;refine aU (wh (oG (v:=v) hi) hun (hlo.2 _ hx).1 (hlo.vf hx v) hv) (aU (jv (by have:=yf (low:=x) (oG (v:=v) hi) hun (hlo.vf hx v);omega)) (aL ?_));exact decide_eq_decide.2 Np
   . rintro r (⟨h,rfl⟩|⟨k,hk,hg,-,rfl⟩)
     . exact aL (by rw[h];rfl)
     . exact aL (by rw[List.any_eq_true.2 ⟨_,cX hk,hg⟩];simp)
 . rw[Gn,MR];unfold rV;constructor
   . exact fun h=>.inr fun x hx=>by have:=h x hx;simpa using this
   . rintro(h|h) x hx
     . exact absurd h hun
     . have:=h x hx;simpa using this
end Go.D
set_option maxHeartbeats 1000000
namespace Go.D
open Go Go.X
theorem LF{a b:List AI}(ha:a.length<=1073741824)(hb:b.length<=1073741824):Tm (fun N=>tU N [mI a,mI b]) (·=mI (a++b)):=by
 unfold tU;have hw:∀z:Int,0<=z->z<=4294967296->iw z=z:=fun z h1 h2=>bH (by omega) (by omega);have two:(0:Int)<(([mI a,mI b]:List (List aY)).length:Int):=by simp
 have two1:(1:Int)<(([mI a,mI b]:List (List aY)).length:Int):=by simp
 refine aU (a:=((a.length+b.length:Nat):Int)) ?_ ?_
 . refine ei 2 (fun k t=>(k=0->t=(0,0))/\(k=1->t=((a.length:Int),1))/\(k=2->t=(((a.length+b.length:Nat):Int),2))) ⟨fun _=>rfl,fun h=>(by omega),fun h=>(by omega)⟩ ?_;rintro k hk t ⟨h0,h1,h2⟩;rcases k with _|_|k
   . obtain rfl:=h0 rfl;dsimp only[ya];refine cL two (aN (a:=mI a) rfl ?_);rw[fh,hw _ (by omega) (by omega)];refine cC (by omega) (aL ⟨by omega,fun h=>by omega,fun _=>?_,fun h=>by omega⟩);rw[hw _ (by omega) (by omega)];simp
   . obtain rfl:=h1 rfl;dsimp only[ya];refine cL two1 (aN (a:=mI b) rfl ?_);rw[fh,hw _ (by omega) (by omega)];refine cC (by omega) (aL ⟨by omega,fun h=>by omega,fun h=>by omega,fun _=>?_⟩);rw[hw _ (by omega) (by omega)];simp
   . obtain rfl:k=0:=by omega
     obtain rfl:=h2 rfl;dsimp only[ya];exact cC (by simp) (aL rfl)
 . dsimp only;refine aU (a:=([]:List aY)) ?_ ?_
   . unfold Bc;rw[show iw (((a.length+b.length:Nat):Int)-iw (0-0))=((a.length+b.length:Nat):Int) by rw[show iw (0-0)=0 by decide,GH];exact hw _ (by omega) (by omega)];refine cC (by omega) (aU (a:=([]:List aY)) (aZ (fun h=>?_) (fun h=>aL rfl)) (aL rfl));rw[mn];refine aN (dN (by simp only[dM,kQ];omega) (by decide)) ?_;refine aN (rU (m:=0) (n:=0) rfl rfl (by omega) (by omega)) (aL ?_);simp
   . refine aU (a:=mI (a++b)) (ei 2 (fun k t=>(k=0->t=(([]:List aY),(0:Int)))/\(k=1->t=(mI a,1))/\(k=2->t=(mI (a++b),2))) ⟨fun _=>rfl,fun h=>(by omega),fun h=>(by omega)⟩ ?_) (aL rfl);rintro k hk t ⟨h0,h1,h2⟩;rcases k with _|_|k
     . obtain rfl:=h0 rfl;dsimp only[wq];refine cL two (aN (a:=mI a) rfl (aN (dN (by rw[fh];simp only[dM];omega) (by decide)) (aL ⟨by omega,fun h=>by omega,fun _=>?_,fun h=>by omega⟩)));rw[hw _ (by omega) (by omega)];simp
     . obtain rfl:=h1 rfl;dsimp only[wq];refine cL two1 (aN (a:=mI b) rfl (aN (dN (by rw[fh,fh];omega) (by decide)) (aL ⟨by omega,fun h=>by omega,fun h=>by omega,fun _=>?_⟩)));rw[hw _ (by omega) (by omega)];simp[mI]
     . obtain rfl:k=0:=by omega
       obtain rfl:=h2 rfl;dsimp only[wq];exact cC (by simp) (aL rfl)
theorem T3{l:List AI}{f:Nat->aY->Option Bool}{g:AI->Bool}(hl:l.length<=1073741824)(h:∀x∈l,Tm (fun N=>f N x.to) (·=g x)):Tm (fun N=>yi N (mI l) (f N)) (·=mI (l.filter fun x=>!g x)):=by
 unfold yi;refine Tm.bind (Ji hl h) ?_;rintro r (⟨hany,rfl⟩|⟨k0,hk0,hg0,hbef,rfl⟩)
 . refine cL rfl (aL ?_);congr 1;rw[List.filter_eq_self.2];intro x hx;rw[MR]at hany;have:=hany x hx;simpa using this
 . refine cC (by omega) ?_;have hfil0:(l.take (k0+1)).filter (fun x=>!g x)=l.take k0:=by
    rw[<-jh hk0,Cm,List.filter_eq_self.2]
    . simp[hg0]
    . intro x hx;obtain⟨j,hj,rfl⟩:=nm hx;rw[eQ]at hj;rw[List.getElem_take,hbef j (by omega)];rfl
   refine Tm.bind (Q:=fun t=>∃c:List aY,∃i:Nat,t=(c,(i:Int))/\c.length=l.length/\i<l.length/\c.take i=mI (l.filter fun x=>!g x))
    (Tm.xg (fun(k:Nat) (t:List aY×Int×Int)=>k0+1<=k/\k<=l.length/\∃c:List aY,∃i:Nat,t=(c,(i:Int),(k:Int))/\c.length=l.length/\i<k/\c.take i=mI ((l.take k).filter fun x=>!g x)/\c.drop k=mI (l.drop k)) (fun k=>l.length-k) (k0+1) ⟨bK _,hk0,mI l,k0,?_,fh l,by omega,?_,?_⟩ ?_) ?_
   . rw[dT (by omega)]
   . rw[hfil0];unfold mI;rw[List.map_take]
   . unfold mI;rw[Ni]
   . rintro k _ ⟨hk1,hk2,c,i,rfl,hcl,hik,ht,hd⟩;dsimp only[CP];refine aZ (fun hlt=>?_) (fun hge=>aL ?_)
     . have hlt:k<l.length:=by omega
       have hck:c[k]?=some (l[k]).to:=by
        have:=congrArg (fun z:List aY=>z[0]?) hd;simp only[te,pO,mI,gR,bV hlt]at this;exact this
       refine Tm.bind (Q:=fun r=>∃c':List aY,∃i':Nat,r=(c',(i':Int))/\c'.length=l.length/\i'<k+1/\c'.take i'=mI ((l.take (k+1)).filter fun x=>!g x)/\c'.drop (k+1)=mI (l.drop (k+1))) (aN (kK hck) (aU (h _ (cX hlt)) (aZ (fun h1=>?_) (fun h1=>aL ⟨c,i,rfl,hcl,by omega,?_,?_⟩)))) ?_
       . have h1:g l[k]=false:=by simpa using h1
         refine aN (cU (by omega)) (aN (ee rfl (by omega)) (aL ⟨c.set i (l[k]).to,i+1,by rw[dT (by omega)],by rw[iS];exact hcl,by omega,?_,?_⟩))
         . have e1:(c.set i (l[k]).to).take (i+1)=c.take i++[(l[k]).to]:=by
            rw[pQ (by rw[iS];omega),yC (by omega),List.getElem_set_self]
           rw[e1,ht,<-jh hlt,Cm];unfold mI;simp[h1]
         . rw[List.drop_set,if_pos (by omega)];have:=congrArg (List.drop 1) hd;rw[qT]at this;rw[this];unfold mI;rw[<-Ni,qT]
       . have h1:g l[k]=true:=by simpa using h1
         rw[ht,<-jh hlt,Cm];simp[h1]
       . have:=congrArg (List.drop 1) hd;rw[qT]at this;rw[this];unfold mI;rw[<-Ni,qT]
       . rintro _ ⟨c',i',rfl,a1,a2,a3,a4⟩;exact aL ⟨k+1,⟨by omega,by omega,c',i',by rw[dT (by omega)],a1,a2,a3,a4⟩,by omega⟩
     . have:k=l.length:=by omega
       subst this;rw[eU (bK _)]at ht;exact⟨c,i,rfl,hcl,by omega,ht⟩
   . rintro _ ⟨c,i,rfl,hcl,hil,ht⟩;dsimp only;rw[RQ (by omega) (bK _)];refine aN (a:=()) rfl ?_;have hcut:cut (qA c (i:Int) (c.length:Int) (aY.mk 0 [])) 0 (i:Int)=some (c.take i):=by
      have:=Hw (xs:=c) (l:=i) (h:=c.length) (z:=aY.mk 0 []) (by omega) (bK _);rw[rU (i:=0) (j:=(i:Int)) (m:=0) (n:=i) rfl rfl (by omega) (by omega),lL];unfold qA;rw[mn,qU (by rw[eQ];omega),ML];simp
     refine aN hcut (aL ht)
def comb(n v:Nat)(x y:AI):List Int:=vec n fun j=>-vf y.g v*vf x.g j+vf x.g v*vf y.g j
def mC(n v:Nat)(x y:AI):Act:=.put (comb n v x y) [⟨x.pos,-vf y.g v⟩,⟨y.pos,vf x.g v⟩]
def eH(s:St)(v:Nat)(dD:Bool):St:={s with status:=s.status.set v 2,items:=s.items.filter (fun x=>!decide (vf x.g v≠0)),stack:=s.stack++[⟨v,(cz v s.items++du v s.items).map AI.pos,dD⟩]}
def qk(n v:Nat)(bR lows:List AI)(k m:Nat):List Act:=((lows.drop m).map fun y=>mC n v (bR.getD k ⟨0,[]⟩) y)++(bR.drop (k+1)).flatMap fun x=>lows.map fun y=>mC n v x y
def dc(s:St)(v:Nat):List Act:=(cz v s.items).flatMap fun x=>(du v s.items).map fun y=>mC s.n v x y
theorem Q3{n v:Nat}{bR lows:List AI}{k:Nat}(h:k<bR.length):(bR.drop k).flatMap (fun x=>lows.map fun y=>mC n v x y)=qk n v bR lows k 0:=by
 unfold qk;rw[fD h,tx,lL,cA,bV h];rfl
theorem Tx{n v:Nat}{bR lows:List AI}{k m:Nat}(hk:k<bR.length)(h:m<lows.length):qk n v bR lows k m=mC n v bR[k] lows[m]::qk n v bR lows k (m+1):=by
 unfold qk;rw[fD h,jN,B4,cA,bV hk];rfl
theorem Sc{n v:Nat}{bR lows:List AI}{k:Nat}:qk n v bR lows k lows.length=(bR.drop (k+1)).flatMap (fun x=>lows.map fun y=>mC n v x y):=by
 unfold qk;rw[Ci];rfl
theorem IE{s:St}{v:Nat}:(dc s v).length=(cz v s.items).length*(du v s.items).length:=by
 unfold dc;generalize cz v s.items=a;generalize du v s.items=b
 induction a with
 |nil=>simp
 |cons x a ih=>rw[tx,dd,ih,cD,cv,gL];omega
theorem J1{s:St}{v:Nat}{a:Act}:a∈dc s v↔∃x∈cz v s.items,∃y∈du v s.items,a=mC s.n v x y:=by
 unfold dc;simp only[vX,dz];constructor
 . rintro⟨x,hx,y,hy,rfl⟩;exact⟨x,hx,y,hy,rfl⟩
 . rintro⟨x,hx,y,hy,rfl⟩;exact⟨x,hx,y,hy,rfl⟩
theorem Tt{K Kk:Nat}{s:St}{v:Nat}{dD:Bool}(hs:gr K s)(hv:v<s.n)(hst:s.status.length=s.n)(hstk:s.stack.length<=1000000)(hK:Kk+6<=K)(hA:∀a∈dc s v,lJ Kk (eH s v dD) a)(hr:jk (dc s v).length (eH s v dD)):
 Tm (fun N=>n5 N s.to (v:Int) dD) (·=((bU (eH s v dD) (dc s v)).1,(bU (eH s v dD) (dc s v)).2.to)):=by
 have hL:cY=1099511627776:=rfl;have hi:iD s.n s.items:=⟨hs.il,fun x hx=>(hs.i x hx).2⟩;have hup:=oG (v:=v) hi;have hlo:=xY (v:=v) hi;have hul:=hup.1;have hll:=hlo.1;have hn:=hs.n;unfold n5;refine aU (zF hi hv) ?_;dsimp only;refine aU (LF hup.1 hlo.1) ?_;generalize hU:cz v s.items=U at*;generalize hW:du v s.items=W at*;refine aU (a:=((U++W).map AI.pos).map Int.ofNat) (ei (U++W).length (fun k t=>t=((((U++W).take k).map AI.pos).map Int.ofNat,(k:Int))) rfl ?_) ?_
 . rintro k hk _ rfl;dsimp only[Dw];rw[fh];refine aZ (fun hlt=>?_) (fun hge=>aL ?_)
   . have hlt:k<(U++W).length:=by omega
     rw[dd]at hlt;refine aN (oL (by rw[dd];exact hlt)) (aN (dN (by simp only[cD,eQ,cv,dM,dd];omega) (by decide)) (aL ⟨by rw[dd];exact hlt,?_⟩));rw[dT (by omega),<-jh (by rw[dd];exact hlt)];simp only[jg];rfl
   . show _=_;rw[eU (by omega)]
 refine aN (dN (by show((s.stack.map AE.to).length+_)*_<=_;simp only[cD,cv,dM];omega) (by decide)) ?_;refine aN (A2 (l:=s.status) (by omega)) (aN (ee (xs:=s.status) rfl (by omega)) ?_);refine aU (a:=mI s.items) ?_ ?_
 . unfold qI;exact aN (dN (by show(_+(mI s.items).length)*_<=_;rw[fh];have:=hs.il;simp only[dM];omega) (by decide)) (aL rfl)
 refine aU (T3 (f:=fun N y0=>vu N y0 (v:Int)) (g:=fun x=>decide (vf x.g v≠0)) hs.il fun x hx=>?_) ?_
 . unfold vu;refine aN (ez (l:=x.g) (by rw[(hi.2 x hx).1];exact hv)) (aU (jv (bO (hi.vf hx v) (by decide))) (aL (decide_eq_decide.2 pJ)))
 have hLU:dc s v=U.flatMap fun x=>W.map fun y=>mC s.n v x y:=by unfold dc;rw[hU,hW]
 have hdn:(eH s v dD).n=s.n:=rfl;have hok0:gr K (eH s v dD):=⟨hs.n,hs.kl,hs.sl,bO (tp ..) hs.il,hs.k,fun x hx=>hs.i x (Ga.1 hx).1,hs.K⟩;have hfirst:iJ (eH s v dD)=(s.to.known,s.to.steps,s.to.u,s.status.set v 2,s.to.value,mI (s.items.filter fun x=>!decide (vf x.g v≠0)),s.to.stack++[dK.mk (v:Int) (((U++W).map AI.pos).map Int.ofNat) dD]):=by
  unfold iJ eH;rw[hU,hW];unfold St.to;dsimp only;rw[jg];rfl
 refine Tm.bind (Q:=fun r=>(∃s',r=.inl (iJ s')/\bU (eH s v dD) (dc s v)=(true,s')/\s'.n=s.n)\/r=.inr ((bU (eH s v dD) (dc s v)).1,(bU (eH s v dD) (dc s v)).2.to))
  (ei U.length (fun k t=>∃s' k',iK K (eH s v dD) (dc s v) k' s'/\(dc s v).drop k'=(U.drop k).flatMap (fun x=>W.map fun y=>mC s.n v x y)/\t=(s'.to.known,s'.to.steps,s'.to.u,s'.to.status,s'.to.value,s'.to.items,s'.to.stack,(k:Int))) ⟨eH s v dD,0,iK.first hok0 hr,by rw[lL,lL,hLU],?_⟩ ?_) ?_
 . have:=hfirst;unfold iJ at this;simp only[np]at this;obtain⟨a1,a2,a3,a4,a5,a6,a7⟩:=this;rw[a1,a2,a3,a4,a5,a6,a7];rfl
 . rintro k hk _ ⟨s',k',hvv,hd,rfl⟩;dsimp only[FG];rw[fh];refine aZ (fun hlt=>?_) (fun hge=>aL ?_)
   . have hlt:k<U.length:=by omega
     rw[Q3 hlt]at hd;refine aN (oL hlt) ?_;have hxm:U[k]∈U:=cX hlt;have hxl:=(hup.2 _ hxm).1;refine Tm.bind (Q:=fun r=>(∃s'' k'',r=.inl (iJ s'')/\iK K (eH s v dD) (dc s v) k'' s''/\(dc s v).drop k''=(U.drop (k+1)).flatMap (fun x=>W.map fun y=>mC s.n v x y))\/r=.inr ((bU (eH s v dD) (dc s v)).1,(bU (eH s v dD) (dc s v)).2.to))
      (ei W.length (fun m t=>∃s'' k'',iK K (eH s v dD) (dc s v) k'' s''/\(dc s v).drop k''=qk s.n v U W k m/\t=(s''.to.known,s''.to.steps,s''.to.u,s''.to.status,s''.to.value,s''.to.items,s''.to.stack,(m:Int))) ⟨s',k',hvv,hd,rfl⟩ ?_) ?_
     . rintro m hm _ ⟨s2,k2,hv2,hd2,rfl⟩;dsimp only[DW];rw[fh];refine aZ (fun hlt2=>?_) (fun hge2=>aL ?_)
       . have hlt2:m<W.length:=by omega
         rw[Tx hlt hlt2]at hd2;have hk2l:k2<(dc s v).length:=by
          rcases cw k2 (dc s v).length with h1|h1
          . exact h1
          . rw[Cf h1]at hd2;cases hd2
         rw[fD hk2l]at hd2;obtain⟨e1,e2⟩:=vU hd2;have hym:W[m]∈W:=cX hlt2;have hyl:=(hlo.2 _ hym).1;have dx:=fun j=>hup.vf hxm j;have dy:=fun j=>hlo.vf hym j;have hact:=hA _ (cX hk2l);rw[e1]at hact;obtain⟨g1,g2,g3,g4⟩:=hv2.put hk2l e1 (K0:=Kk) hact hK;refine aN (oL hlt2) (aN (ez (l:=(U[k]).g) (by omega)) (aN (ez (l:=(W[m]).g) (by omega)) (aU (nX (bO (dy v) (by decide))) (aN (ik (n:=s.n) rfl (by omega) (by decide)) ?_))));rw[<-oy];refine aU (a:=mB (comb s.n v U[k] W[m])) ?_ ?_
         . refine(Tm.sr (n:=s.n) (by omega) (fun j=>-vf (W[m]).g v*vf (U[k]).g j+vf (U[k]).g v*vf (W[m]).g j) (by simp) (fin:=id) ?_ ?_)
           . intro j hj c hc hic;dsimp only[A8];have h1:=kr (-vf (W[m]).g v) (vf (U[k]).g j);have h2:=kr (vf (U[k]).g v) (vf (W[m]).g j);rw[fY]at h1;have:=dx j;have:=dx v;have:=dy j;have:=dy v;refine cL (by rw[dJ,kQ];omega) (aN (ez (l:=(U[k]).g) (by omega)) (aU (oc (by rw[fY];omega) (by omega)) (aN (ez (l:=(W[m]).g) (by omega)) (aU (oc (by omega) (by omega)) (aU (mN (by omega) (by omega)) (aN hic (aN (ee rfl (by omega)) (aL rfl))))))))
           . intro c hc;dsimp only[A8];exact cC (by rw[dJ,kQ];omega) (aL rfl)
         . have hns:s.to.n=s2.to.n:=by show(s.n:Int)=s2.n;rw[hv2.n];rfl
           rw[iy (x:=s2.to) hns];refine aU g1 ?_;have hns2:s.to.n=(put s2 (comb s.n v U[k] W[m]) [⟨(U[k]).pos,-vf (W[m]).g v⟩,⟨(W[m]).pos,vf (U[k]).g v⟩]).2.to.n:=by
            show(s.n:Int)=((put s2 _ _).2.n:Int);rw[g4];rfl
           refine aZ (fun hf=>aL (.inr ?_)) (fun ht=>aL ⟨hlt2,_,k2+1,g2 (by simpa using ht),e2,by rw[dT (by omega)]⟩);dsimp only;rw[iy hns2,g3 (by simpa using hf)]
       . have:m=W.length:=by omega
         subst this;rw[Sc]at hd2;exact .inl ⟨s2,k2,rfl,hv2,hd2⟩
     . rintro r (⟨s2,k2,rfl,h1,h2⟩|rfl)
       . exact aL ⟨hlt,s2,k2,h1,h2,by rw[dT (by omega)]⟩
       . exact aL (.inr rfl)
   . have:k=U.length:=by omega
     subst this;rw[Ci]at hd;refine .inl ⟨s',rfl,?_,hvv.n⟩;rw[hvv.run,hd];rfl
 . rintro r (⟨s',rfl,h1,h2⟩|rfl)
   . refine aL ?_;show(true,aR.mk s.to.n s'.to.known s'.to.steps s'.to.u s'.to.status s'.to.value s'.to.items s'.to.stack)=_;rw[uh h2.symm,h1]
   . exact aL rfl
end Go.D

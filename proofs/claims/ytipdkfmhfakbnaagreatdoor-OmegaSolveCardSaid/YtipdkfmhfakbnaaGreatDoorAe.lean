/- Plain theorems and definitions of this seat, several texts in one. -/
import Derived.Test.YtipdkfmhfakbnaaGreatDoorAd
import Derived.Test.YtipdkfmhfakbnaaGreatDoorAa
set_option linter.unusedVariables false
set_option linter.unusedSimpArgs false
set_option linter.unusedSectionVars false
namespace Go.D
open Go Go.X
def Ch(N:Nat)(l:(List aB)):(Bool×(List Int)×Int)->Option (aK (Bool×(List Int)×Int) (Bool×(List Int)))
 |(b,c,a)=>(if(a:Int)<(List.length l:Int)then (idx l a).bind fun e=>(vA N (aB.mk b c) e).bind fun d=>some (aK.next (d.bF,d.aP,(iw (a+1)))) else some (aK.done (b,c)))
def v7(N:Nat)(l:(List aB)):Option aB:=(bJ (Ch N l) N (false,[],0)).bind fun ss=>match ss with
  |(a,b)=>some (aB.mk a b)
def zK(N:Nat)(l:(List aB)):((List aB)×Int)->Option (aK ((List aB)×Int) (List aB))
 |(b,a)=>(if(a:Int)<(List.length l:Int)then (idx l a).bind fun c=>(jd N c).bind fun d=>(idx b a).bind fun f=>(di b a d).bind fun e=>some (aK.next (e,(iw (a+1)))) else some (aK.done b))
def mW(N:Nat)(l:(List aB)):Option (List aB):=(fW (α:=aB) 32 (aB.mk false []) (List.length l:Int)).bind fun x2=>(bJ (zK N l) N (x2,0)).bind fun ss=>match ss with
  |a=>some a
def Ct(N:Nat)(g:(List aB)):((List (List UInt8))×Int)->Option (aK ((List (List UInt8))×Int) (List (List UInt8)))
 |(b,a)=>(if(a:Int)<(List.length g:Int)then (idx g a).bind fun c=>(uj N c).bind fun d=>(cS 16 b [d]).bind fun e=>some (aK.next (e,(iw (a+1)))) else some (aK.done b))
def tT(N:Nat)(g:(List aB)):Option (List UInt8):=(bJ (Ct N g) N (([]:(List (List UInt8))),0)).bind fun ss=>match ss with
  |a=>(pY N a ([32]:List UInt8)).bind fun b=>some b
def Co(N:Nat)(pa:Int)(bR:(List aX)):(aB×Int)->Option (aK (aB×Int) aB)
 |(b,a)=>(if(a:Int)<(List.length bR:Int)then (idx bR a).bind fun c=>(idx c.g pa).bind fun d=>(iz N d b).bind fun e=>(if(e:Int)>0 then (idx c.g pa).bind fun f=>some (aK.next (f,(iw (a+1)))) else some (aK.next (b,(iw (a+1))))) else some (aK.done b))
def oE(N:Nat)(pa:Int)(low:aX)(bR:(List aX)):Option aB:=(idx bR 0).bind fun c=>(idx c.g pa).bind fun d=>(bJ (Co N pa bR) N (d,0)).bind fun ss=>match ss with
  |a=>(idx low.g pa).bind fun e=>(jd N e).bind fun b=>(j7 N a b).bind fun f=>(iS N f a).bind fun i=>(iS N i b).bind fun j=>(kx N j a).bind fun k=>some k.1
def CW(N:Nat)(x:aX):(Int×Int×Int)->Option (aK (Int×Int×Int) (Int×Int))
 |(c,b,a)=>(if(a:Int)<(List.length x.g:Int)then (idx x.g a).bind fun d=>(gC N d).bind fun e=>(if(e:Int)≠0 then some (aK.next (a,(iw (b+1)),(iw (a+1)))) else some (aK.next (c,b,(iw (a+1))))) else some (aK.done (c,b)))
def uD(N:Nat)(x:aX):Option (Int×Bool):=(bJ (CW N x) N (0,0,0)).bind fun ss=>match ss with
  |(a,b)=>some (a,(decide ((b:Int)=1)))
def By(N:Nat)(pb:Int)(pc:Int)(r1:(List aX)):((List aX)×Int)->Option (aK ((List aX)×Int) (List aX))
 |(b,a)=>(if(a:Int)<(List.length r1:Int)then (idx b a).bind fun c=>(if(c.pos:Int)=pb then (idx b a).bind fun d=>(di b a (aX.mk pc d.g)).bind fun e=>some (aK.next (e,(iw (a+1)))) else some (aK.next (b,(iw (a+1))))) else some (aK.done b))
def tU(N:Nat)(l:(List aX))(pb:Int)(pc:Int):Option (List aX):=(qI N l).bind fun r1=>(bJ (By N pb pc r1) N (r1,0)).bind fun ss=>match ss with
  |a=>some a
def Bz(N:Nat)(n:Int)(pb:Int)(sign:Int)(bound:aB):Option bB:=(fW (α:=aB) 32 (aB.mk false []) n).bind fun a=>(fK N sign).bind fun b=>(idx a pb).bind fun d=>(di a pb b).bind fun c=>some (bB.mk c bound)
def qv(N:Nat)(a:aB)(b:aB):Option Bool:=(iz N a b).bind fun c=>some (decide ((c:Int)=0))
def qp(N:Nat)(x:aB):Option aB:= some (aB.mk false x.aP)
def tI(N:Nat)(x:aX)(ca:Int)(cb:(List aX)):Option Bool:=(oE N ca x cb).bind fun r8=>(gC N r8).bind fun a=>some (decide ((a:Int)≥0))
def uG(N:Nat)(x:aX)(ca:Int):Option Bool:=(idx x.g ca).bind fun x7=>(gC N x7).bind fun a=>some (decide ((a:Int)≠0))
open Go Go.X
def dec(n:Nat):List UInt8:=if h:n=0 then[]else dec (n/10)++[UInt8.ofNat (48+n%10)]
termination_by n
decreasing_by omega
def qG(c:UInt8):Prop:=48<=c.toNat/\c.toNat<=57
instance (c:UInt8):Decidable (qG c):=inferInstanceAs (Decidable (_/\_))
def sD(s:List UInt8):Nat:=s.foldl (fun v c=>10*v+(c.toNat-48)) 0
theorem TM(s:List UInt8)(c:UInt8):sD (s++[c])=10*sD s+(c.toNat-48):=by simp[sD,MF]
theorem Gn{r:Nat}(h:r<10):(UInt8.ofNat (48+r)).toNat=48+r:=by
 rw[UInt8.toNat_ofNat'];omega
theorem Ox{r:Nat}(h:r<10):qG (UInt8.ofNat (48+r)):=by
 unfold qG;rw[Gn h];omega
theorem uW:dec 0=[]:=by rw[dec];simp
theorem tK{n:Nat}(h:0<n):dec n=dec (n/10)++[UInt8.ofNat (48+n%10)]:=by
 rw[dec,dif_neg (by omega)]
theorem OX{n:Nat}(h:0<n):dec n≠[]:=by rw[tK h];simp
theorem Sk(n:Nat):sD (dec n)=n:=by
 induction n using Nat.strongRecOn with
 |ind n ih=>
  rcases gv n with rfl|h
  . rw[uW];rfl
  . rw[tK h,TM,ih (n/10) (by omega),Gn (by omega)];omega
theorem zQ(n:Nat):∀c∈dec n,qG c:=by
 induction n using Nat.strongRecOn with
 |ind n ih=>
  rcases gv n with rfl|h
  . rw[uW];simp
  . rw[tK h];intro c hc;rcases fN.1 hc with hc|hc
    . exact ih (n/10) (by omega) c hc
    . rw[cL.1 hc];exact Ox (by omega)
theorem sJ{n:Nat}(h:0<n):Go.Lib.decDigits n=dec n:=by
 induction n using Nat.strongRecOn with
 |ind n ih=>
  rw[Go.Lib.decDigits];split
  . rename_i h10;rw[tK h,show n/10=0 by omega,uW,show n%10=n by omega];rfl
  . rw[ih (n/10) (by omega) (by omega),tK h]
theorem Ae:Go.Lib.decDigits 0=[48]:=by rw[Go.Lib.decDigits,dif_pos (by omega)];rfl
def pad:Nat->Nat->List UInt8
 |0,_=>[]
 |k+1,r=>pad k (r/10)++[UInt8.ofNat (48+r%10)]
theorem Jk:∀{k q r:Nat},0<q->r<10^k->dec (q*10^k+r)=dec q++pad k r
 |0,q,r,h,hr=>by
  have:r=0:=by simpa using hr
  rw[this,pad];simp
 |k+1,q,r,h,hr=>by
  have hm:0<10^k:=Nat.pow_pos (by omega);have hq:0<q*10^k:=Nat.mul_pos h hm;have hpow:10^(k+1)=10*10^k:=by rw[Nat.pow_succ,Nat.mul_comm]
  have e:q*10^(k+1)=10*(q*10^k):=by rw[hpow,Nat.mul_left_comm]
  rw[e]at*;rw[tK (by omega),show(10*(q*10^k)+r)/10=q*10^k+r/10 by omega,show(10*(q*10^k)+r)%10=r%10 by omega,Jk h (by omega),pad,iZ]
theorem Kr:∀{k:Nat},pad k 0=List.replicate k 48
 |0=>rfl
 |k+1=>by rw[pad,Kr,List.replicate_succ'];rfl
theorem C5:∀{k r:Nat},0<k->r<10^k->(Go.Lib.decDigits r).length<=k
 |0,_,h,_=>by omega
 |k+1,r,_,hr=>by
  rw[Go.Lib.decDigits];split
  . simp
  . have hk:0<k:=by
     rcases gv k with rfl|h
     . simp at hr;omega
     . exact h
    have:=C5 (k:=k) (r:=r/10) hk (by rw[Nat.pow_succ]at hr;omega);simp;omega
theorem Lx:∀{k r:Nat},0<k->r<10^k->pad k r=List.replicate (k-(Go.Lib.decDigits r).length) 48++Go.Lib.decDigits r
 |0,_,h,_=>by omega
 |k+1,r,_,hr=>by
  rw[Go.Lib.decDigits,pad];split
  . rw[show r/10=0 by omega,Kr,show r%10=r by omega];simp
  . have hk:0<k:=by
     rcases gv k with rfl|h
     . simp at hr;omega
     . exact h
    rw[Lx (k:=k) hk (by rw[Nat.pow_succ]at hr;omega)];rw[db,<-iZ];congr 2;congr 1;show _=k+1-(_+1);omega
theorem repeatL_one:∀{c:Nat},Go.Lib.repeatL [48] c=List.replicate c (48:UInt8)
 |0=>rfl
 |c+1=>by rw[Go.Lib.repeatL,repeatL_one,yj];rfl
theorem Ug:∀{xs:List (List UInt8)},Go.Lib.join xs []=xs.flatten
 |[]=>rfl
 |x::xs=>by
  rw[Go.Lib.join_cons,Go.Lib.joinTail];simp
def fb(v:Int):List UInt8:=if v<0 then 45::dec v.natAbs else Go.Lib.decDigits v.toNat
theorem uX{v:Int}(h:v<0):fb v=45::dec v.natAbs:=by rw[fb,if_pos h]
theorem uv{v:Int}(h:0<v):fb v=dec v.toNat:=by rw[fb,if_neg (by omega),sJ (by omega)]
theorem wP:fb 0=[48]:=by rw[fb,if_neg (by omega)];exact Ae
def body(s:List UInt8):List UInt8:=Go.Lib.trimPrefix s [45]
theorem DO{c:UInt8}{s:List UInt8}:body (c::s)=if c=45 then s else c::s:=by
 unfold body Go.Lib.trimPrefix Go.Lib.hasPrefix;by_cases h:c=45
 . subst h;rw[if_pos rfl,if_pos (by rfl)];rfl
 . rw[if_neg h,if_neg];intro e;have e1:([45]:List UInt8).isPrefixOf (c::s)=true:=e;rw[List.isPrefixOf_cons_cons]at e1;simp only[fD,beq_iff_eq]at e1;exact h e1.1.symm
theorem Nl:body []=[]:=by
 unfold body Go.Lib.trimPrefix Go.Lib.hasPrefix;simp
theorem I5{c:UInt8}(h:qG c):c≠45:=by
 intro e;subst e;unfold qG at h;simp at h
theorem Pn(v:Int):body (fb v)=Go.Lib.decDigits v.natAbs:=by
 rcases tj v 0 with h|rfl|h
 . rw[uX h,DO,if_pos rfl,sJ (by omega)]
 . rw[wP,DO,if_neg (by decide)];exact Ae.symm
 . rw[uv h,sJ (by omega),show v.natAbs=v.toNat by omega];cases hd:dec v.toNat with
   |nil=>exact Nl
   |cons c t=>rw[DO,if_neg (I5 (zQ v.toNat c (by rw[hd];exact cK)))]
theorem LG(n:Nat):Go.Lib.decDigits n≠[]:=by
 rcases gv n with rfl|h
 . rw[Ae];simp
 . rw[sJ h];exact OX h
theorem Qx(n:Nat):sD (Go.Lib.decDigits n)=n:=by
 rcases gv n with rfl|h
 . rw[Ae];rfl
 . rw[sJ h];exact Sk n
def sval(s:List UInt8):Int:=if s.head?=some 45 then-(sD (body s):Int)else sD (body s)
theorem I9(v:Int):sval (fb v)=v:=by
 unfold sval;rw[Pn,Qx];rcases tj v 0 with h|rfl|h
 . rw[if_pos (by rw[uX h];rfl)];omega
 . rw[if_neg (by rw[wP];decide)];rfl
 . rw[if_neg]
   . omega
   . rw[uv h];intro e;have:=zQ v.toNat 45 (List.mem_of_head? e);exact I5 this rfl
theorem Dn{B:Int}(hB:0<B){l:List Int}{v:Int}(h:Dg B l v):(List.length l:Int)>0↔v≠0:=by
 have:=h.zero hB;cases l with
 |nil=>
  have h0:=this.1 rfl;simp[h0]
 |cons x l=>
  have h0:v≠0:=fun e=>by have:=this.2 e;cases this
  simp only[cA];exact⟨fun _=>h0,fun _=>by omega⟩
theorem Jv:aC^10<=(10:Int)^97:=by decide+kernel
theorem Am{n:Nat}(h:n<10^97):(dec n).length<=97:=by
 rcases gv n with rfl|h0
 . rw[uW];simp
 . rw[<-sJ h0];exact C5 (by omega) h
theorem Fa:∀{xs:List (List UInt8)},(∀p∈xs,p≠[])->xs.length<=xs.flatten.length
 |[],_=>by simp
 |x::xs,h=>by
  have h1:=Fa (xs:=xs) (fun p hp=>h p (cH _ hp));have h2:=h x cK;have:0<x.length:=qN.2 h2;simp at h1⊢;omega
theorem M8{i:Int}{n:Nat}(h:i=(n:Int))(hn:n<18446744073709551616):Tm (fun N=>xH N i 10) (fun r=>r=Go.Lib.decDigits n):=
 ⟨_,0,rfl,fun N _=>by subst h;unfold xH;rw[if_pos ⟨by omega,by omega,rfl⟩,mc]⟩
theorem Qv{i:Int}{n:Nat}(h:i=(n:Int))(hn:n<1000):Tm (fun N=>wI N [48] i) (fun r=>r=List.replicate n 48):=
 ⟨_,0,rfl,fun N _=>by subst h;unfold wI;rw[if_pos ⟨by omega,by omega,by simp only[cA,dP];omega⟩,mc,repeatL_one]⟩
theorem Sm{xs:List (List UInt8)}(h:xs.length<=1000)(h':xs.flatten.length<=1000):Tm (fun N=>pY N xs []) (fun r=>r=xs.flatten):=
 ⟨_,0,rfl,fun N _=>by unfold pY;rw[Ug,if_pos ⟨by omega,by omega⟩]⟩
theorem O6{x:aB}(hd:bA aC x.aP)(hl:x.aP.length<=10):Tm (fun N=>uj N x) (fun r=>r=fb (bv x)):=by
 unfold uj;refine Tm.bind (ox hd (by omega)) ?_;rintro y ⟨hy,hyl⟩;have hz:=hy.dg.zero (by decide);refine aY (fun h=>aS ?_) (fun h=>?_)
 . have:y.aP=[]:=me.1 (by omega);have h0:bv x=0:=by have:=hz.1 this;omega
   rw[h0,wP]
 . have hne:y.aP≠[]:=fun e=>h (by rw[e];rfl);have h0:bv x≠0:=fun e=>hne (hz.2 (by omega));generalize hV:(bv x).natAbs=V at*;have hVlt:V<10^97:=by
    have h1:=gY (B:=aC) (by decide) hy.dg.bL;have h2:=j9 (B:=aC) (by decide) (show y.aP.length<=10 by omega);have h3:=Jv;rw[hy.dg.val]at h1;have:(V:Int)<((10^97:Nat):Int):=by rw[F8];omega
    exact Int.ofNat_lt.1 this
   refine Tm.bind (Q:=fun parts:List (List UInt8)=>parts.reverse.flatten=dec V/\∀p∈parts,p≠[])
    (Tm.loop (fun t:List (List UInt8)×List Int=>∃n:Nat,Dg aC t.2 n/\t.2.length<=10/\dec n++t.1.reverse.flatten=dec V/\∀p∈t.1,p≠[]) (fun t=>(val aC t.2).toNat)
     ⟨V,by rw[<-hV];exact hy.dg,by show y.aP.length<=10;omega,by simp,by simp⟩ ?_) ?_
   . rintro⟨parts,d⟩ ⟨n,hdn,hdl,hf,hp⟩;dsimp only[EY]at*;have hpl:parts.length<=97:=by
      have h1:=Fa (xs:=parts.reverse) (fun p hp'=>hp p (List.mem_reverse.1 hp'));have h2:=congrArg List.length hf;have h3:=Am hVlt;rw[db]at h2;rw[MO]at h1;omega
     refine aY (fun h=>?_) (fun h=>aS ?_)
     . have hn0:(n:Int)≠0:=(Dn (by decide) hdn).1 h;refine Tm.bind (Lk hdn.bL (by decide) (by decide) (by omega)) ?_;rintro⟨q,r⟩ ⟨hq1,hq2,hq3,hq4⟩;dsimp only at*;rw[hdn.val]at hq2 hq3;have hq2':val aC q=((n/1000000000:Nat):Int):=by rw[hq2];omega
       have hr':r=((n%1000000000:Nat):Int):=by rw[hq3];omega
       refine Tm.bind (oz hq1 (by omega)) ?_;rintro d' ⟨hd',hdl'⟩;rw[hq2']at hd';have hpos:=Dn (by decide) hd';have hlt:n%1000000000<10^9:=by omega
       have hdl9:=C5 (k:=9) (by omega) hlt;have huw:uw r=((n%1000000000:Nat):Int):=by rw[hr'];exact gH (by omega) (by omega)
       refine Tm.bind (M8 huw (by omega)) ?_;rintro _ rfl;have hμ:(val aC d').toNat<(val aC d).toNat:=by rw[hd'.val,hdn.val];omega
       refine Tm.bind (Q:=fun s=>s≠[]/\dec n=dec (n/1000000000)++s) (aY (fun h=>?_) (fun h=>aS ?_)) ?_
       . have hc:iw (9-((Go.Lib.decDigits (n%1000000000)).length:Int))=((9-(Go.Lib.decDigits (n%1000000000)).length:Nat):Int):=by rw[bK]<;>omega
         refine Tm.bind (Qv hc (by omega)) ?_;rintro _ rfl;refine aN (wx (by rw[kJ];omega)) (aS ⟨?_,?_⟩)
         . intro e;exact LG _ (FM.1 e).2
         . rw[<-Lx (by omega) hlt,<-Jk (by have:=hpos.1 h;omega) hlt];congr 1;omega
       . have hq0:n/1000000000=0:=by
          rcases gv (n/1000000000)with h1|h1
          . exact h1
          . exact absurd (hpos.2 (by omega)) h
         refine⟨LG _,?_⟩;rw[hq0,uW,show n%1000000000=n by omega,sJ (by omega)];rfl
       . rintro s ⟨hs1,hs2⟩;refine aN (dQ (by simp only[cA,dP];omega) (by decide)) (aS ⟨⟨n/1000000000,hd',by show d'.length<=10;omega,?_,?_⟩,hμ⟩)
         . rw[<-hf,hs2];simp
         . intro p hp';rcases fN.1 hp' with h1|h1
           . exact hp p h1
           . rw[cL.1 h1];exact hs1
     . have hn0:n=0:=by
        rcases gv n with h1|h1
        . exact h1
        . exact absurd ((Dn (by decide) hdn).2 (by omega)) h
       rw[hn0,uW]at hf;exact⟨by simpa using hf,hp⟩
   . rintro parts ⟨hf,hp⟩;have hlen:parts.length<=97:=by
      have h1:=Fa (xs:=parts.reverse) (fun p hp'=>hp p (List.mem_reverse.1 hp'));have h3:=Am hVlt;rw[hf,MO]at h1;omega
     refine Tm.bind (Q:=fun ps:List (List UInt8)=>ps.reverse.flatten=fb (bv x)/\ps.length<=98) (aY (fun h=>?_) (fun h=>aS ?_)) ?_
     . refine aN (dQ (by simp only[cA,dP];omega) (by decide)) (aS ⟨?_,by simp;omega⟩);have:bv x<0:=by rw[hy.neg]at h;simpa using h
       rw[uX this,MP,hV,<-hf];rfl
     . have:¬bv x<0:=by rw[hy.neg]at h;simpa using h
       rw[uv (by omega),hf,show(bv x).toNat=V by omega];exact⟨rfl,by omega⟩
     . rintro ps ⟨h1,h2⟩;have h3:(fb (bv x)).length<=98:=by
        have h3:=Am hVlt;rcases tj (bv x) 0 with h|h|h
        . rw[uX h,cA,hV];omega
        . exact absurd h h0
        . rw[uv h,show(bv x).toNat=V by omega];omega
       refine aU (a:=ps.reverse) ⟨_,0,rfl,fun N _=>by unfold xZ;rw[if_pos (by omega)]⟩ ?_;refine Tm.bind (Sm (by rw[MO];omega) (by rw[h1];omega)) ?_;rintro _ rfl;exact aS h1
theorem JU{v w:Int}(h:fb v=fb w):v=w:=by rw[<-I9 v,h,I9]
theorem BA(v:Int):∀c∈fb v,c≠32:=by
 intro c hc e;subst e;have key:∀{l:List UInt8},(∀c∈l,qG c)->(32:UInt8)∈l->False:=fun h h'=>by have:=h _ h';unfold qG at this;simp at this
 rcases tj v 0 with h|rfl|h
 . rw[uX h]at hc;rcases dY.1 hc with h1|h1
   . cases h1
   . exact key (zQ _) h1
 . rw[wP]at hc;simp at hc
 . rw[uv h]at hc;exact key (zQ _) hc
theorem JQ{v:Int}(h:dl v<=10):(fb v).length<=98:=by
 have h1:=u5 v;have h2:=Du h;have h3:=Jv;have hV:v.natAbs<10^97:=by
  have:(v.natAbs:Int)<((10^97:Nat):Int):=by rw[F8];omega
  exact Int.ofNat_lt.1 this
 have h4:=Am hV;rcases tj v 0 with h|rfl|h
 . rw[uX h,cA];omega
 . rw[wP];decide
 . rw[uv h,show v.toNat=v.natAbs by omega];omega
theorem Tp{v:Int}(h:dl v<=10):Tm (fun N=>uj N (B v)) (·=fb v):=(O6 (bL v) h).mono fun r h=>by rw[gB]at h;exact h
def keyOf(g:List Int):List UInt8:=Go.Lib.join (g.map fb) [32]
theorem Bv:∀{x y T U:List UInt8},(∀c∈x,c≠32)->(∀c∈y,c≠32)->(∀c,T.head?=some c->c=32)->(∀c,U.head?=some c->c=32)->x++T=y++U->x=y/\T=U
 |[],[],T,U,_,_,_,_,h=>⟨rfl,h⟩
 |[],d::y,T,U,_,hy,hT,_,h=>by
  have:T.head?=some d:=by rw[show T=d::y++U from h];rfl
  exact absurd (hT d this) (hy d cK)
 |c::x,[],T,U,hx,_,_,hU,h=>by
  have:U.head?=some c:=by rw[show U=c::x++T from h.symm];rfl
  exact absurd (hU c this) (hx c cK)
 |c::x,d::y,T,U,hx,hy,hT,hU,h=>by
  have h:c::(x++T)=d::(y++U):=h;obtain⟨e1,e2⟩:=vK h;subst e1;obtain⟨rfl,h2⟩:=Bv (fun c hc=>hx c (cH _ hc)) (fun c hc=>hy c (cH _ hc)) hT hU e2;exact⟨rfl,h2⟩
theorem zD{r:List (List UInt8)}:∀c,(Go.Lib.joinTail [32] r).head?=some c->c=32:=by
 intro c h;cases r with
 |nil=>cases h
 |cons x r=>simp[Go.Lib.joinTail]at h;exact h.symm
theorem If:∀{g h:List Int},g.length=h.length->Go.Lib.joinTail [32] (g.map fb)=Go.Lib.joinTail [32] (h.map fb)->g=h
 |[],[],_,_=>rfl
 |v::g,w::h,hl,e=>by
  have e:(32:UInt8)::(fb v++Go.Lib.joinTail [32] (g.map fb))=32::(fb w++Go.Lib.joinTail [32] (h.map fb)):=by simpa[Go.Lib.joinTail]using e
  obtain⟨h1,h2⟩:=Bv (BA v) (BA w) zD zD (vK e).2;rw[JU h1,If (by simpa using hl) h2]
theorem Ik{g h:List Int}(hl:g.length=h.length)(e:keyOf g=keyOf h):g=h:=by
 cases g with
 |nil=>cases h with
  |nil=>rfl
  |cons w h=>cases hl
 |cons v g=>
  cases h with
  |nil=>cases hl
  |cons w h=>
   unfold keyOf at e;rw[jT,jT,Go.Lib.join_cons,Go.Lib.join_cons]at e;obtain⟨h1,h2⟩:=Bv (BA v) (BA w) zD zD e;rw[JU h1,If (by simpa using hl) h2]
theorem GH:∀{g:List Int},(∀v∈g,dl v<=10)->(Go.Lib.joinTail [32] (g.map fb)).length<=99*g.length
 |[],_=>by simp[Go.Lib.joinTail]
 |v::g,h=>by
  have h1:=GH (g:=g) fun w hw=>h w (cH _ hw);have h2:=JQ (h v cK);have e:Go.Lib.joinTail [32] ((v::g).map fb)=(32:UInt8)::(fb v++Go.Lib.joinTail [32] (g.map fb)):=by simp[Go.Lib.joinTail]
  rw[e,cA,db,cA];omega
theorem QG{g:List Int}(h:∀v∈g,dl v<=10):(keyOf g).length<=99*g.length:=by
 cases g with
 |nil=>simp[keyOf,Go.Lib.join_nil]
 |cons v g=>
  have h1:=GH (g:=g) fun w hw=>h w (cH _ hw);have h2:=JQ (h v cK);unfold keyOf;rw[jT,Go.Lib.join_cons,db,cA];omega
theorem Io{g:List Int}(hl:g.length<=1000)(h:∀v∈g,dl v<=10):Tm (fun N=>tT N (g.map B)) (·=keyOf g):=by
 unfold tT;refine aU (a:=g.map fb) (eL g.length (fun k s=>s.2=(k:Int)/\s.1=(g.take k).map fb) ⟨rfl,rfl⟩ ?_) ?_
 . rintro k hk ⟨l,i⟩ ⟨rfl,rfl⟩;dsimp only[Ct];rw[cN];refine aY (fun hlt=>?_) (fun hge=>aM ?_)
   . have hlt:k<g.length:=by omega
     refine aN (de (by rw[cN];exact hlt)) ?_;rw[kK];refine aU (Tp (h _ (du hlt))) (aN (dQ (by simp only[cA,dP,cN,fg];omega) (by decide)) (aM ⟨hlt,ep (by omega),?_⟩));show _=(g.take (k+1)).map fb;rw[<-jV hlt,jU];rfl
   . show _=_;rw[fh (by omega)]
 . have:=QG h;refine aU (a:=keyOf g) ⟨_,0,rfl,fun N _=>?_⟩ (aM rfl);show pY N (g.map fb) [32]=some (keyOf g);unfold pY;rw[if_pos ⟨by rw[cN];omega,by show(keyOf g).length<=_;omega⟩];rfl
open Go Go.X
def lF(N:Nat)(s:aR)(x:aX):Option aB:=(idx s.known x.pos).bind fun x1=>some x1.dw
def xR(N:Nat)(s:aR)(x:aX):Option aB:=(idx s.known x.pos).bind fun x1=>some x1.dw
def xW(N:Nat)(Coefs138:(List aB))(b:bB)(c:dO):((List aB)×Int)->Option (aK ((List aB)×Int) (List aB))
 |(Coefs375,a)=>(if(a:Int)<(List.length Coefs138:Int)then (idx Coefs375 a).bind fun d=>(idx b.aZ a).bind fun e=>(j7 N c.N e).bind fun f=>(iV N d f).bind fun g=>(idx Coefs375 a).bind fun j=>(di Coefs375 a g).bind fun i=>some (aK.next (i,(iw (a+1)))) else some (aK.done Coefs375))
def Bb(N:Nat)(s:aR)(cD:(List dO)):((List aB)×aB×Int)->Option (aK ((List aB)×aB×Int) ((List aB)×aB))
 |(Coefs138,Bound139,a)=>(if(a:Int)<(List.length cD:Int)then (idx cD a).bind fun b=>(idx s.known b.Index).bind fun c=>(bJ (xW N Coefs138 c b) N (Coefs138,0)).bind fun ss=>match ss with
    |Coefs397=>(j7 N b.N c.dw).bind fun d=>(iV N Bound139 d).bind fun e=>some (aK.next (Coefs397,e,(iw (a+1)))) else some (aK.done (Coefs138,Bound139)))
def xo(N:Nat)(d:aB)(Coefs280:(List aB)):((List aB)×Int)->Option (aK ((List aB)×Int) (List aB))
 |(Coefs434,a)=>(if(a:Int)<(List.length Coefs280:Int)then (idx Coefs434 a).bind fun b=>(kx N b d).bind fun c=>(idx Coefs434 a).bind fun f=>(di Coefs434 a c.1).bind fun e=>some (aK.next (e,(iw (a+1)))) else some (aK.done Coefs434))
def pP(N:Nat)(s:aR)(cD:(List dO))(d:aB):Option bB:=(fW (α:=aB) 32 (aB.mk false ([]:(List Int))) s.n).bind fun x1=>(bJ (Bb N s cD) N (x1,(aB.mk false ([]:(List Int))),0)).bind fun ss=>match ss with
  |(Coefs280,Bound281)=>(bJ (xo N d Coefs280) N (Coefs280,0)).bind fun ss=>match ss with
    |Coefs452=>(kx N Bound281 d).bind fun a=>some (bB.mk Coefs452 a.1)
def xu(N:Nat)(g:(List aB))(d6:aB):((List aB)×Int)->Option (aK ((List aB)×Int) (List aB))
 |(b,a)=>(if(a:Int)<(List.length g:Int)then (idx g a).bind fun c=>(kx N c d6).bind fun d=>(idx b a).bind fun f=>(di b a d.1).bind fun e=>some (aK.next (e,(iw (a+1)))) else some (aK.done b))
def rS(N:Nat)(s:aR)(g:(List aB))(cD:(List dO)):Option (aX×Bool×Bool×aR):=(v7 N g).bind fun r1=>(gC N r1).bind fun r2=>((((if¬((r2:Int)≠0)then (fK N 1).bind fun j=>some j else some r1)):Option aB)).bind fun ss=>match ss with
  |d6=>(fK N 1).bind fun a=>((((if((List.length cD:Int):Int)>1 then some true else (idx cD 0).bind fun k=>(iz N k.N a).bind fun l=>(if(l:Int)≠0 then some true else (iz N d6 a).bind fun m=>some (decide ((m:Int)≠0))))):Option Bool)).bind fun ss=>match ss with
    |o=>((((if o=true then (cS 56 s.steps [(Step.mk cD d6)]).bind fun f=>(pP N (aR.mk s.n s.known f s.u s.status s.value s.items s.stack) cD d6).bind fun p=>(cS 56 s.known [p]).bind fun i=>some (i,f,[(dO.mk (iw ((List.length i:Int)-1)) a)]) else some (s.known,s.steps,cD))):Option ((List bB)×(List Step)×(List dO)))).bind fun ss=>match ss with
      |(b,c,v)=>(idx v 0).bind fun d=>(fW (α:=aB) 32 (aB.mk false ([]:(List Int))) s.n).bind fun y=>(bJ (xu N g d6) N (y,0)).bind fun ss=>match ss with
        |e=>(if(r2:Int)≠0 then some ((aX.mk d.Index e),(decide ((r2:Int)≠0)),true,(aR.mk s.n b c s.u s.status s.value s.items s.stack)) else (lF N (aR.mk s.n b c s.u s.status s.value s.items s.stack) (aX.mk d.Index e)).bind fun a0=>(gC N a0).bind fun a1=>some ((aX.mk d.Index e),(decide ((r2:Int)≠0)),(decide ((a1:Int)≥0)),(aR.mk s.n b c s.u s.status s.value s.items s.stack)))
def y8(N:Nat)(s:aR)(x:aX):Int->Option (aK Int (Sum Unit aR))
 |a=>(if(a:Int)<(List.length s.items:Int)then (idx s.items a).bind fun b=>(vO N x.g b.g (fun y0 y1=>qv N y0 y1)).bind fun c=>(if c=true then (lF N s x).bind fun d=>(lF N s b).bind fun e=>(iz N d e).bind fun f=>(if(f:Int)<0 then (idx s.items a).bind fun j=>(di s.items a x).bind fun i=>some (aK.done (Sum.inr (aR.mk s.n s.known s.steps s.u s.status s.value i s.stack))) else some (aK.done (Sum.inr s))) else some (aK.next (iw (a+1)))) else some (aK.done (Sum.inl ())))
def kW(N:Nat)(s:aR)(x:aX):Option aR:=(bJ (y8 N s x) N 0).bind fun ss=>match ss with
  |(Sum.inl _)=>(cS 32 s.items [x]).bind fun a=>some (aR.mk s.n s.known s.steps s.u s.status s.value a s.stack)
  |(Sum.inr z)=>some z
def mU(N:Nat)(s:aR)(g:(List aB))(cD:(List dO)):Option (Bool×aR):=(rS N s g cD).bind fun r1=>((((if r1.2.1=true then (kW N (aR.mk s.n r1.2.2.2.known r1.2.2.2.steps r1.2.2.2.u r1.2.2.2.status r1.2.2.2.value r1.2.2.2.items r1.2.2.2.stack) r1.1).bind fun a=>some (a.known,a.steps,a.u,a.status,a.value,a.items,a.stack) else some (r1.2.2.2.known,r1.2.2.2.steps,r1.2.2.2.u,r1.2.2.2.status,r1.2.2.2.value,r1.2.2.2.items,r1.2.2.2.stack))):Option ((List bB)×(List Step)×(List (List aB))×(List Int)×(List aB)×(List aX)×(List dI)))).bind fun ss=>match ss with
  |(known5,steps6,u7,status8,value9,b,c)=>some (r1.2.2.1,(aR.mk s.n known5 steps6 u7 status8 value9 b c))
def Fy(N:Nat)(s:aR):((List bB)×(List Step)×(List (List aB))×(List Int)×(List aB)×(List aX)×(List dI)×Int)->Option (aK ((List bB)×(List Step)×(List (List aB))×(List Int)×(List aB)×(List aX)×(List dI)×Int) (Sum ((List bB)×(List Step)×(List (List aB))×(List Int)×(List aB)×(List aX)×(List dI)) (Bool×aR)))
 |(c,d,e,f,g,i,j,b)=>(if(b:Int)<(List.length s.known:Int)then (idx c b).bind fun k=>(nI N k.aZ).bind fun l=>(fK N 1).bind fun m=>(mU N (aR.mk s.n c d e f g i j) l [(dO.mk b m)]).bind fun a=>(if(!a.1)=true then some (aK.done (Sum.inr (false,(aR.mk s.n a.2.known a.2.steps a.2.u a.2.status a.2.value a.2.items a.2.stack)))) else some (aK.next (a.2.known,a.2.steps,a.2.u,a.2.status,a.2.value,a.2.items,a.2.stack,(iw (b+1))))) else some (aK.done (Sum.inl (c,d,e,f,g,i,j))))
def uk(N:Nat)(s:aR):Option (Bool×aR):=(bJ (Fy N s) N (s.known,s.steps,s.u,s.status,s.value,s.items,s.stack,0)).bind fun ss=>match ss with
  |(Sum.inl (a,b,c,d,e,f,g))=>some (true,(aR.mk s.n a b c d e f g))
  |(Sum.inr z)=>some z
def ED(N:Nat)(s:aR):((List ((List UInt8)×Int))×Int)->Option (aK ((List ((List UInt8)×Int))×Int) (List ((List UInt8)×Int)))
 |(b,a)=>(if(a:Int)<(List.length s.items:Int)then (idx s.items a).bind fun c=>(tT N c.g).bind fun d=>some (aK.next ((jW b d a),(iw (a+1)))) else some (aK.done b))
def EO(N:Nat)(s:aR)(b:(List ((List UInt8)×Int))):Int->Option (aK Int (Sum Unit (Int×Int×Bool×Bool×aR)))
 |c=>(if(c:Int)<(List.length s.items:Int)then ((((idx s.items c).bind fun e=>(mW N e.g).bind fun i=>(tT N i).bind fun d=>((((if(!(fm b d 0).2)=true then some true else some (decide ((((fm b d 0).1):Int)<c)))):Option Bool)).bind fun ss=>match ss with
    |j=>(if j=true then some (Sum.inl ()) else (lF N s e).bind fun k=>(idx s.items ((fm b d 0).1)).bind fun l=>(lF N s l).bind fun m=>(iV N k m).bind fun o=>(gC N o).bind fun f=>(if(f:Int)=(-1)then (fW (α:=aB) 32 (aB.mk false ([]:(List Int))) s.n).bind fun p=>(fK N 1).bind fun v=>(idx s.items ((fm b d 0).1)).bind fun y=>(fK N 1).bind fun a0=>(mU N s p [(dO.mk e.pos v),(dO.mk y.pos a0)]).bind fun a=>some (Sum.inr (0,0,false,false,(aR.mk s.n a.2.known a.2.steps a.2.u a.2.status a.2.value a.2.items a.2.stack))) else (if(f:Int)=0 then some (Sum.inr (c,(fm b d 0).1,true,true,s)) else some (Sum.inl ()))))):Option (Sum Unit (Int×Int×Bool×Bool×aR)))).bind fun ss=>match ss with
    |(Sum.inl _)=>some (aK.next (iw (c+1)))
    |(Sum.inr z)=>some (aK.done (Sum.inr z)) else some (aK.done (Sum.inl ())))
def uZ(N:Nat)(s:aR):Option (Int×Int×Bool×Bool×aR):=(bJ (ED N s) N (([]:(List ((List UInt8)×Int))),0)).bind fun ss=>match ss with
  |a=>(bJ (EO N s a) N 0).bind fun ss=>match ss with
    |(Sum.inl _)=>some (0,0,false,true,s)
    |(Sum.inr z)=>some z
def l7(N:Nat)(l:(List aB))(c0:Int)(c1:aB)(c2:Int):Option (List aB):=(nI N l).bind fun r1=>(idx r1 c0).bind fun x2=>(idx r1 c2).bind fun x3=>(j7 N c1 x3).bind fun r4=>(iS N x2 r4).bind fun r5=>(idx r1 c0).bind fun x6=>(di r1 c0 r5).bind fun x7=>some x7
def lJ(N:Nat)(l:(List aB))(c0:Int):Option (List aB):=(nI N l).bind fun r1=>(idx r1 c0).bind fun x2=>(jd N x2).bind fun r3=>(idx r1 c0).bind fun x4=>(di r1 c0 r3).bind fun x5=>some x5
def Ag(N:Nat)(s:aR)(j:Int)(p:Int)(q:aB):((List (List aB))×Int)->Option (aK ((List (List aB))×Int) (List (List aB)))
 |(b,a)=>(if(a:Int)<(List.length s.u:Int)then (idx b a).bind fun c=>((fun y0=>l7 N y0 j q p) c).bind fun d=>(idx b a).bind fun f=>(di b a d).bind fun e=>some (aK.next (e,(iw (a+1)))) else some (aK.done b))
def yy(N:Nat)(s:aR)(j:Int)(p:Int)(q:aB):((List aX)×Int)->Option (aK ((List aX)×Int) (List aX))
 |(b,a)=>(if(a:Int)<(List.length s.items:Int)then (idx b a).bind fun c=>((fun y0=>l7 N y0 j q p) c.g).bind fun d=>(idx b a).bind fun e=>(di b a (aX.mk e.pos d)).bind fun f=>some (aK.next (f,(iw (a+1)))) else some (aK.done b))
def wD(N:Nat)(s:aR)(j:Int)(p:Int)(q:aB):Option aR:=(bJ (Ag N s j p q) N (s.u,0)).bind fun ss=>match ss with
  |a=>(bJ (yy N s j p q) N (s.items,0)).bind fun ss=>match ss with
    |b=>some (aR.mk s.n s.known s.steps a s.status s.value b s.stack)
def Bd(N:Nat)(s:aR)(p:Int):((List (List aB))×Int)->Option (aK ((List (List aB))×Int) (List (List aB)))
 |(b,a)=>(if(a:Int)<(List.length s.u:Int)then (idx b a).bind fun c=>((fun y0=>lJ N y0 p) c).bind fun d=>(idx b a).bind fun f=>(di b a d).bind fun e=>some (aK.next (e,(iw (a+1)))) else some (aK.done b))
def zm(N:Nat)(s:aR)(p:Int):((List aX)×Int)->Option (aK ((List aX)×Int) (List aX))
 |(b,a)=>(if(a:Int)<(List.length s.items:Int)then (idx b a).bind fun c=>((fun y0=>lJ N y0 p) c.g).bind fun d=>(idx b a).bind fun e=>(di b a (aX.mk e.pos d)).bind fun f=>some (aK.next (f,(iw (a+1)))) else some (aK.done b))
def wR(N:Nat)(s:aR)(p:Int):Option aR:=(bJ (Bd N s p) N (s.u,0)).bind fun ss=>match ss with
  |a=>(bJ (zm N s p) N (s.items,0)).bind fun ss=>match ss with
    |b=>some (aR.mk s.n s.known s.steps a s.status s.value b s.stack)
def zi(N:Nat)(b:aX):(Int×Int)->Option (aK (Int×Int) Int)
 |(c,a)=>(if(a:Int)<(List.length b.g:Int)then (((((((idx b.g a).bind fun d=>(gC N d).bind fun e=>(if(e:Int)≠0 then (if(c:Int)<0 then some true else (idx b.g a).bind fun f=>((fun y0=>qp N y0) f).bind fun i=>(idx b.g c).bind fun j=>((fun y0=>qp N y0) j).bind fun k=>(iz N i k).bind fun l=>some (decide ((l:Int)<0))) else some false)):Option Bool)).bind fun ss=>match ss with
    |m=>(if m=true then some a else some c)):Option Int)).bind fun ss=>match ss with
    |n=>some (aK.next (n,(iw (a+1)))) else some (aK.done c))
def zM(N:Nat)(s:aR)(i:Int)(d:aX)(e:Int):((List bB)×(List Step)×(List (List aB))×(List Int)×(List aB)×(List aX)×(List dI)×Bool×Int)->Option (aK ((List bB)×(List Step)×(List (List aB))×(List Int)×(List aB)×(List aX)×(List dI)×Bool×Int) ((List bB)×(List Step)×(List (List aB))×(List Int)×(List aB)×(List aX)×(List dI)×Bool))
 |(f,j,k,l,m,c,o,p,b)=>(if(b:Int)<(List.length d.g:Int)then (((((((if(b:Int)≠e then (idx c i).bind fun v=>(idx v.g b).bind fun y=>(gC N y).bind fun a0=>some (decide ((a0:Int)≠0)) else some false)):Option Bool)).bind fun ss=>match ss with
    |a1=>(if a1=true then (idx d.g b).bind fun a2=>(idx d.g e).bind fun a3=>(kx N a2 a3).bind fun a4=>(wD N (aR.mk s.n f j k l m c o) b e a4.1).bind fun a=>some (a.known,a.steps,a.u,a.status,a.value,a.items,a.stack,false) else some (f,j,k,l,m,c,o,p))):Option ((List bB)×(List Step)×(List (List aB))×(List Int)×(List aB)×(List aX)×(List dI)×Bool))).bind fun ss=>match ss with
    |(a5,a6,a7,a8,a9,aa,ab,ac)=>some (aK.next (a5,a6,a7,a8,a9,aa,ab,ac,(iw (b+1)))) else some (aK.done (f,j,k,l,m,c,o,p)))
def Ax(N:Nat)(s:aR)(i:Int):((List bB)×(List Step)×(List (List aB))×(List Int)×(List aB)×(List aX)×(List dI))->Option (aK ((List bB)×(List Step)×(List (List aB))×(List Int)×(List aB)×(List aX)×(List dI)) (Int×aR))
 |(p,v,y,a0,a1,o,a2)=>(idx o i).bind fun c=>(bJ (zi N c) N ((-1),0)).bind fun ss=>match ss with
   |b=>(bJ (zM N s i c b) N (p,v,y,a0,a1,o,a2,true,0)).bind fun ss=>match ss with
     |(d,e,f,j,k,l,m,a3)=>(if a3=true then (idx c.g b).bind fun a4=>(gC N a4).bind fun a5=>((((if(a5:Int)<0 then (wR N (aR.mk s.n d e f j k l m) b).bind fun a=>some (a.known,a.steps,a.u,a.status,a.value,a.items,a.stack) else some (d,e,f,j,k,l,m))):Option ((List bB)×(List Step)×(List (List aB))×(List Int)×(List aB)×(List aX)×(List dI)))).bind fun ss=>match ss with
        |(a6,a7,a8,a9,aa,ab,ac)=>some (aK.done (b,(aR.mk s.n a6 a7 a8 a9 aa ab ac))) else some (aK.next (d,e,f,j,k,l,m)))
def wO(N:Nat)(s:aR)(i:Int):Option (Int×aR):=(bJ (Ax N s i) N (s.known,s.steps,s.u,s.status,s.value,s.items,s.stack)).bind fun ss=>match ss with
  |z=>some z
def Fo(N:Nat)(s:aR)(i:Int)(j:Int)(r1:(Int×aR))(x2:aX)(x3:aX):((List bB)×(List Step)×(List (List aB))×(List Int)×(List aB)×(List aX)×(List dI)×Int)->Option (aK ((List bB)×(List Step)×(List (List aB))×(List Int)×(List aB)×(List aX)×(List dI)×Int) (Sum ((List bB)×(List Step)×(List (List aB))×(List Int)×(List aB)×(List aX)×(List dI)) (Bool×aR)))
 |(d,e,f,k,l,m,o,c)=>(if(c:Int)<(List.length r1.2.items:Int)then ((((idx r1.2.items c).bind fun p=>((((if(c:Int)=i then some true else some (decide ((c:Int)=j)))):Option Bool)).bind fun ss=>match ss with
    |a0=>(if a0=true then some (Sum.inl (d,e,f,k,l,m,o)) else (idx p.g r1.1).bind fun v=>(gC N v).bind fun a1=>(if(a1:Int)=0 then (kW N (aR.mk s.n d e f k l m o) p).bind fun b=>some (Sum.inl (b.known,b.steps,b.u,b.status,b.value,b.items,b.stack)) else (nI N p.g).bind fun y=>(idx y r1.1).bind fun ae=>(di y r1.1 (aB.mk false ([]:(List Int)))).bind fun a2=>(gC N v).bind fun a3=>((((if(a3:Int)<0 then (jd N v).bind fun a4=>some (dO.mk x2.pos a4) else some (dO.mk x3.pos v))):Option dO)).bind fun ss=>match ss with
        |a5=>(fK N 1).bind fun a6=>(mU N (aR.mk s.n d e f k l m o) a2 [(dO.mk p.pos a6),a5]).bind fun a=>(if(!a.1)=true then some (Sum.inr (false,(aR.mk s.n a.2.known a.2.steps a.2.u a.2.status a.2.value a.2.items a.2.stack))) else some (Sum.inl (a.2.known,a.2.steps,a.2.u,a.2.status,a.2.value,a.2.items,a.2.stack)))))):Option (Sum ((List bB)×(List Step)×(List (List aB))×(List Int)×(List aB)×(List aX)×(List dI)) (Bool×aR)))).bind fun ss=>match ss with
    |(Sum.inl (a7,a8,a9,aa,ab,ac,ad))=>some (aK.next (a7,a8,a9,aa,ab,ac,ad,(iw (c+1))))
    |(Sum.inr z)=>some (aK.done (Sum.inr z)) else some (aK.done (Sum.inl (d,e,f,k,l,m,o))))
def rA(N:Nat)(s:aR)(i:Int)(j:Int):Option (Bool×aR):=(wO N s i).bind fun r1=>(idx r1.2.items i).bind fun x2=>(idx r1.2.items j).bind fun x3=>(lF N (aR.mk s.n r1.2.known r1.2.steps r1.2.u r1.2.status r1.2.value r1.2.items r1.2.stack) x2).bind fun r4=>(idx r1.2.status r1.1).bind fun x5=>(di r1.2.status r1.1 1).bind fun x6=>(idx r1.2.value r1.1).bind fun x7=>(di r1.2.value r1.1 r4).bind fun x8=>(bJ (Fo N s i j r1 x2 x3) N (r1.2.known,r1.2.steps,r1.2.u,x6,x8,([]:(List aX)),r1.2.stack,0)).bind fun ss=>match ss with
  |(Sum.inl (a,b,c,d,e,f,g))=>some (true,(aR.mk s.n a b c d e f g))
  |(Sum.inr z)=>some z
def CS(N:Nat)(s:aR)(y:(List aB))(a:Int):((List aB)×Int)->Option (aK ((List aB)×Int) (List aB))
 |(b,c)=>(if(c:Int)<(List.length y:Int)then (idx b a).bind fun d=>(idx s.u a).bind fun e=>(idx e c).bind fun f=>(idx y c).bind fun g=>(j7 N f g).bind fun i=>(iV N d i).bind fun j=>(idx b a).bind fun l=>(di b a j).bind fun k=>some (aK.next (k,(iw (c+1)))) else some (aK.done b))
def zZ(N:Nat)(s:aR)(y:(List aB))(x1:(List aB)):((List aB)×Int)->Option (aK ((List aB)×Int) (List aB))
 |(b,a)=>(if(a:Int)<(List.length x1:Int)then (bJ (CS N s y a) N (b,0)).bind fun ss=>match ss with
    |c=>some (aK.next (c,(iw (a+1)))) else some (aK.done b))
def pN(N:Nat)(s:aR)(y:(List aB)):Option (List aB):=(fW (α:=aB) 32 (aB.mk false ([]:(List Int))) s.n).bind fun x1=>(bJ (zZ N s y x1) N (x1,0)).bind fun ss=>match ss with
  |a=>some a
open Go Go.X
structure AQ where
 c:List Int
 b:Int
structure AI where
 pos:Nat
 g:List Int
structure AU where
 ix:Nat
 n:Int
structure AS where
 cD:List AU
 d:Int
structure AE where
 v:Nat
 items:List Nat
 dz:Bool
structure St where
 n:Nat
 known:List AQ
 steps:List AS
 u:List (List Int)
 status:List Int
 value:List Int
 items:List AI
 stack:List AE
def mB(l:List Int):List aB:=l.map B
def AQ.to(q:AQ):bB:=⟨mB q.c,B q.b⟩
def AI.to(x:AI):aX:=⟨x.pos,mB x.g⟩
def AU.to(u:AU):dO:=⟨u.ix,B u.n⟩
def AS.to(s:AS):Step:=⟨s.cD.map AU.to,B s.d⟩
def AE.to(e:AE):dI:=⟨e.v,e.items.map Int.ofNat,e.dz⟩
def St.to(s:St):aR:=⟨s.n,s.known.map AQ.to,s.steps.map AS.to,s.u.map mB,s.status,mB s.value,s.items.map AI.to,s.stack.map AE.to⟩
theorem ir{x:aR}{n:Int}(h:n=x.n):aR.mk n x.known x.steps x.u x.status x.value x.items x.stack=x:=by subst h;rfl
theorem dG(l:List Int):(mB l).length=l.length:=cN ..
theorem DZ{l:List Int}{k:Nat}(h:k<(mB l).length):(mB l)[k]=B (l[k]'(by rwa[dG]at h)):=kK ..
theorem Ju{l:List Int}{k:Nat}(h:k<l.length):idx (mB l) (k:Int)=some (B l[k]):=by
 rw[de (by rw[dG];exact h),DZ]
theorem va{l:List Int}{k:Nat}{v:Int}:(mB l).set k (B v)=mB (l.set k v):=by unfold mB;rw[BZ]
theorem pf{n:Nat}:mB (List.replicate n 0)=List.replicate n ⟨false,[]⟩:=by unfold mB;rw[List.map_replicate,B0]
def vf(l:List Int)(j:Nat):Int:=l.getD j 0
theorem nH{l:List Int}{j:Nat}(h:j<l.length):vf l j=l[j]:=by unfold vf;rw[cy,bV h];rfl
theorem mG{l:List Int}{j:Nat}(h:l.length<=j):vf l j=0:=by unfold vf;rw[cy,fM h];rfl
theorem ei{l:List Int}{k:Nat}(h:k<l.length):idx (mB l) (k:Int)=some (B (vf l k)):=by rw[Ju h,nH h]
def vec(n:Nat)(f:Nat->Int):List Int:=(List.range n).map f
theorem eZ{n:Nat}{f:Nat->Int}:(vec n f).length=n:=by simp[vec]
theorem dJ{n j:Nat}{f:Nat->Int}(h:j<n):vf (vec n f) j=f j:=by rw[nH (by rw[eZ];exact h)];simp[vec]
theorem JZ{n:Nat}{f g:Nat->Int}(h:∀j,j<n->f j=g j):vec n f=vec n g:=B5 fun j hj=>h j (sY.1 hj)
theorem lY{a b:List Int}(hl:a.length=b.length)(h:∀j,j<a.length->vf a j=vf b j):a=b:=by
 apply pJ hl;intro i h1 h2;rw[<-nH h1,<-nH h2];exact h i h1
theorem gE{l:List Int}{v:Int}(h:v∈l):∃j,j<l.length/\vf l j=v:=by
 obtain⟨j,hj,rfl⟩:=nc h;exact⟨j,hj,nH hj⟩
theorem gr{l:List Int}{j:Nat}(h:j<l.length):vf l j∈l:=by rw[nH h];exact du h
theorem jO{l:List Int}{k j:Nat}{v:Int}(h:k<l.length):vf (l.set k v) j=if k=j then v else vf l j:=by
 unfold vf;rw[cy,cy,qK];by_cases e:k=j
 . subst e;simp[h]
 . simp[e]
theorem Tm.fill{α ρ:Type}{n:Nat}(hn:n<=9223372036854775806){c0:List α}(F:Nat->α)(h0:c0.length=n){body:Nat->List α×Int->Option (aK (List α×Int) ρ)}{fin:List α->ρ}
 (step:∀k,k<n->∀c:List α,c.length=n->c[k]?=c0[k]?->Tm (fun N=>body N (c,(k:Int))) (·=.next (c.set k (F k),iw ((k:Int)+1))))
 (stop:∀c:List α,c.length=n->Tm (fun N=>body N (c,(n:Int))) (·=.done (fin c))):
 Tm (fun N=>bJ (body N) N (c0,0)) (·=fin ((List.range n).map F)):=by
 refine eL n (fun k s=>s.2=(k:Int)/\s.1.length=n/\(∀j,j<k->s.1[j]?=some (F j))/\∀j,k<=j->s.1[j]?=c0[j]?) ⟨rfl,h0,fun j hj=>by omega,fun j _=>rfl⟩ ?_;rintro k hk ⟨c,i⟩ ⟨rfl,hc,h1,h2⟩;dsimp only at hc h1 h2;rcases cv k n with hlt|hge
 . refine(step k hlt c hc (h2 k (bI _))).mono fun t ht=>?_;subst ht;refine⟨hlt,ep (by omega),by rw[iO];exact hc,fun j hj=>?_,fun j hj=>?_⟩
   . show(c.set k (F k))[j]?=_;rw[qK];by_cases e:k=j
     . subst e;simp[hc,hlt]
     . rw[if_neg e];exact h1 j (by omega)
   . show(c.set k (F k))[j]?=_;rw[qK,if_neg (by omega)];exact h2 j (by omega)
 . obtain rfl:k=n:=by omega
   refine(stop c hc).mono fun t ht=>?_;subst ht;show fin c=_;congr 1;apply pF;intro j;rcases cv j k with hj|hj
   . rw[h1 j hj];simp[hj]
   . rw[fM (by omega),fM (by simp;omega)]
theorem Tm.sG{ρ:Type}{n:Nat}(hn:n<=9223372036854775806){c0:List Int}(F:Nat->Int)(h0:c0.length=n){body:Nat->List aB×Int->Option (aK (List aB×Int) ρ)}{fin:List aB->ρ}
 (step:∀k,k<n->∀c:List aB,c.length=n->idx c (k:Int)=some (B (vf c0 k))->Tm (fun N=>body N (c,(k:Int))) (·=.next (c.set k (B (F k)),iw ((k:Int)+1))))
 (stop:∀c:List aB,c.length=n->Tm (fun N=>body N (c,(n:Int))) (·=.done (fin c))):
 Tm (fun N=>bJ (body N) N (mB c0,0)) (·=fin (mB (vec n F))):=by
 have:=Tm.fill hn (c0:=mB c0) (fun j=>B (F j)) (by rw[dG,h0]) (body:=body) (fin:=fin) (fun k hk c hc h=>step k hk c hc (by rw[Cc,h,<-Cc];exact ei (by omega))) stop;refine this.mono fun r hr=>?_;rw[hr];unfold mB vec;rw[mf];rfl
def dc:List Int->Nat
 |[]=>0
 |x::l=>Int.gcd x (dc l)
theorem qW:∀{l:List Int} {x:Int},x∈l->((dc l:Nat):Int)∣x
 |y::l,x,h=>by
  rcases dY.1 h with rfl|h
  . exact Int.gcd_dvd_left ..
  . exact Int.dvd_trans (Int.gcd_dvd_right ..) (qW h)
theorem oW:∀{l:List Int} {d:Int},(∀x∈l,d∣x)->d∣((dc l:Nat):Int)
 |[],d,_=>by simp[dc]
 |y::l,d,h=>by
  have h1:=h y cK;have h2:=oW (l:=l) fun x hx=>h x (cH _ hx);exact Int.dvd_coe_gcd h1 h2
theorem JN{l:List Int}(h:dc l=0):∀x∈l,x=0:=fun x hx=>by
 have:=qW hx;rw[h]at this;exact Int.zero_dvd.1 this
theorem Ti{a:Int}{b:Nat}{K:Nat}(h:dl a<=K)(h':dl b<=K):dl (Int.gcd a b:Nat)<=K:=by
 rcases tj a 0 with h1|h1|h1
 . exact bO (sb (by have:=Nat.le_of_dvd (by omega) (Nat.gcd_dvd_left a.natAbs b);show((Int.gcd a b:Nat):Int).natAbs<=_;rw[MQ];exact this)) h
 . subst h1;rw[Int.zero_gcd];exact h'
 . exact bO (sb (by have:=Nat.le_of_dvd (by omega) (Nat.gcd_dvd_left a.natAbs b);show((Int.gcd a b:Nat):Int).natAbs<=_;rw[MQ];exact this)) h
theorem uS:∀{l:List Int} {K:Nat},(∀v∈l,dl v<=K)->dl (dc l:Nat)<=K
 |[],K,_=>by show dl 0<=K;rw[ie];omega
 |x::l,K,h=>Ti (h x cK) (uS fun v hv=>h v (cH _ hv))
theorem Ly{l:List Int}{k:Nat}(h:k<l.length):Int.gcd (dc (l.take k):Nat) l[k]=dc (l.take (k+1)):=by
 have key:∀(a:List Int) (x:Int),dc (a++[x])=Int.gcd (dc a:Nat) x:=by
  intro a x
  induction a with
  |nil=>show Int.gcd x (0:Nat)=Int.gcd (0:Nat) x;rw[Int.gcd_comm]
  |cons y a ih=>
   show Int.gcd y (dc (a++[x]):Nat)=Int.gcd (Int.gcd y (dc a:Nat):Nat) x;rw[ih,Int.gcd_assoc]
 rw[<-jV h,key]
theorem R6{l:List Int}{K:Nat}(hK:K<=cX)(hl:l.length<=9223372036854775806)(h:∀v∈l,dl v<=K):Tm (fun N=>v7 N (mB l)) (·=B (dc l:Nat)):=by
 unfold v7;refine aU (a:=((B (dc l:Nat)).bF,(B (dc l:Nat)).aP)) (eL l.length (fun k s=>s.2.2=(k:Int)/\s.1=(B (dc (l.take k):Nat)).bF/\s.2.1=(B (dc (l.take k):Nat)).aP) ⟨rfl,by show false=(B 0).bF;rw[B0],by show[]=(B 0).aP;rw[B0]⟩ ?_) (aM rfl);rintro k hk ⟨a,b,i⟩ ⟨rfl,rfl,rfl⟩;dsimp only[Ch];rw[dG];refine aY (fun hlt=>?_) (fun hge=>aM ?_)
 . have hlt:k<l.length:=by omega
   refine aN (Ju hlt) (aU (tmGcd (a:=(dc (l.take k):Nat)) (b:=l[k]) (bO (uS fun v hv=>h v (ta hv)) hK) (bO (h _ (du hlt)) hK)) (aM ⟨hlt,ep (by omega),?_,?_⟩))
   . dsimp only;rw[Ly]
   . dsimp only;rw[Ly]
 . show _=_;rw[fh (by omega)]
theorem sE{l:List Int}{K:Nat}(hK:K<=cX)(hl:l.length<=1073741824)(h:∀v∈l,dl v<=K):Tm (fun N=>mW N (mB l)) (·=mB (vec l.length fun j=>-vf l j)):=by
 unfold mW;refine aN (gW (n:=l.length) (by rw[dG]) (by omega) (by decide)) ?_;rw[show(aB.mk false ([]:List Int))=B 0 from B0.symm,show List.replicate l.length (B 0)=mB (List.replicate l.length 0) by rw[pf,B0]];refine aU (Tm.sG (n:=l.length) (by omega) (fun j=>-vf l j) (by simp) (fin:=id) ?_ ?_) (aM rfl)
 . intro k hk c hc hi;dsimp only[zK];refine cY (by rw[dG];omega) (aN (ei hk) (aU (nu (bO (h _ (gr hk)) hK)) (aN hi (aN (ed rfl (by omega)) (aM rfl)))))
 . intro c hc;dsimp only[zK];exact cz (by rw[dG];omega) (aM rfl)
def bT(l:List Int):List Int:=vec l.length fun j=>-vf l j
theorem iY(l:List Int):(bT l).length=l.length:=eZ
theorem iF{l:List Int}{j:Nat}:vf (bT l) j=-vf l j:=by
 rcases cv j l.length with h|h
 . exact dJ h
 . rw[mG (by rw[iY];exact h),mG h];rfl
theorem EJ{l:List Int}{v:Int}(h:v∈bT l):-v∈l:=by
 obtain⟨j,hj,rfl⟩:=gE h;rw[iF,Int.neg_neg];exact gr (by rwa[iY]at hj)
theorem CU(l:List Int):bT (bT l)=l:=lY (by rw[iY,iY]) fun j _=>by rw[iF,iF,Int.neg_neg]
def aI(kn:List AQ)(i:Nat):AQ:=kn.getD i ⟨[],0⟩
theorem uP{kn:List AQ}{i:Nat}(h:i<kn.length):aI kn i=kn[i]:=by unfold aI;rw[cy,bV h];rfl
theorem iI{kn e:List AQ}{i:Nat}(h:i<kn.length):aI (kn++e) i=aI kn i:=by
 unfold aI;rw[cy,cy,jR h]
theorem pD{kn:List AQ}{q:AQ}:aI (kn++[q]) kn.length=q:=by
 unfold aI;rw[cy];simp
theorem eK{kn:List AQ}{i:Nat}(h:i<kn.length):aI kn i∈kn:=by rw[uP h];exact du h
theorem nM{kn:List AQ}{i:Nat}(h:i<kn.length):idx (kn.map AQ.to) (i:Int)=some (aI kn i).to:=by
 rw[de (by simpa using h),kK,uP h]
theorem qR{s:St}{x:AI}(h:x.pos<s.known.length):Tm (fun N=>lF N s.to x.to) (·=B (aI s.known x.pos).b):=by
 unfold lF;exact aN (nM h) (aM rfl)
theorem LN{s:St}{x:AI}(h:x.pos<s.known.length):Tm (fun N=>xR N s.to x.to) (·=B (aI s.known x.pos).b):=qR h
def dU(kn:List AQ):List AU->Nat->Int
 |[],_=>0
 |u::us,j=>u.n*vf (aI kn u.ix).c j+dU kn us j
def fY(kn:List AQ):List AU->Int
 |[]=>0
 |u::us=>u.n*(aI kn u.ix).b+fY kn us
theorem GO{kn:List AQ}{u:AU}{j:Nat}:∀{us:List AU},dU kn (us++[u]) j=dU kn us j+u.n*vf (aI kn u.ix).c j
 |[]=>by show u.n*vf (aI kn u.ix).c j+0=0+_;omega
 |v::us=>by show _+dU kn (us++[u]) j=_+_+_;rw[GO];omega
theorem Jq{kn:List AQ}{u:AU}:∀{us:List AU},fY kn (us++[u])=fY kn us+u.n*(aI kn u.ix).b
 |[]=>by show u.n*(aI kn u.ix).b+0=0+_;omega
 |v::us=>by show _+fY kn (us++[u])=_+_+_;rw[Jq];omega
def fA(K:Nat)(q:AQ):Prop:=(∀v∈q.c,dl v<=K)/\dl q.b<=K
theorem fA.vf{K:Nat}{q:AQ}(h:fA K q)(j:Nat):dl (vf q.c j)<=K:=by
 rcases cv j q.c.length with hj|hj
 . exact h.1 _ (gr hj)
 . rw[mG hj,ie];omega
theorem fA.mono{K K':Nat}{q:AQ}(h:fA K q)(hK:K<=K'):fA K' q:=⟨fun v hv=>bO (h.1 v hv) hK,bO h.2 hK⟩
def lV(n K:Nat)(kn:List AQ)(u:AU):Prop:=u.ix<kn.length/\0<=u.n/\dl u.n<=4/\fA K (aI kn u.ix)/\(aI kn u.ix).c.length=n
theorem AO{n K:Nat}{kn:List AQ}{j:Nat}:∀{us:List AU},(∀u∈us,lV n K kn u)->dl (dU kn us j)<=K+4+us.length
 |[],_=>by show dl 0<=_;rw[ie];omega
 |u::us,h=>by
  have h1:=h u cK;have h2:=AO (j:=j) (us:=us) fun v hv=>h v (cH _ hv);have h3:=j5 u.n (vf (aI kn u.ix).c j);have h4:=h1.2.2.2.1.vf j;have h5:=h1.2.2.1;have:=oK (K:=K+4+us.length) (a:=u.n*vf (aI kn u.ix).c j) (b:=dU kn us j) (by omega) h2;show dl (_+_)<=_;rw[cA];omega
theorem As{n K:Nat}{kn:List AQ}:∀{us:List AU},(∀u∈us,lV n K kn u)->dl (fY kn us)<=K+4+us.length
 |[],_=>by show dl 0<=_;rw[ie];omega
 |u::us,h=>by
  have h1:=h u cK;have h2:=As (us:=us) fun v hv=>h v (cH _ hv);have h3:=j5 u.n (aI kn u.ix).b;have h4:=h1.2.2.2.1.2;have h5:=h1.2.2.1;have:=oK (K:=K+4+us.length) (a:=u.n*(aI kn u.ix).b) (b:=fY kn us) (by omega) h2;show dl (_+_)<=_;rw[cA];omega
def mE(n:Nat)(kn:List AQ)(us:List AU)(d:Int):AQ:=⟨vec n fun j=>dU kn us j/d,fY kn us/d⟩
theorem tmSum{s:St}{K:Nat}(hK:K<=1099511627000){us:List AU}{d:Int}(hn:s.n<=512)(hu:∀u∈us,lV s.n K s.known u)(hul:us.length<=2)(hd:0<d)(hdl:dl d<=cX):
 Tm (fun N=>pP N s.to (us.map AU.to) (B d)) (·=(mE s.n s.known us d).to):=by
 have hL:cX=1099511627776:=rfl;unfold pP;refine aN (gW (n:=s.n) rfl (by omega) (by decide)) ?_;rw[<-pf];refine aU (a:=(mB (vec s.n fun j=>dU s.known us j),B (fY s.known us))) (eL us.length (fun k t=>t.2.2=(k:Int)/\t.1=mB (vec s.n fun j=>dU s.known (us.take k) j)/\t.2.1=B (fY s.known (us.take k))) ⟨rfl,?_,B0.symm⟩ ?_) ?_
 . show mB (List.replicate s.n 0)=mB (vec s.n fun j=>0);congr 1;apply pJ (by simp[vec]);intro i h1 h2;simp[vec]
 . rintro k hk ⟨c,b,i⟩ ⟨rfl,rfl,rfl⟩;dsimp only[Bb];rw[cN];refine aY (fun hlt=>?_) (fun hge=>aM ?_)
   . have hlt:k<us.length:=by omega
     have hux:=hu _ (du hlt);have htk:∀u∈us.take k,lV s.n K s.known u:=fun u hu'=>hu u (ta hu');have htl:(us.take k).length<=2:=by rw[fg];omega
     refine aN (de (by simpa using hlt)) ?_;rw[kK];generalize hue:us[k]=u at*;refine aN (nM hux.1) ?_;have hm:∀j,dl (u.n*vf (aI s.known u.ix).c j)<=K+4:=fun j=>by
      have:=j5 u.n (vf (aI s.known u.ix).c j);have:=hux.2.2.2.1.vf j;have:=hux.2.2.1;omega
     have hmb:dl (u.n*(aI s.known u.ix).b)<=K+4:=by
      have:=j5 u.n (aI s.known u.ix).b;have:=hux.2.2.2.1.2;have:=hux.2.2.1;omega
     have hun:=hux.2.2.1;refine aU (a:=mB (vec s.n fun j=>dU s.known (us.take (k+1)) j)) ?_ ?_
     . refine(Tm.sG (n:=s.n) (by omega) (fun j=>dU s.known (us.take (k+1)) j) eZ (fin:=id) ?_ ?_)
       . intro j hj c hc hi;dsimp only[xW];have h1:=AO (j:=j) htk;have h2:=hux.2.2.2.1.vf j;have h3:=hm j;refine cY (by rw[dG,eZ];omega) (aN hi (aN (ei (by rw[hux.2.2.2.2];exact hj)) (aU (nB (by omega) (by omega)) (aU (mC (by rw[dJ hj];omega) (by omega)) (aN hi (aN (ed rfl (by omega)) (aM ?_)))))));rw[dJ hj,<-jV hlt,GO,hue]
       . intro c hc;dsimp only[xW];exact cz (by rw[dG,eZ];omega) (aM rfl)
     . have h1:=As htk;have h2:=hux.2.2.2.1.2;refine aU (nB (a:=u.n) (b:=(aI s.known u.ix).b) (by omega) (by omega)) (aU (mC (by omega) (by omega)) (aM ⟨hlt,ep (by omega),rfl,?_⟩));show B _=B _;rw[<-jV hlt,Jq,hue]
   . show _=_;rw[fh (by omega)]
 . dsimp only;have h0:∀j,dl (dU s.known us j)<=K+6:=fun j=>by have:=AO (j:=j) hu;omega
   have hb:dl (fY s.known us)<=K+6:=by have:=As hu;omega
   refine aU (a:=mB (vec s.n fun j=>dU s.known us j/d)) ?_ ?_
   . refine(Tm.sG (n:=s.n) (by omega) (fun j=>dU s.known us j/d) eZ (fin:=id) ?_ ?_)
     . intro j hj c hc hi;dsimp only[xo];have h1:=h0 j;refine cY (by rw[dG,eZ];omega) (aN hi (Tm.bind (qx (by rw[dJ hj];omega) hdl) ?_));intro r hr;refine aN hi (aN (ed rfl (by omega)) (aM ?_));rw[hr,dJ hj,jo _ (dZ hd)]
     . intro c hc;dsimp only[xo];exact cz (by rw[dG,eZ];omega) (aM rfl)
   . refine Tm.bind (qx (by omega) hdl) ?_;intro r hr;refine aM ?_;rw[hr,jo _ (dZ hd)];rfl
open Go Go.X
structure gu (K:Nat)(s:St):Prop where
 n:s.n<=512
 kl:s.known.length<=1073741824
 sl:s.steps.length<=1073741824
 il:s.items.length<=1073741824
 k:∀q∈s.known,fA K q/\q.c.length=s.n
 i:∀x∈s.items,x.pos<s.known.length/\x.g.length=s.n/\∀v∈x.g,dl v<=8
 K:K<=1099511627000
def dv(g:List Int):Int:=if dc g=0 then 1 else(dc g:Nat)
theorem qa(g:List Int):0<dv g:=by unfold dv;split<;>omega
def many(g:List Int)(us:List AU):Bool:=decide (1<us.length)||(decide ((us.headD ⟨0,0⟩).n≠1)||decide (dv g≠1))
def iy(s:St)(g:List Int)(us:List AU):Nat:=if many g us then s.known.length else(us.headD ⟨0,0⟩).ix
def dst(s:St)(g:List Int)(us:List AU):St:=if many g us then{s with steps:=s.steps++[⟨us,dv g⟩],known:=s.known++[mE s.n s.known us (dv g)]}else s
def kT(s:St)(g:List Int)(us:List AU):AI:=⟨iy s g us,vec s.n fun j=>vf g j/dv g⟩
def mK(s:St)(g:List Int)(us:List AU):Bool:=decide (dc g≠0)||decide (0<=(aI (dst s g us).known (iy s g us)).b)
def ee(kn:List AQ)(x:AI):List AI->List AI
 |[]=>[x]
 |y::r=>if x.g=y.g then(if(aI kn x.pos).b<(aI kn y.pos).b then x::r else y::r)else y::ee kn x r
def add(s:St)(x:AI):St:={s with items:=ee s.known x s.items}
def put(s:St)(g:List Int)(us:List AU):Bool×St:=(mK s g us,if dc g≠0 then add (dst s g us) (kT s g us)else dst s g us)
structure gA (K:Nat)(s:St)(g:List Int)(us:List AU):Prop where
 gl:g.length=s.n
 g:∀v∈g,dl v<=8
 ul:us.length<=2
 u0:us≠[]
 u:∀u∈us,lV s.n K s.known u
theorem yI{K:Nat}{s:St}{g:List Int}{us:List AU}(h:gA K s g us):iy s g us<(dst s g us).known.length:=by
 unfold iy dst;split
 . simp
 . cases us with
   |nil=>exact absurd rfl h.u0
   |cons u r=>exact(h.u u cK).1
theorem G9(s:St)(g:List Int)(us:List AU):∃e,(dst s g us).known=s.known++e/\e.length<=1:=by
 unfold dst;split
 . exact⟨_,rfl,by simp⟩
 . exact⟨[],by simp,by simp⟩
theorem EA(s:St)(g:List Int)(us:List AU):(dst s g us).n=s.n:=by unfold dst;split<;>rfl
theorem Il(s:St)(g:List Int)(us:List AU):(dst s g us).items=s.items:=by unfold dst;split<;>rfl
theorem T9{g:List Int}{n K:Nat}{d:Int}(hd:0<=d)(h:∀v∈g,dl v<=K):∀v∈vec n (fun j=>vf g j/d),dl v<=K:=by
 intro v hv;obtain⟨j,hj,rfl⟩:=gE hv;rw[eZ]at hj;rw[dJ hj];refine bO (EE hd) ?_;rcases cv j g.length with h1|h1
 . exact h _ (gr h1)
 . rw[mG h1,ie];omega
theorem Ca{K:Nat}{s:St}{g:List Int}{us:List AU}(h:gA K s g us):fA (K+6) (mE s.n s.known us (dv g))/\(mE s.n s.known us (dv g)).c.length=s.n:=by
 have hd:=dZ (qa g);refine⟨⟨fun v hv=>?_,?_⟩,eZ⟩
 . obtain⟨j,hj,rfl⟩:=gE hv;have hj:j<s.n:=by rwa[show(mE s.n s.known us (dv g)).c=vec s.n _ from rfl,eZ]at hj
   show dl (vf (vec s.n _) j)<=_;rw[dJ hj];have:=AO (j:=j) h.u;have:=h.ul;have:=EE (a:=dU s.known us j) hd;omega
 . have:=As h.u;have:=h.ul;have:=EE (a:=fY s.known us) hd;show dl (fY s.known us/dv g)<=_;omega
theorem RT{K K':Nat}{s:St}{g:List Int}{us:List AU}(hs:gu K s)(h:gA K' s g us)(hk:K'<=K):Tm (fun N=>rS N s.to (mB g) (us.map AU.to)) (·=((kT s g us).to,decide (dc g≠0),mK s g us,(dst s g us).to)):=by
  have hL:cX=1099511627776:=rfl;have hK:=hs.K;have hkl:=hs.kl;have hsl:=hs.sl;have hn:=hs.n;have hgd:dl (dc g:Nat)<=8:=uS h.g
  have hdd : dl (dv g) <= 8 := by unfold dv; split; · exact bO jt (by decide)
                                  . exact hgd
  have hgl:=h.gl;have hul:=h.ul;obtain⟨u,r,rfl⟩:∃u r,us=u::r:=by
    cases us with
    |nil=>exact absurd rfl h.u0
    |cons u r=>exact⟨u,r,rfl⟩
  have hu0:=h.u u cK;unfold rS;refine aU (R6 (K:=8) (by omega) (by omega) h.g) (aU (jg (by omega)) ?_);have hsg:bM (dc g:Nat) 0≠0↔dc g≠0:=by unfold bM;(repeat' split)<;>omega
  refine aU (a:=B (dv g)) (aY (fun h0=>?_) (fun h0=>aM ?_)) ?_
  . refine aU (jH (by decide) (by decide)) (aM ?_);unfold dv;rw[if_pos (th.1 fun e=>h0 (hsg.2 e))]
  . unfold dv;rw[if_neg (hsg.1 (th.1 h0))]
  refine aU (jH (by decide) (by decide)) ?_;refine aU (a:=many g (u::r)) (aY (fun h0=>aM ?_) (fun h0=>?_)) ?_
  . rw[cN]at h0;unfold many;rw[decide_eq_true (by omega)];rfl
  . rw[cN]at h0;refine aN (a:=u.to) rfl (aU (kg (a:=u.n) (b:=1) (by have:=hu0.2.2.1;omega) (bO jt (by decide))) (aY (fun h1=>aM ?_) (fun h1=>aU (kg (by omega) (bO jt (by decide))) (aM ?_))))
    . have:u.n≠1:=by rintro e;rw[e]at h1;exact h1 (by decide)
      unfold many;simp[this]
    . have:u.n=1:=by unfold bM at h1;(repeat' split at h1)<;>omega
      have e2:bM (dv g) 1≠0↔dv g≠1:=by unfold bM;(repeat' split)<;>omega
      unfold many;have hr:¬1<(u::r).length:=by omega
      have h3:(((u::r).headD ⟨0,0⟩).n≠1)=False:=by simp[this]
      rw[decide_eq_false hr];simp[this,e2]
  have hmk : ∀ c : Bool, many g (u :: r) = c -> Tm (fun N => ((if c = true then
            (cS 56 s.to.steps [(Step.mk ((u::r).map AU.to) (B (dv g)))]).bind fun x37=>
            (pP N (aR.mk s.to.n s.to.known x37 s.to.u s.to.status s.to.value s.to.items s.to.stack) ((u::r).map AU.to) (B (dv g))).bind fun r38=>
            (cS 56 s.to.known [r38]).bind fun x39=>
            some (x39,x37,[(dO.mk (iw ((List.length x39:Int)-1)) (B 1))])
          else
            some (s.to.known,s.to.steps,(u::r).map AU.to))):Nat->Option ((List bB)×(List Step)×(List dO)))
      (fun t=>t.1=(dst s g (u::r)).to.known/\t.2.1=(dst s g (u::r)).to.steps/\∃x,idx t.2.2 0=some x/\x.Index=((iy s g (u::r):Nat):Int)):=by
    intro c hc;cases c with
    |true=>
      refine cY rfl ?_;refine aN (dQ (by show((s.steps.map AS.to).length+_)*_<=_;simp only[cN,cA,dP];omega) (by decide)) ?_;have e:(aR.mk s.to.n s.to.known (s.to.steps++[Step.mk ((u::r).map AU.to) (B (dv g))]) s.to.u s.to.status s.to.value s.to.items s.to.stack)=St.to {s with steps:=s.steps++[⟨u::r,dv g⟩]}:=by
        unfold St.to;simp[AS.to]
      rw[e];refine aU (a:=(mE s.n s.known (u::r) (dv g)).to) (tmSum (s:={s with steps:=s.steps++[⟨u::r,dv g⟩]}) (K:=K') (by omega) hn h.u (by omega) (qa g) (by omega)) ?_;refine aN (dQ (by show((s.known.map AQ.to).length+_)*_<=_;simp only[cN,cA,dP];omega) (by decide)) (aM ?_);unfold dst iy;rw[hc];refine⟨by simp[St.to],by simp[St.to,AS.to],_,rfl,?_⟩;dsimp only;rw[bK]<;>simp[St.to]<;>omega
    |false=>
      refine cz (by simp) (aM ?_);unfold dst iy;rw[hc];exact⟨rfl,rfl,u.to,rfl,rfl⟩
  refine Tm.bind (hmk _ rfl) ?_;rintro⟨kn,st,us'⟩ ⟨h1,h2,x,hx,hxi⟩;dsimp only at h1 h2 hx;subst h1;subst h2;refine aN hx ?_;refine aN (gW (n:=s.n) rfl (by omega) (by decide)) ?_;rw[<-pf];refine aU (a:=mB (vec s.n fun j=>vf g j/dv g)) ?_ ?_
  . refine(Tm.sG (n:=s.n) (by omega) (fun j=>vf g j/dv g) (by simp) (fin:=id) ?_ ?_)
    . intro j hj c hc hi;dsimp only[xu];refine cY (by rw[dG];omega) (aN (ei (by omega)) (Tm.bind (qx (by have:=h.g _ (gr (l:=g) (j:=j) (by omega));omega) (by omega)) ?_));intro r' hr';refine aN hi (aN (ed rfl (by omega)) (aM ?_));rw[hr',jo _ (dZ (qa g))]
    . intro c hc;dsimp only[xu];exact cz (by rw[dG];omega) (aM rfl)
  have hS:aR.mk s.to.n (dst s g (u::r)).to.known (dst s g (u::r)).to.steps s.to.u s.to.status s.to.value s.to.items s.to.stack=(dst s g (u::r)).to:=by
    unfold dst;split<;>rfl
  have hI:(aX.mk x.Index (mB (vec s.n fun j=>vf g j/dv g)))=(kT s g (u::r)).to:=by rw[hxi];rfl
  dsimp only;rw[hS,hI];have hps:=yI h;have hbd:dl (aI (dst s g (u::r)).known (iy s g (u::r))).b<=K+6:=by
    have hm:=eK hps;unfold dst at hm⊢;split at hm
    . rcases fN.1 hm with h3|h3
      . rename_i hm';rw[if_pos hm'];exact bO (hs.k _ h3).1.2 (by omega)
      . rename_i hm';rw[if_pos hm'];rw[cL.1 h3];exact bO (Ca h).1.2 (by omega)
    . rename_i hm';rw[if_neg hm'];exact bO (hs.k _ hm).1.2 (by omega)
  refine aY (fun h0=>aM ?_) (fun h0=>?_)
  . have h0':=hsg.1 h0;unfold mK;rw[decide_eq_true h0,decide_eq_true h0'];rfl
  . have h0':¬dc g≠0:=fun e=>h0 (hsg.2 e);refine aU (qR (s:=dst s g (u::r)) (x:=kT s g (u::r)) hps) (aU (jg (by show dl (aI _ (iy s g (u::r))).b<=_;omega)) (aM ?_));unfold mK;rw[decide_eq_false h0,decide_eq_false h0',Bool.false_or];congr 3;apply decide_eq_decide.2;show bM (aI _ (iy s g (u::r))).b 0≥0↔_;unfold bM;(repeat' split)<;>omega
open Go Go.X
theorem Oh{a b:List Int}(hl:a.length<=1000)(hab:a.length=b.length)(ha:∀v∈a,dl v<=cX)(hb:∀v∈b,dl v<=cX):Tm (fun N=>vO N (mB a) (mB b) (fun y0 y1=>qv N y0 y1)) (·=decide (a=b)):=by
 unfold vO;refine cz (by rw[dG,dG];omega) ?_;refine Tm.bind (Tm.each (body:=fun N=>wj N (fun y0 y1=>qv N y0 y1) (mB b) (mB a)) ((List.range a.length)) (fun j=>vf a j=vf b j) (Q:=fun r=>(r=.inr false/\a≠b)\/(r=.inl ()/\∀j∈List.range a.length,vf a j=vf b j)) (by simp;omega) ?_ ?_) ?_
 . intro k hk _;have hk:k<a.length:=by simpa using hk
   dsimp only[wj];refine cY (by rw[dG];omega) (aN (ei hk) (aN (ei (by omega)) ?_));unfold qv;refine aU (a:=decide (vf a k=vf b k)) (aU (kg (ha _ (gr hk)) (hb _ (gr (by omega)))) (aM ?_)) (aY (fun h=>aM (.inr ⟨_,rfl,.inl ⟨rfl,fun e=>?_⟩⟩)) (fun h=>aM (.inl ⟨rfl,?_⟩)))
   . apply decide_eq_decide.2;unfold bM;(repeat' split)<;>omega
   . subst e;simp at h
   . simpa using h
 . intro h;dsimp only[wj];rw[List.length_range];exact cz (by rw[dG];omega) (aM ⟨_,rfl,.inr ⟨rfl,h⟩⟩)
 . rintro _ (⟨rfl,h⟩|⟨rfl,h⟩)
   . exact aM (by simp[h])
   . exact aM (by simp;exact lY hab fun j hj=>h j (sY.2 hj))
theorem C7{kn:List AQ}{x:AI}:∀{a r:List AI},(∀y∈a,x.g≠y.g)->ee kn x (a++r)=a++ee kn x r
 |[],_,_=>rfl
 |y::a,r,h=>by
  show ee kn x (y::(a++r))=y::(a++ee kn x r);rw[ee,if_neg (h y cK),C7 fun z hz=>h z (cH _ hz)]
def o6(s:St)(x:AI):Prop:=x.pos<s.known.length/\x.g.length=s.n/\∀v∈x.g,dl v<=8
theorem vB{K:Nat}{s:St}{x:AI}(hs:gu K s)(hx:o6 s x):Tm (fun N=>kW N s.to x.to) (·=(add s x).to):=by
 have hL:cX=1099511627776:=rfl;have hK:=hs.K;have hil:=hs.il;unfold kW;have hmap:(s.items.map AI.to).length=s.items.length:=cN ..;refine Tm.bind (Q:=fun r=>(r=.inl ()/\(∀y∈s.items,x.g≠y.g))\/r=.inr (add s x).to) (eL s.items.length (fun k t=>t=(k:Int)/\∀y∈s.items.take k,x.g≠y.g) ⟨rfl,by simp⟩ ?_) ?_
 . rintro k hk t ⟨rfl,hp⟩;dsimp only[y8];refine aY (fun hlt=>?_) (fun hge=>aM ?_)
   . have hlt:k<s.items.length:=by rw[show s.to.items.length=s.items.length from hmap]at hlt;omega
     obtain⟨y1,y2,y3⟩:=hs.i _ (du hlt);refine aN (a:=(s.items[k]).to) (by show idx (s.items.map AI.to) _=_;rw[de (by rw[hmap];exact hlt),kK]) ?_;generalize hy:s.items[k]=y at*;refine aU (Oh (a:=x.g) (b:=y.g) (by have:=hx.2.1;have:=hs.n;omega) (hx.2.1.trans y2.symm) (fun v hv=>bO (hx.2.2 v hv) (by decide)) (fun v hv=>bO (y3 v hv) (by decide))) ?_;refine aY (fun he=>?_) (fun he=>aM ⟨hlt,ep (by omega),fun z hz=>?_⟩)
     . have he:x.g=y.g:=by simpa using he
       have hsplit:s.items=s.items.take k++y::s.items.drop (k+1):=by
        rw[<-hy,<-fx hlt,mY]
       have hadd:ee s.known x s.items=if(aI s.known x.pos).b<(aI s.known y.pos).b then s.items.set k x else s.items:=by
        conv=>lhs;rw[hsplit]
        rw[C7 hp,ee,if_pos he];split
        . rw[Ut,if_pos hlt]
        . exact hsplit.symm
       refine aU (qR hx.1) (aU (qR y1) (aU (kg (bO (hs.k _ (eK hx.1)).1.2 (by omega)) (bO (hs.k _ (eK y1)).1.2 (by omega))) ?_));refine aY (fun h1=>?_) (fun h1=>aM ?_)
       . have h1:(aI s.known x.pos).b<(aI s.known y.pos).b:=by unfold bM at h1;(repeat' split at h1)<;>omega
         refine aN (a:=y.to) (by show idx (s.items.map AI.to) _=_;rw[de (by rw[hmap];exact hlt),kK,hy]) ?_;refine aN (ed rfl (by show _<(s.items.map AI.to).length;rw[hmap];exact hlt)) (aM (.inr ?_));unfold add;rw[hadd,if_pos h1];unfold St.to;dsimp only;rw[BZ]
       . have h1:¬(aI s.known x.pos).b<(aI s.known y.pos).b:=by unfold bM at h1;(repeat' split at h1)<;>omega
         refine .inr ?_;unfold add;rw[hadd,if_neg h1]
     . rw[<-jV hlt,hy]at hz;rcases fN.1 hz with hz|hz
       . exact hp z hz
       . rw[cL.1 hz];intro e;exact he (by simp[e])
   . rw[show s.to.items.length=s.items.length from hmap]at hge;refine .inl ⟨rfl,fun y hy=>hp y ?_⟩;rwa[fh (by omega)]
 . rintro r (⟨rfl,h⟩|rfl)
   . refine aN (dQ (by show((s.items.map AI.to).length+_)*_<=_;rw[hmap];simp only[cA,dP];omega) (by decide)) (aM ?_);have:ee s.known x s.items=s.items++[x]:=by
      have:=C7 (kn:=s.known) (x:=x) (a:=s.items) (r:=[]) h;rw[ma]at this;rw[this];rfl
     unfold add;rw[this];unfold St.to;simp
   . exact aM rfl
def jf(m:Nat)(s:St):Prop:=s.known.length+m<=1073741824/\s.steps.length+m<=1073741824/\s.items.length+m<=1073741824
theorem tH{kn:List AQ}{x:AI}:∀{l:List AI},l.length<=(ee kn x l).length/\(ee kn x l).length<=l.length+1
 |[]=>by simp[ee]
 |y::l=>by
  have:=tH (kn:=kn) (x:=x) (l:=l);rw[ee];split
  . split<;>simp
  . simp;omega
theorem lO{kn:List AQ}{x z:AI}:∀{l:List AI},z∈ee kn x l->z=x\/z∈l
 |[],h=>by simp[ee]at h;exact .inl h
 |y::l,h=>by
  rw[ee]at h;split at h
  . split at h
    . rcases dY.1 h with h|h
      . exact .inl h
      . exact .inr (cH _ h)
    . exact .inr h
  . rcases dY.1 h with h|h
    . exact .inr (h▸cK)
    . rcases lO h with h|h
      . exact .inl h
      . exact .inr (cH _ h)
theorem Hg{K m:Nat}{s:St}{x:AI}(hs:gu K s)(hx:o6 s x)(hr:jf (m+1) s):gu K (add s x)/\jf m (add s x):=by
 have h1:=tH (kn:=s.known) (x:=x) (l:=s.items);obtain⟨r1,r2,r3⟩:=hr;refine⟨⟨hs.n,hs.kl,hs.sl,?_,hs.k,fun z hz=>?_,hs.K⟩,?_,?_,?_⟩
 . show(ee s.known x s.items).length<=_;omega
 . rcases lO hz with rfl|hz
   . exact hx
   . exact hs.i z hz
 . show s.known.length+m<=_;omega
 . show s.steps.length+m<=_;omega
 . show(ee s.known x s.items).length+m<=_;omega
theorem JX{K K' m:Nat}{s:St}{g:List Int}{us:List AU}(hs:gu K s)(h:gA K' s g us)(hk:K'+6<=K)(hr:jf (m+1) s):gu K (dst s g us)/\jf m (dst s g us)/\(dst s g us).items.length+m+1<=1073741824:=by
 obtain⟨r1,r2,r3⟩:=hr;unfold dst;split
 . refine⟨⟨hs.n,by simp;omega,by simp;omega,hs.il,fun q hq=>?_,fun z hz=>?_,hs.K⟩,⟨by simp;omega,by simp;omega,by show s.items.length+m<=_;omega⟩,by show s.items.length+m+1<=_;omega⟩
   . rcases fN.1 hq with hq|hq
     . exact hs.k q hq
     . rw[cL.1 hq];exact⟨(Ca h).1.mono hk,(Ca h).2⟩
   . obtain⟨z1,z2⟩:=hs.i z hz;exact⟨by simp;omega,z2⟩
 . exact⟨hs,⟨by omega,by omega,by omega⟩,by omega⟩
theorem Ir{K':Nat}{s:St}{g:List Int}{us:List AU}(h:gA K' s g us):o6 (dst s g us) (kT s g us):=
 ⟨yI h,by rw[EA];exact eZ,T9 (dZ (qa g)) h.g⟩
theorem IV{K K' m:Nat}{s:St}{g:List Int}{us:List AU}(hs:gu K s)(h:gA K' s g us)(hk:K'+6<=K)(hr:jf (m+1) s):gu K (put s g us).2/\jf m (put s g us).2:=by
 obtain⟨h1,h2,h3⟩:=JX hs h hk hr;unfold put;dsimp only;split
 . have:=tH (kn:=(dst s g us).known) (x:=kT s g us) (l:=(dst s g us).items);refine⟨⟨h1.n,h1.kl,h1.sl,?_,h1.k,fun z hz=>?_,h1.K⟩,h2.1,h2.2.1,?_⟩
   . show(ee _ _ _).length<=_;omega
   . rcases lO hz with rfl|hz
     . exact Ir h
     . exact h1.i z hz
   . show(ee _ _ _).length+m<=_;omega
 . exact⟨h1,h2⟩
theorem Gy{K K':Nat}{s:St}{g:List Int}{us:List AU}(hs:gu K s)(h:gA K' s g us)(hk:K'+6<=K)(hr:jf 1 s):Tm (fun N=>mU N s.to (mB g) (us.map AU.to)) (·=((put s g us).1,(put s g us).2.to)):=by
 obtain⟨h1,h2,h3⟩:=JX (m:=0) hs h hk hr;unfold mU;refine aU (RT hs h (by omega)) ?_;dsimp only;have hn:s.to.n=(dst s g us).to.n:=by show(s.n:Int)=(dst s g us).n;rw[EA]
 have e1:∀x:aR,s.to.n=x.n->aR.mk s.to.n x.known x.steps x.u x.status x.value x.items x.stack=x:=fun x hx=>ir hx;refine Tm.bind (Q:=fun t=>aR.mk s.to.n t.1 t.2.1 t.2.2.1 t.2.2.2.1 t.2.2.2.2.1 t.2.2.2.2.2.1 t.2.2.2.2.2.2=(put s g us).2.to) (aY (fun h0=>?_) (fun h0=>aM ?_)) ?_
 . rw[e1 _ hn];refine aU (vB h1 (Ir h)) (aM ?_);dsimp only;rw[e1 (D.add (dst s g us) (kT s g us)).to hn];unfold put;dsimp only;rw[if_pos (by simpa using h0)]
 . dsimp only;rw[e1 _ hn];unfold put;dsimp only;rw[if_neg (by simpa using h0)]
 . rintro⟨a,b,c,d,e,f,g'⟩ ht;refine aM ?_;dsimp only at ht⊢;rw[ht];rfl
inductive Act where
 |add (x:AI)
 |put (g:List Int) (us:List AU)
def bU:St->List Act->Bool×St
 |s,[]=>(true,s)
 |s,.add x::r=>bU (add s x) r
 |s,.put g us::r=>if(put s g us).1=true then bU (put s g us).2 r else(false,(put s g us).2)
def kM(K:Nat)(s:St):Act->Prop
 |.add x=>o6 s x
 |.put g us=>gA K s g us
theorem lV.app{n K:Nat}{kn e:List AQ}{u:AU}(h:lV n K kn u):lV n K (kn++e) u:=by
 obtain⟨h1,h2,h3,h4,h5⟩:=h;exact⟨by simp;omega,h2,h3,by rw[iI h1];exact h4,by rw[iI h1];exact h5⟩
theorem kM.app{K:Nat}{s s':St}{a:Act}(h:kM K s a)(hn:s'.n=s.n){e:List AQ}(he:s'.known=s.known++e):kM K s' a:=by
 cases a with
 |add x=>exact⟨by rw[he];have:=h.1;simp;omega,by rw[hn];exact h.2.1,h.2.2⟩
 |put g us=>exact⟨by rw[hn];exact h.gl,h.g,h.ul,h.u0,fun u hu=>by rw[hn,he];exact(h.u u hu).app⟩
theorem yN(s:St)(g:List Int)(us:List AU):∃e,(put s g us).2.known=s.known++e/\e.length<=1:=by
 unfold put;dsimp only;split<;>exact G9 s g us
theorem Bc(s:St)(g:List Int)(us:List AU):(put s g us).2.n=s.n:=by
 unfold put;dsimp only;split<;>exact EA s g us
structure ig (K:Nat)(s0:St)(L:List Act)(k:Nat)(s:St):Prop where
 run:bU s0 L=bU s (L.drop k)
 ok:gu K s
 room:jf (L.length-k) s
 pre:∃e,s.known=s0.known++e
 n:s.n=s0.n
theorem ig.first{K:Nat}{s0:St}{L:List Act}(h:gu K s0)(hr:jf L.length s0):ig K s0 L 0 s0:=⟨rfl,h,hr,⟨[],by simp⟩,rfl⟩
theorem ig.add{K K0:Nat}{s0 s:St}{L:List Act}{k:Nat}{x:AI}(h:ig K s0 L k s)(hk:k<L.length)(hL:L[k]=.add x)(hx:kM K0 s0 (.add x)):o6 s x/\ig K s0 L (k+1) (add s x):=by
 obtain⟨e,he⟩:=h.pre;have hx':o6 s x:=hx.app h.n he;obtain⟨m,hm⟩:∃m,L.length-k=m+1:=⟨L.length-k-1,by omega⟩;have h1:=Hg (m:=m) h.ok hx' (by rw[<-hm];exact h.room);refine⟨hx',?_,h1.1,by rw[show L.length-(k+1)=m by omega];exact h1.2,⟨e,he⟩,h.n⟩;rw[h.run,fx hk,hL];rfl
theorem ig.put{K K0:Nat}{s0 s:St}{L:List Act}{k:Nat}{g:List Int}{us:List AU}(h:ig K s0 L k s)(hk:k<L.length)(hL:L[k]=.put g us)(hx:kM K0 s0 (.put g us))(hK:K0+6<=K):
 Tm (fun N=>mU N s.to (mB g) (us.map AU.to)) (·=((put s g us).1,(put s g us).2.to))/\((put s g us).1=true->ig K s0 L (k+1) (put s g us).2)/\((put s g us).1=false->bU s0 L=(false,(put s g us).2))/\(put s g us).2.n=s0.n:=by
 obtain⟨e,he⟩:=h.pre;have hx':gA K0 s g us:=hx.app h.n he;obtain⟨m,hm⟩:∃m,L.length-k=m+1:=⟨L.length-k-1,by omega⟩;have hr:jf (m+1) s:=by rw[<-hm];exact h.room
 have hr1:jf 1 s:=⟨by have:=hr.1;omega,by have:=hr.2.1;omega,by have:=hr.2.2;omega⟩;have h1:=IV (m:=m) h.ok hx' hK hr;obtain⟨e',he',_⟩:=yN s g us;have hrun:bU s0 L=if(D.put s g us).1=true then bU (D.put s g us).2 (L.drop (k+1))else(false,(D.put s g us).2):=by
  rw[h.run,fx hk,hL];rfl
 refine⟨Gy h.ok hx' hK hr1,fun ht=>⟨?_,h1.1,by rw[show L.length-(k+1)=m by omega];exact h1.2,⟨e++e',by rw[he',he,iZ]⟩,(Bc s g us).trans h.n⟩,fun hf=>?_,(Bc s g us).trans h.n⟩
 . rw[hrun,if_pos ht]
 . rw[hrun,if_neg (by rw[hf];simp)]
theorem ig.last{K:Nat}{s0 s:St}{L:List Act}(h:ig K s0 L L.length s):bU s0 L=(true,s):=by
 rw[h.run,B4];rfl
abbrev Pt:=(List bB)×(List Step)×(List (List aB))×(List Int)×(List aB)×(List aX)×(List dI)
def ij(s:St):Pt:=(s.to.known,s.to.steps,s.to.u,s.to.status,s.to.value,s.to.items,s.to.stack)
def gn(s:St):List Act:=(List.range s.known.length).map fun i=>.put (aI s.known i).c [⟨i,1⟩]
theorem O9{K K0:Nat}{s:St}(hs:gu K s)(hr:jf s.known.length s)(hK:K0+6<=K)(h:∀q∈s.known,fA K0 q/\∀v∈q.c,dl v<=8):Tm (fun N=>uk N s.to) (·=((bU s (gn s)).1,(bU s (gn s)).2.to)):=by
 have hl:(gn s).length=s.known.length:=by simp[gn]
 have hmap:s.to.known.length=s.known.length:=cN ..;have hkl:=hs.kl;unfold uk;refine Tm.bind (Q:=fun r=>(∃s',r=.inl (ij s')/\bU s (gn s)=(true,s')/\s'.n=s.n)\/(r=.inr ((bU s (gn s)).1,(bU s (gn s)).2.to))) (eL s.known.length (fun k t=>∃s',ig K s (gn s) k s'/\t=(s'.to.known,s'.to.steps,s'.to.u,s'.to.status,s'.to.value,s'.to.items,s'.to.stack,(k:Int))) ⟨s,ig.first hs (by rw[hl];exact hr),rfl⟩ ?_) ?_
 . rintro k hk _ ⟨s',hi,rfl⟩;dsimp only[Fy];refine aY (fun hlt=>?_) (fun hge=>aM (.inl ⟨s',rfl,?_,hi.n⟩))
   . have hlt:k<s.known.length:=by omega
     obtain⟨e,he⟩:=hi.pre;have hq:=h _ (eK hlt);have hql:=(hs.k _ (eK hlt)).2;refine aN (a:=(aI s.known k).to) (by show idx (s'.known.map AQ.to) _=_;rw[nM (by rw[he];simp;omega),he,iI hlt]) ?_;refine aU (a:=mB (aI s.known k).c) ?_ ?_
     . unfold nI;refine aN (dQ (by show(_+(mB _).length)*_<=_;rw[dG,hql];have:=hs.n;simp only[dP];omega) (by decide)) (aM rfl)
     have hLk:(gn s)[k]'(by rw[hl];exact hlt)=.put (aI s.known k).c [⟨k,1⟩]:=by simp[gn]
     have hact:kM K0 s (.put (aI s.known k).c [⟨k,1⟩]):=⟨hql,hq.2,by simp,by simp,fun u hu=>by
      rw[cL.1 hu];exact⟨hlt,Ge 1,bO jt (by decide),hq.1,hql⟩⟩
     obtain⟨p1,p2,p3,p4⟩:=hi.put (by rw[hl];exact hlt) hLk hact hK;refine aU (jH (by decide) (by decide)) ?_;rw[ir (x:=s'.to) (by show(s.n:Int)=s'.n;rw[hi.n])];refine aU p1 (aY (fun hf=>aM ?_) (fun ht=>aM ⟨hlt,_,p2 (by simpa using ht),?_⟩))
     . dsimp only;rw[ir (by show(s.n:Int)=_;rw[show(D.put s' (aI s.known k).c [⟨k,1⟩]).2.to.n=((D.put s' (aI s.known k).c [⟨k,1⟩]).2.n:Int) from rfl,p4])];rw[p3 (by simpa using hf)];exact .inr rfl
     . dsimp only;rw[ep (by omega)]
   . have:k=s.known.length:=by omega
     subst this;exact ig.last (by rw[hl];exact hi)
 . rintro r (⟨s',rfl,h1,h2⟩|rfl)
   . refine aM ?_;show(true,aR.mk s.to.n s'.to.known s'.to.steps s'.to.u s'.to.status s'.to.value s'.to.items s'.to.stack)=_;rw[ir (x:=s'.to) (by show(s.n:Int)=s'.n;rw[h2]),h1]
   . exact aM rfl
open Go Go.X
def jK(n K:Nat)(l:List Int):Prop:=l.length=n/\∀v∈l,dl v<=K
theorem jK.vf{n K:Nat}{l:List Int}(h:jK n K l)(j:Nat):dl (vf l j)<=K:=by
 rcases cv j l.length with hj|hj
 . exact h.2 _ (gr hj)
 . rw[mG hj,ie];omega
structure SU (K:Nat)(s:St):Prop where
 u:s.u.length=s.n/\∀r∈s.u,jK s.n K r
 st:s.status.length=s.n
 v:jK s.n K s.value
def kX(j p:Nat)(q:Int)(l:List Int):List Int:=l.set j (vf l j-q*vf l p)
def kv(s:St)(j p:Nat)(q:Int):St:={s with u:=s.u.map (kX j p q),items:=s.items.map fun x=>{x with g:=kX j p q x.g}}
theorem Bu{l:List Int}(h:l.length<=1000):Tm (fun N=>nI N (mB l)) (·=mB l):=by
 unfold nI;exact aN (dQ (by rw[dG];simp only[dP];omega) (by decide)) (aM rfl)
theorem I1{n K:Nat}{l:List Int}{j p:Nat}{q:Int}(hn:n<=512)(hl:jK n K l)(hj:j<n)(hp:p<n)(hK:K+dl q<=cX):Tm (fun N=>l7 N (mB l) (j:Int) (B q) (p:Int)) (·=mB (kX j p q l)):=by
 have hll:=hl.1;have h1:=hl.vf j;have h2:=hl.vf p;have h3:=j5 q (vf l p);unfold l7;refine aU (Bu (by omega)) (aN (ei (by omega)) (aN (ei (by omega)) (aU (nB (by omega) (by omega)) (aU (l6 (by omega) (by omega)) (aN (ei (by omega)) (aN (ed rfl (by rw[dG];omega)) (aM ?_)))))));rw[va];rfl
theorem Jf{n K:Nat}{l:List Int}{p:Nat}(hn:n<=512)(hl:jK n K l)(hp:p<n)(hK:K<=cX):Tm (fun N=>lJ N (mB l) (p:Int)) (·=mB (l.set p (-vf l p))):=by
 have hll:=hl.1;have h1:=hl.vf p;unfold lJ;refine aU (Bu (by omega)) (aN (ei (by omega)) (aU (nu (by omega)) (aN (ei (by omega)) (aN (ed rfl (by rw[dG];omega)) (aM ?_)))));rw[va]
theorem vZ{α β:Type}{l:List α}{f:α->β}{d:α}:(List.range l.length).map (fun k=>f (l.getD k d))=l.map f:=by
 apply pJ (by simp);intro i h1 h2;simp at h2;simp[cy,bV h2]
theorem Qn{K:Nat}{s:St}{j p:Nat}{q:Int}(hu:SU K s)(hn:s.n<=512)(hil:s.items.length<=1073741824)(hi:∀x∈s.items,jK s.n K x.g)(hj:j<s.n)(hp:p<s.n)(hK:K+dl q<=cX):
 Tm (fun N=>wD N s.to (j:Int) (p:Int) (B q)) (·=(kv s j p q).to):=by
 unfold wD;have hmu:s.to.u.length=s.u.length:=cN ..;have hmi:s.to.items.length=s.items.length:=cN ..;have hul:=hu.u.1;refine aU (a:=s.u.map fun r=>mB (kX j p q r)) ?_ ?_
 . refine(Tm.fill (n:=s.u.length) (by omega) (c0:=s.to.u) (fun k=>mB (kX j p q (s.u.getD k []))) hmu (fin:=id) ?_ ?_).mono ?_
   . intro k hk c hc hi';have e0:s.to.u[k]?=some (mB s.u[k]):=by show(s.u.map mB)[k]?=_;rw[gM,bV hk];rfl
     rw[e0]at hi';dsimp only[Ag];refine cY (by rw[hmu];omega) (aN (kG hi') (aU (I1 hn (hu.u.2 _ (du hk)) hj hp hK) (aN (kG hi') (aN (ed rfl (by omega)) (aM ?_)))));rw[cy,bV hk];rfl
   . intro c hc;dsimp only[Ag];exact cz (by rw[hmu];omega) (aM rfl)
   . intro r hr;rw[hr,id,vZ (f:=fun r=>mB (kX j p q r))]
 . refine aU (a:=s.items.map fun x=>({x with g:=kX j p q x.g}:AI).to) ?_ ?_
   . refine(Tm.fill (n:=s.items.length) (by omega) (c0:=s.to.items) (fun k=>({s.items.getD k ⟨0,[]⟩with g:=kX j p q (s.items.getD k ⟨0,[]⟩).g}:AI).to) hmi (fin:=id) ?_ ?_).mono ?_
     . intro k hk c hc hi';have e0:s.to.items[k]?=some (s.items[k]).to:=by show(s.items.map AI.to)[k]?=_;rw[gM,bV hk];rfl
       rw[e0]at hi';dsimp only[yy];refine cY (by rw[hmi];omega) (aN (kG hi') (aU (I1 hn (hi _ (du hk)) hj hp hK) (aN (kG hi') (aN (ed rfl (by omega)) (aM ?_)))));rw[cy,bV hk];rfl
     . intro c hc;dsimp only[yy];exact cz (by rw[hmi];omega) (aM rfl)
     . intro r hr;rw[hr,id,vZ (f:=fun x:AI=>({x with g:=kX j p q x.g}:AI).to)]
   . refine aM ?_;unfold kv St.to;dsimp only;rw[mf,mf];rfl
def flS(s:St)(p:Nat):St:={s with u:=s.u.map (fun l=>l.set p (-vf l p)),items:=s.items.map fun x=>{x with g:=x.g.set p (-vf x.g p)}}
theorem NO{K:Nat}{s:St}{p:Nat}(hu:SU K s)(hn:s.n<=512)(hil:s.items.length<=1073741824)(hi:∀x∈s.items,jK s.n K x.g)(hp:p<s.n)(hK:K<=cX):
 Tm (fun N=>wR N s.to (p:Int)) (·=(flS s p).to):=by
 unfold wR;have hmu:s.to.u.length=s.u.length:=cN ..;have hmi:s.to.items.length=s.items.length:=cN ..;have hul:=hu.u.1;refine aU (a:=s.u.map fun r=>mB (r.set p (-vf r p))) ?_ ?_
 . refine(Tm.fill (n:=s.u.length) (by omega) (c0:=s.to.u) (fun k=>mB ((s.u.getD k []).set p (-vf (s.u.getD k []) p))) hmu (fin:=id) ?_ ?_).mono ?_
   . intro k hk c hc hi';have e0:s.to.u[k]?=some (mB s.u[k]):=by show(s.u.map mB)[k]?=_;rw[gM,bV hk];rfl
     rw[e0]at hi';dsimp only[Bd];refine cY (by rw[hmu];omega) (aN (kG hi') (aU (Jf hn (hu.u.2 _ (du hk)) hp hK) (aN (kG hi') (aN (ed rfl (by omega)) (aM ?_)))));rw[cy,bV hk];rfl
   . intro c hc;dsimp only[Bd];exact cz (by rw[hmu];omega) (aM rfl)
   . intro r hr;rw[hr,id,vZ (f:=fun r:List Int=>mB (r.set p (-vf r p)))]
 . refine aU (a:=s.items.map fun x=>({x with g:=x.g.set p (-vf x.g p)}:AI).to) ?_ ?_
   . refine(Tm.fill (n:=s.items.length) (by omega) (c0:=s.to.items) (fun k=>({s.items.getD k ⟨0,[]⟩with g:=(s.items.getD k ⟨0,[]⟩).g.set p (-vf (s.items.getD k ⟨0,[]⟩).g p)}:AI).to) hmi (fin:=id) ?_ ?_).mono ?_
     . intro k hk c hc hi';have e0:s.to.items[k]?=some (s.items[k]).to:=by show(s.items.map AI.to)[k]?=_;rw[gM,bV hk];rfl
       rw[e0]at hi';dsimp only[zm];refine cY (by rw[hmi];omega) (aN (kG hi') (aU (Jf hn (hi _ (du hk)) hp hK) (aN (kG hi') (aN (ed rfl (by omega)) (aM ?_)))));rw[cy,bV hk];rfl
     . intro c hc;dsimp only[zm];exact cz (by rw[hmi];omega) (aM rfl)
     . intro r hr;rw[hr,id,vZ (f:=fun x:AI=>({x with g:=x.g.set p (-vf x.g p)}:AI).to)]
   . refine aM ?_;unfold flS St.to;dsimp only;rw[mf,mf];rfl
def sc(a:List Int)(p:Nat):Prop:=p<a.length/\vf a p≠0/\∀j,j<a.length->vf a j≠0->(vf a p).natAbs<=(vf a j).natAbs
theorem absB(v:Int):aB.mk false (B v).aP=B (v.natAbs:Int):=by
 show aB.mk false (pW v.natAbs)=aB.mk (decide ((v.natAbs:Int)<0)) (pW ((v.natAbs:Int)).natAbs);rw[MQ,decide_eq_false (by omega)]
theorem JK(v:Int):dl (v.natAbs:Int)=dl v:=Nat.le_antisymm (sb (by omega)) (sb (by omega))
theorem oT{a:Int}:bM a 0≠0↔a≠0:=by unfold bM;(repeat' split)<;>omega
theorem np{a b:Int}:bM a b<0↔a<b:=by unfold bM;(repeat' split)<;>omega
theorem TR{x:AI}(hl:x.g.length<=1000)(hd:∀v∈x.g,dl v<=cX)(h0:∃j,j<x.g.length/\vf x.g j≠0):Tm (fun N=>bJ (zi N x.to) N ((-1),0)) (fun r=>∃p:Nat,r=(p:Int)/\sc x.g p):=by
 have hxl:x.to.g.length=x.g.length:=dG _;refine eL x.g.length (fun k t=>t.2=(k:Int)/\((t.1=-1/\∀j,j<k->vf x.g j=0)\/∃p:Nat,t.1=(p:Int)/\p<k/\vf x.g p≠0/\∀j,j<k->vf x.g j≠0->(vf x.g p).natAbs<=(vf x.g j).natAbs)) ⟨rfl,.inl ⟨rfl,fun j hj=>by omega⟩⟩ ?_;rintro k hk ⟨p,i⟩ ⟨rfl,hp⟩;dsimp only at hp;dsimp only[zi];refine aY (fun hlt=>?_) (fun hge=>aM ?_)
 . have hlt:k<x.g.length:=by omega
   have hdk:=hd _ (gr hlt);have hidx:idx x.to.g (k:Int)=some (B (vf x.g k)):=ei hlt;refine Tm.bind (Q:=fun r:Int=>(r=(k:Int)/\vf x.g k≠0/\∀j,j<k->vf x.g j≠0->(vf x.g k).natAbs<=(vf x.g j).natAbs)\/(r=p/\(vf x.g k=0\/∃p':Nat,p=(p':Int)/\(vf x.g p').natAbs<=(vf x.g k).natAbs))) ?_ ?_
   . refine Tm.bind (Q:=fun c=>(c=true/\vf x.g k≠0/\∀j,j<k->vf x.g j≠0->(vf x.g k).natAbs<=(vf x.g j).natAbs)\/(c=false/\(vf x.g k=0\/∃p':Nat,p=(p':Int)/\(vf x.g p').natAbs<=(vf x.g k).natAbs))) ?_ ?_
     . refine aN hidx (aU (jg hdk) (aY (fun h1=>?_) (fun h1=>aM (.inr ⟨rfl,.inl ?_⟩))))
       . have h1:=oT.1 h1;rcases hp with⟨rfl,hz⟩|⟨p',rfl,hpk,hp0,hpm⟩
         . exact cY (by decide) (aM (.inl ⟨rfl,h1,fun j hj hj0=>absurd (hz j hj) hj0⟩))
         . refine cz (by omega) ?_;refine aN hidx (aN (a:=B (vf x.g k).natAbs) (congrArg some (absB _)) ?_);refine aN (ei (l:=x.g) (k:=p') (by omega)) (aN (a:=B (vf x.g p').natAbs) (congrArg some (absB _)) ?_);refine aU (kg (by rw[JK];exact hdk) (by rw[JK];exact hd _ (gr (by omega)))) (aM ?_);by_cases hc:(vf x.g k).natAbs<(vf x.g p').natAbs
           . exact .inl ⟨decide_eq_true (np.2 (by omega)),h1,fun j hj hj0=>by have:=hpm j hj hj0;omega⟩
           . exact .inr ⟨decide_eq_false (fun e=>hc (by have:=np.1 e;omega)),.inr ⟨p',rfl,by omega⟩⟩
       . exact jD fun e=>h1 (oT.2 e)
     . rintro c (⟨rfl,h1⟩|⟨rfl,h1⟩)
       . exact cY rfl (aM (.inl ⟨rfl,h1⟩))
       . exact cz (by simp) (aM (.inr ⟨rfl,h1⟩))
   . rintro r hr;refine aM ⟨hlt,ep (by omega),?_⟩;dsimp only;rcases hr with⟨rfl,h1,h2⟩|⟨rfl,h1⟩
     . refine .inr ⟨k,rfl,by omega,h1,fun j hj hj0=>?_⟩;rcases cv j k with h3|h3
       . exact h2 j h3 hj0
       . obtain rfl:j=k:=by omega
         exact bI _
     . rcases hp with⟨e,hz⟩|⟨p',e,hpk,hp0,hpm⟩
       . rcases h1 with h1|⟨p',e',_⟩
         . refine .inl ⟨e,fun j hj=>?_⟩;rcases cv j k with h3|h3
           . exact hz j h3
           . obtain rfl:j=k:=by omega
             exact h1
         . omega
       . refine .inr ⟨p',e,by omega,hp0,fun j hj hj0=>?_⟩;rcases cv j k with h3|h3
         . exact hpm j h3 hj0
         . obtain rfl:j=k:=by omega
           rcases h1 with h1|⟨p'',e',h4⟩
           . exact absurd h1 hj0
           . obtain rfl:p''=p':=by omega
             exact h4
 . have:k=x.g.length:=by omega
   subst this;rcases hp with⟨rfl,hz⟩|⟨p',rfl,hpk,hp0,hpm⟩
   . obtain⟨j,hj,hj0⟩:=h0;exact absurd (hz j hj) hj0
   . exact⟨p',rfl,hpk,hp0,hpm⟩
def bW(a:List Int)(p k:Nat)(l:List Int):List Int:=vec l.length fun j=>if j<k/\j≠p then vf l j-(vf a j).fdiv (vf a p)*vf l p else vf l j
def fk(s:St)(a:List Int)(p k:Nat):St:={s with u:=s.u.map (bW a p k),items:=s.items.map fun x=>{x with g:=bW a p k x.g}}
theorem oB{a:List Int}{p k:Nat}{l:List Int}:(bW a p k l).length=l.length:=eZ
theorem Qd{a:List Int}{p:Nat}{l:List Int}:bW a p 0 l=l:=by
 refine lY eZ fun j hj=>?_;rw[show(bW a p 0 l).length=l.length from eZ]at hj;unfold bW;rw[dJ hj,if_neg (by omega)]
theorem Kc{a:List Int}{p k:Nat}{l:List Int}(hp:p<l.length)(hk:k<l.length)(hkp:k≠p):kX k p ((vf a k).fdiv (vf a p)) (bW a p k l)=bW a p (k+1) l:=by
 refine lY (by unfold kX;rw[iO];exact eZ.trans eZ.symm) fun j hj=>?_;unfold kX at hj⊢;rw[iO,oB]at hj;have e1:vf (bW a p k l) k=vf l k:=by unfold bW;rw[dJ hk,if_neg (by omega)]
 have e2:vf (bW a p k l) p=vf l p:=by unfold bW;rw[dJ hp,if_neg (by omega)]
 rw[jO (by rw[oB];exact hk),e1,e2];have e3:vf (bW a p (k+1) l) j=if j<k+1/\j≠p then vf l j-(vf a j).fdiv (vf a p)*vf l p else vf l j:=by unfold bW;rw[dJ hj]
 have e4:vf (bW a p k l) j=if j<k/\j≠p then vf l j-(vf a j).fdiv (vf a p)*vf l p else vf l j:=by unfold bW;rw[dJ hj]
 rw[e3];by_cases e:k=j
 . subst e;rw[if_pos rfl,if_pos ⟨by omega,hkp⟩]
 . rw[if_neg e,e4];by_cases h2:j<k/\j≠p
   . rw[if_pos h2,if_pos ⟨by omega,h2.2⟩]
   . rw[if_neg h2,if_neg (by omega)]
theorem T8{a:List Int}{p k:Nat}{l:List Int}(h:k=p\/vf a k=0):bW a p (k+1) l=bW a p k l:=by
 unfold bW;refine JZ fun j hj=>?_;by_cases e:j=k
 . subst e;have h2:¬(j<j/\j≠p):=by omega
   rcases h with h|h
   . have h1:¬(j<j+1/\j≠p):=by omega
     rw[if_neg h1,if_neg h2]
   . rw[if_neg h2,h];split
     . rw[yt];omega
     . rfl
 . by_cases h2:j<k/\j≠p
   . rw[if_pos h2,if_pos ⟨by omega,h2.2⟩]
   . rw[if_neg h2,if_neg (by omega)]
theorem TL(s:St)(a:List Int)(p:Nat):fk s a p 0=s:=by
 unfold fk;rw[show bW a p 0=id from funext fun l=>Qd];simp
theorem S4{s:St}{a:List Int}{p k:Nat}(h:k=p\/vf a k=0):fk s a p (k+1)=fk s a p k:=by
 unfold fk;rw[show bW a p (k+1)=bW a p k from funext fun l=>T8 h]
theorem QP{s:St}{a:List Int}{p k:Nat}(hu:∀r∈s.u,r.length=s.n)(hi:∀x∈s.items,x.g.length=s.n)(hp:p<s.n)(hk:k<s.n)(hkp:k≠p):kv (fk s a p k) k p ((vf a k).fdiv (vf a p))=fk s a p (k+1):=by
 unfold kv fk;dsimp only;rw[mf,mf];congr 1
 . apply B5;intro r hr;exact Kc (by rw[hu r hr];exact hp) (by rw[hu r hr];exact hk) hkp
 . apply B5;intro x hx;show AI.mk _ _=AI.mk _ _;rw[show kX k p ((vf a k).fdiv (vf a p)) (bW a p k x.g)=bW a p (k+1) x.g from Kc (by rw[hi x hx];exact hp) (by rw[hi x hx];exact hk) hkp]
theorem EL{n K:Nat}{a:List Int}{p k:Nat}{l:List Int}(hl:jK n K l)(ha:∀j,dl (vf a j)<=8):jK n (K+9) (bW a p k l):=by
 refine⟨oB.trans hl.1,fun v hv=>?_⟩;obtain⟨j,hj,rfl⟩:=gE hv;rw[oB]at hj;unfold bW;rw[dJ hj];split
 . have h1:=hl.vf j;have h2:=hl.vf p;have h3:=j5 ((vf a j).fdiv (vf a p)) (vf l p);have h4:=rE (vf a j) (vf a p);have h5:=ha j;exact jG (K:=K+8) (by omega) (by omega)
 . have:=hl.vf j;omega
theorem Ol{K:Nat}{s0 s:St}{i p:Nat}(hu:SU K s)(hn:s.n<=512)(hn0:s0.n=s.n)(hil:s.items.length<=1073741824)(hi:∀x∈s.items,jK s.n 8 x.g)(hii:i<s.items.length)(hp:p<s.n)(hK8:8<=K)(hK:K+30<=cX)(c0:Bool):
 Tm (fun N=>bJ (zM N s0.to (i:Int) (s.items[i]).to (p:Int)) N (s.to.known,s.to.steps,s.to.u,s.to.status,s.to.value,s.to.items,s.to.stack,c0,0))
  (fun r=>∃c,r=((fk s (s.items[i]).g p s.n).to.known,(fk s (s.items[i]).g p s.n).to.steps,(fk s (s.items[i]).g p s.n).to.u,(fk s (s.items[i]).g p s.n).to.status,(fk s (s.items[i]).g p s.n).to.value,(fk s (s.items[i]).g p s.n).to.items,(fk s (s.items[i]).g p s.n).to.stack,c)/\(c=true↔c0=true/\∀j,j<s.n->j≠p->vf (s.items[i]).g j=0)):=by
 generalize hx:s.items[i]=x;have hxm:x∈s.items:=hx▸du hii;obtain⟨xl,xd⟩:=hi x hxm;have hxl:x.to.g.length=s.n:=(dG _).trans xl;have ha:∀j,dl (vf x.g j)<=8:=jK.vf ⟨xl,xd⟩;refine eL s.n (fun k t=>∃c,t=((fk s x.g p k).to.known,(fk s x.g p k).to.steps,(fk s x.g p k).to.u,(fk s x.g p k).to.status,(fk s x.g p k).to.value,(fk s x.g p k).to.items,(fk s x.g p k).to.stack,c,(k:Int))/\(c=true↔c0=true/\∀j,j<k->j≠p->vf x.g j=0)) ⟨c0,by rw[TL];rfl,by simp⟩ ?_;rintro k hk _ ⟨c,rfl,hc⟩;dsimp only[zM];refine aY (fun hlt=>?_) (fun hge=>aM ?_)
 . have hlt:k<s.n:=by rw[hxl]at hlt;omega
   have hik:∀z∈(fk s x.g p k).items,jK s.n (8+9) z.g:=by
    intro z hz;obtain⟨w,hw,rfl⟩:=dL.1 hz;exact EL (hi w hw) ha
   have hgk:(fk s x.g p k).items[i]?=some {x with g:=bW x.g p k x.g}:=by
    show(s.items.map _)[i]?=_;rw[gM,bV hii,hx];rfl
   refine Tm.bind (Q:=fun r=>(r.1,r.2.1,r.2.2.1,r.2.2.2.1,r.2.2.2.2.1,r.2.2.2.2.2.1,r.2.2.2.2.2.2.1)=ij (fk s x.g p (k+1))/\(r.2.2.2.2.2.2.2=true↔c0=true/\∀j,j<k+1->j≠p->vf x.g j=0)) (Tm.bind (Q:=fun b=>b=decide (k≠p/\vf x.g k≠0)) (aY (fun hkp=>?_) (fun hkp=>aM ?_)) ?_) ?_
   . have hkp:k≠p:=by omega
     refine aN (a:=({x with g:=bW x.g p k x.g}:AI).to) (kG (by show((fk s x.g p k).items.map AI.to)[i]?=_;rw[gM,hgk];rfl)) ?_;refine aN (ei (l:=bW x.g p k x.g) (by rw[oB];omega)) ?_;have e:vf (bW x.g p k x.g) k=vf x.g k:=by unfold bW;rw[dJ (by omega),if_neg (by omega)]
     rw[e];refine aU (jg (bO (ha k) (by decide))) (aM ?_);apply decide_eq_decide.2;rw[oT];exact⟨fun h=>⟨hkp,h⟩,fun h=>h.2⟩
   . rw[decide_eq_false];omega
   . rintro _ rfl;refine aY (fun h1=>?_) (fun h1=>aM ?_)
     . obtain⟨hkp,hk0⟩:=of_decide_eq_true h1;refine aN (ei (l:=x.g) (by omega)) (aN (ei (l:=x.g) (k:=p) (by omega)) (Tm.bind (qx (bO (ha k) (by decide)) (bO (ha p) (by decide))) ?_));intro r hr;rw[hr,ir (x:=(fk s x.g p k).to) (by show(s0.n:Int)=s.n;rw[hn0])];have hSUk:SU (K+9) (fk s x.g p k):=⟨⟨by show(s.u.map _).length=_;rw[cN];exact hu.u.1,fun l hl=>by
        obtain⟨w,hw,rfl⟩:=dL.1 hl;exact EL (hu.u.2 w hw) ha⟩,hu.st,⟨hu.v.1,fun v hv=>by have:=hu.v.2 v hv;omega⟩⟩
       have hq:=rE (vf x.g k) (vf x.g p);have hq8:=ha k;refine aU (Qn (s:=fk s x.g p k) hSUk hn (by show(s.items.map _).length<=_;rw[cN];exact hil) (fun z hz=>⟨(hik z hz).1,fun v hv=>by have:=(hik z hz).2 v hv;omega⟩) hlt hp (by omega)) (aM ?_);rw[QP (fun r hr=>(hu.u.2 r hr).1) (fun z hz=>(hi z hz).1) hp hlt hkp];refine⟨rfl,?_⟩;dsimp only;exact⟨fun e=>(by cases e),fun e=>absurd (e.2 k (by omega) hkp) hk0⟩
     . have h2:k=p\/vf x.g k=0:=by
        have:¬(k≠p/\vf x.g k≠0):=fun e=>h1 (decide_eq_true e);omega
       rw[S4 h2];refine⟨rfl,?_⟩;dsimp only;rw[hc];refine and_congr_right fun _=>⟨fun h j hj hjp=>?_,fun h j hj hjp=>h j (by omega) hjp⟩;rcases cv j k with h3|h3
       . exact h j h3 hjp
       . obtain rfl:j=k:=by omega
         rcases h2 with h2|h2
         . exact absurd h2 hjp
         . exact h2
   . rintro⟨r1,r2,r3,r4,r5,r6,r7,r8⟩ ⟨h1,h2⟩;dsimp only at h1 h2⊢;obtain⟨rfl,rfl,rfl,rfl,rfl,rfl,rfl⟩:=by simpa[ij]using h1
     exact aM ⟨hlt,r8,by rw[ep (by omega)],h2⟩
 . have:k=s.n:=by rw[hxl]at hge;omega
   subst this;exact⟨c,rfl,hc⟩
open Go Go.X
def bE(f g:Nat->Int):Nat->Int
 |0=>0
 |n+1=>bE f g n+f n*g n
theorem eF{f f' g g':Nat->Int}:∀{n:Nat},(∀j,j<n->f j=f' j)->(∀j,j<n->g j=g' j)->bE f g n=bE f' g' n
 |0,_,_=>rfl
 |n+1,h,h'=>by simp only[bE];rw[eF (n:=n) (fun j hj=>h j (by omega)) (fun j hj=>h' j (by omega)),h n (by omega),h' n (by omega)]
theorem u4{f h g:Nat->Int}{k:Int}:∀n,bE (fun j=>f j+k*h j) g n=bE f g n+k*bE h g n
 |0=>by simp[bE]
 |n+1=>by simp only[bE,u4 n];grind
theorem rj{f g:Nat->Int}{k:Int}:∀n,bE (fun j=>k*f j) g n=k*bE f g n
 |0=>by simp[bE]
 |n+1=>by simp only[bE,rj n];grind
theorem oH{f g:Nat->Int}:∀n,bE f g n=bE g f n
 |0=>rfl
 |n+1=>by simp only[bE,oH n];grind
theorem qT{f g:Nat->Int}:∀{n:Nat},(∀j,j<n->f j=0)->bE f g n=0
 |0,_=>rfl
 |n+1,h=>by simp only[bE];rw[qT (n:=n) fun j hj=>h j (by omega),h n (by omega)];simp
theorem qi{f g:Nat->Int}{p:Nat}:∀{n:Nat},p<n->(∀j,j<n->j≠p->f j=0)->bE f g n=f p*g p
 |n+1,hp,h=>by
  simp only[bE];by_cases e:n=p
  . subst e;rw[qT fun j hj=>h j (by omega) (by omega)];simp
  . rw[qi (n:=n) (by omega) fun j hj=>h j (by omega),h n (by omega) e];simp
def cI(y:Nat->Int)(v:Nat)(z:Int):Nat->Int:=fun j=>if j=v then z else y j
theorem tO{f y:Nat->Int}{v:Nat}{z:Int}:∀{n:Nat},v<n->bE f (cI y v z) n=bE f y n+f v*(z-y v)
 |n+1,hv=>by
  simp only[bE];by_cases e:n=v
  . subst e;rw[eF (f:=f) (f':=f) (g:=cI y n z) (g':=y) (n:=n) (fun _ _=>rfl) fun j hj=>by unfold cI;rw[if_neg (by omega)]];unfold cI;rw[if_pos rfl];grind
  . rw[tO (n:=n) (by omega)];unfold cI;rw[if_neg e];grind
theorem mQ{c y:Nat->Int}{U:Nat->Nat->Int}{n:Nat}:∀{m:Nat},bE c (fun i=>bE (U i) y n) m=bE (fun j=>bE c (fun i=>U i j) m) y n
 |0=>by simp only[bE];rw[qT fun _ _=>rfl]
 |m+1=>by
  simp only[bE];rw[mQ (m:=m)];have:=u4 (f:=fun j=>bE c (fun i=>U i j) m) (h:=fun j=>U m j) (g:=y) (k:=c m) n;exact this.symm
theorem DH{f g:Nat->Int}{d:Int}:∀{n:Nat},(∀j,j<n->d∣f j)->d∣bE f g n
 |0,_=>yu d
 |n+1,h=>Int.dvd_add (DH fun j hj=>h j (by omega)) (Int.dvd_trans (h n (by omega)) (Int.dvd_mul_right ..))
def mx(u:List (List Int))(i j:Nat):Int:=vf (u.getD i []) j
def ux(s:St)(y:Nat->Int)(i:Nat):Int:=bE (mx s.u i) y s.n
def cu(u:List (List Int))(n:Nat)(c:List Int)(j:Nat):Int:=bE (vf c) (fun i=>mx u i j) n
theorem zH(s:St)(c:List Int)(y:Nat->Int):bE (vf c) (ux s y) s.n=bE (cu s.u s.n c) y s.n:=mQ
theorem La{s:St}{y:Nat->Int}{v:Nat}{z:Int}{i:Nat}(hv:v<s.n):ux s (cI y v z) i=ux s y i+mx s.u i v*(z-y v):=tO hv
def Unim(u:List (List Int))(n:Nat)(w:Nat->Nat->Int):Prop:=(∀i,i<n->∀k,k<n->bE (mx u i) (fun j=>w j k) n=if i=k then 1 else 0)/\∀i,i<n->∀k,k<n->bE (w i) (fun j=>mx u j k) n=if i=k then 1 else 0
theorem o9{c:Nat->Int}{n k:Nat}(hk:k<n):bE c (fun i=>if i=k then 1 else 0) n=c k:=by
 rw[oH,qi hk fun j _ hj=>if_neg hj,if_pos rfl];omega
theorem zl{u:List (List Int)}{n:Nat}{w:Nat->Nat->Int}(h:Unim u n w){c:List Int}{k:Nat}(hk:k<n):vf c k=bE (cu u n c) (fun j=>w j k) n:=by
 have:bE (cu u n c) (fun j=>w j k) n=bE (vf c) (fun i=>bE (mx u i) (fun j=>w j k) n) n:=mQ.symm;rw[this,eF (f':=vf c) (g':=fun i=>if i=k then 1 else 0) (fun _ _=>rfl) (fun i hi=>h.1 i hi k hk),o9 hk]
theorem Ac{u:List (List Int)}{n:Nat}{a b:List Int}{k:Int}{j:Nat}{c:List Int}(h:∀i,i<n->vf c i=vf a i+k*vf b i):cu u n c j=cu u n a j+k*cu u n b j:=by
 unfold cu;rw[eF (f':=fun i=>vf a i+k*vf b i) (g':=fun i=>mx u i j) h fun _ _=>rfl,u4]
theorem BG{u:List (List Int)}{n:Nat}{a c:List Int}{k:Int}{j:Nat}(h:∀i,i<n->vf c i=k*vf a i):cu u n c j=k*cu u n a j:=by
 unfold cu;rw[eF (f':=fun i=>k*vf a i) (g':=fun i=>mx u i j) h fun _ _=>rfl,rj]
structure Inv (s:St):Prop where
 ul:s.u.length=s.n/\∀r∈s.u,r.length=s.n
 fV:s.status.length=s.n
 vl:s.value.length=s.n
 kl:∀q∈s.known,q.c.length=s.n
 it:∀x∈s.items,x.pos<s.known.length/\x.g.length=s.n
 dd:∀x∈s.items,∀j,j<s.n->vf x.g j=cu s.u s.n (aI s.known x.pos).c j
 nf:∀x∈s.items,∀j,j<s.n->vf s.status j≠0->vf x.g j=0
 gz:∀x∈s.items,dc x.g=1
 kh:s.items.Pairwise fun x y=>x.g≠y.g
 jZ:∃w,Unim s.u s.n w
 stat:∀j,j<s.n->vf s.status j=0\/vf s.status j=1\/vf s.status j=2
 sv:∀e∈s.stack,e.v<s.n/\vf s.status e.v=2/\∀p∈e.items,p<s.known.length
 s2:∀j,j<s.n->vf s.status j=2->∃e∈s.stack,e.v=j
 sd:s.stack.Pairwise fun e' e=>e'.v≠e.v/\∀p∈e.items,cu s.u s.n (aI s.known p).c e'.v=0
def IH(s:St)(y:Nat->Int)(x:AI):Prop:=bE (vf x.g) y s.n<=(aI s.known x.pos).b
def hx(s:St)(x:Nat->Int)(p:Nat):Prop:=bE (vf (aI s.known p).c) x s.n<=(aI s.known p).b
theorem tX{s:St}(h:Inv s){x:AI}(hx':x∈s.items){y:Nat->Int}:IH s y x↔hx s (ux s y) x.pos:=by
 unfold IH hx;rw[zH,eF (f:=vf x.g) (f':=cu s.u s.n (aI s.known x.pos).c) (g:=y) (g':=y) (h.dd x hx') fun _ _=>rfl]
def Fx(s:St)(y:Nat->Int):Prop:=∀j,j<s.n->vf s.status j=1->y j=vf s.value j
def Hs(s:St)(y:Nat->Int)(k:Nat):Prop:=Fx s y/\(∀x∈s.items,IH s y x)/\∀e∈s.stack.drop k,∀p∈e.items,hx s (ux s y) p
structure gT (s s':St):Prop where
 n:s'.n=s.n
 kn:∃e,s'.known=s.known++e
 dM:∃t,s'.stack=s.stack++t
 col:∀j,j<s.n->vf s.status j≠0->vf s'.status j=vf s.status j/\(vf s.status j=1->vf s'.value j=vf s.value j)/\∀i,i<s.n->mx s'.u i j=mx s.u i j
 tr:∀y',∃y,(∀i,i<s.n->ux s' y' i=ux s y i)/\(∀j,j<s.n->vf s.status j≠0->y j=y' j)/\∀k,k<=s.stack.length->Hs s' y' k->Hs s y k
theorem gT.refl(s:St):gT s s:=⟨rfl,⟨[],by simp⟩,⟨[],by simp⟩,fun j _ _=>⟨rfl,fun _=>rfl,fun _ _=>rfl⟩,fun y=>⟨y,fun _ _=>rfl,fun _ _ _=>rfl,fun _ _ h=>h⟩⟩
theorem gT.trans{a b c:St}(h:gT a b)(h':gT b c):gT a c:=by
 obtain⟨e1,h1⟩:=h.kn;obtain⟨e2,h2⟩:=h'.kn;obtain⟨t1,g1⟩:=h.dM;obtain⟨t2,g2⟩:=h'.dM;refine⟨h'.n.trans h.n,⟨e1++e2,by rw[h2,h1,iZ]⟩,⟨t1++t2,by rw[g2,g1,iZ]⟩,fun j hj hs=>?_,fun y''=>?_⟩
 . obtain⟨c1,c2,c3⟩:=h.col j hj hs;obtain⟨d1,d2,d3⟩:=h'.col j (by rw[h.n];exact hj) (by rw[c1];exact hs);exact⟨d1.trans c1,fun e=>(d2 (by rw[c1];exact e)).trans (c2 e),fun i hi=>(d3 i (by rw[h.n];exact hi)).trans (c3 i hi)⟩
 . obtain⟨y',p1,p2,p3⟩:=h'.tr y'';obtain⟨y,q1,q2,q3⟩:=h.tr y';refine⟨y,fun i hi=>(p1 i (by rw[h.n];exact hi)).trans (q1 i hi),fun j hj hs=>(q2 j hj hs).trans (p2 j (by rw[h.n];exact hj) (by rw[(h.col j hj hs).1];exact hs)),fun k hk hh=>q3 k hk (p3 k (by rw[g1];simp;omega) hh)⟩
structure RF (sys:List AQ)(s:St):Prop where
 R:∀y,Hs s y 0->∀q∈sys,bE (vf q.c) (ux s y) s.n<=q.b
 F:∀k e,s.stack[k]?=some e->e.dz=false->∀y,Hs s y (k+1)->∃z,∀p∈e.items,hx s (ux s (cI y e.v z)) p
theorem rI{s s':St}(hn:s'.n=s.n){e:List AQ}(h:s'.known=s.known++e){p:Nat}(hp:p<s.known.length){x x':Nat->Int}(hx':∀i,i<s.n->x' i=x i):hx s' x' p↔hx s x p:=by
 unfold hx;rw[h,iI hp,hn,eF (f:=vf (aI s.known p).c) (f':=vf (aI s.known p).c) (fun _ _=>rfl) hx']
theorem gT.R{sys:List AQ}{s s':St}(h:gT s s')(hr:∀y,Hs s y 0->∀q∈sys,bE (vf q.c) (ux s y) s.n<=q.b):∀y,Hs s' y 0->∀q∈sys,bE (vf q.c) (ux s' y) s'.n<=q.b:=by
 intro y' hy q hq;obtain⟨y,h1,h2,h3⟩:=h.tr y';have:=hr y (h3 0 (fy _) hy) q hq;rw[h.n,eF (f:=vf q.c) (f':=vf q.c) (fun _ _=>rfl) h1];exact this
theorem gT.F{s s':St}(h:gT s s')(hI:Inv s){k:Nat}{e:AE}(hk:s.stack[k]?=some e)(hf:∀y,Hs s y (k+1)->∃z,∀p∈e.items,hx s (ux s (cI y e.v z)) p):∀y,Hs s' y (k+1)->∃z,∀p∈e.items,hx s' (ux s' (cI y e.v z)) p:=by
 intro y' hy;obtain⟨y,h1,h2,h3⟩:=h.tr y';have hkl:k<s.stack.length:=(dR.1 hk).1;obtain⟨z,hz⟩:=hf y (h3 (k+1) hkl hy);have hm:e∈s.stack:=mX hk;obtain⟨e1,e2,e3⟩:=hI.sv e hm;obtain⟨ek,hek⟩:=h.kn;refine⟨z,fun p hp=>(rI h.n hek (e3 p hp) fun i hi=>?_).2 (hz p hp)⟩;rw[La (by rw[h.n];exact e1),La e1,h1 i hi,h2 e.v e1 (by omega),(h.col e.v e1 (by omega)).2.2 i hi]
def zS(s:St)(us:List AU)(j:Nat):Int:=cu s.u s.n (vec s.n (dU s.known us)) j
structure od (s:St)(g:List Int)(us:List AU):Prop where
 dd:∀j,j<s.n->vf g j=zS s us j
 nf:∀j,j<s.n->vf s.status j≠0->vf g j=0
theorem Cf{g:List Int}{n j:Nat}(hl:g.length=n)(hj:j<n):vf (vec n fun j=>vf g j/dv g) j*dv g=vf g j:=by
 rw[dJ hj];refine MR ?_;unfold dv;split
 . exact Int.one_dvd _
 . exact qW (gr (by omega))
theorem Kq{s:St}{g:List Int}{us:List AU}(hI:Inv s)(hl:g.length=s.n)(h:od s g us){i:Nat}(hi:i<s.n):dv g∣dU s.known us i:=by
 obtain⟨w,hw⟩:=hI.jZ;have h1:=zl hw (c:=vec s.n (dU s.known us)) hi;rw[dJ hi]at h1;rw[h1];refine DH fun j hj=>?_;rw[<-show zS s us j=cu s.u s.n (vec s.n (dU s.known us)) j from rfl,<-h.dd j hj];unfold dv;split
 . exact Int.one_dvd _
 . exact qW (gr (by omega))
theorem HO{K:Nat}{s:St}{g:List Int}{us:List AU}(hI:Inv s)(hp:gA K s g us)(h:od s g us):∀j,j<s.n->vf (kT s g us).g j=cu s.u s.n (aI (dst s g us).known (iy s g us)).c j:=by
 intro j hj;show vf (vec s.n fun j=>vf g j/dv g) j=_;have hd:=qa g;have h1:=Cf (j:=j) hp.gl hj;by_cases hm:many g us=true
 . have e:aI (dst s g us).known (iy s g us)=mE s.n s.known us (dv g):=by
    unfold dst iy;rw[if_pos hm,if_pos hm];exact pD
   rw[e];have h2:cu s.u s.n (vec s.n (dU s.known us)) j=dv g*cu s.u s.n (mE s.n s.known us (dv g)).c j:=BG fun i hi=>by
    rw[dJ hi];show _=dv g*vf (vec s.n _) i;rw[dJ hi,fE,MR (Kq hI hp.gl h hi)]
   rw[h.dd j hj]at h1;have h3:dv g*vf (vec s.n fun j=>vf g j/dv g) j=dv g*cu s.u s.n (mE s.n s.known us (dv g)).c j:=by
    rw[<-h2,fE,h1];rfl
   exact Mu (by omega) h3
 . have hm':=hm;have e:aI (dst s g us).known (iy s g us)=aI s.known (us.headD ⟨0,0⟩).ix:=by
    unfold dst iy;rw[if_neg hm,if_neg hm]
   rw[e];unfold many at hm;simp only[vG,decide_eq_true_eq,not_or,Nat.not_lt,th]at hm;obtain⟨m1,m2,m3⟩:=hm;have hu0:=hp.u0
   match us,hu0,m1 with
   |[u],_,_=>
    have m2:u.n=1:=m2;have h1:vf (vec s.n fun j=>vf g j/dv g) j=vf g j:=by
     have h2:=h1;rwa[show∀z:Int,z*dv g=z from fun z=>by rw[m3];omega]at h2
    rw[h1,h.dd j hj];show cu s.u s.n (vec s.n (dU s.known [u])) j=cu s.u s.n (aI s.known u.ix).c j;unfold cu;refine eF (fun i hi=>?_) fun _ _=>rfl;rw[dJ hi];show u.n*vf (aI s.known u.ix).c i+0=_;rw[m2];omega
theorem Jl{K:Nat}{s:St}{g:List Int}{us:List AU}(hp:gA K s g us):(aI (dst s g us).known (iy s g us)).b=fY s.known us/dv g:=by
 by_cases hm:many g us=true
 . have e:aI (dst s g us).known (iy s g us)=mE s.n s.known us (dv g):=by
    unfold dst iy;rw[if_pos hm,if_pos hm];exact pD
   rw[e];rfl
 . have e:aI (dst s g us).known (iy s g us)=aI s.known (us.headD ⟨0,0⟩).ix:=by
    unfold dst iy;rw[if_neg hm,if_neg hm]
   rw[e];unfold many at hm;simp only[vG,decide_eq_true_eq,not_or,Nat.not_lt,th]at hm;obtain⟨m1,m2,m3⟩:=hm;have hu0:=hp.u0
   match us,hu0,m1 with
   |[u],_,_=>
    have m2:u.n=1:=m2;show(aI s.known u.ix).b=(u.n*(aI s.known u.ix).b+0)/dv g;rw[m2,m3];omega
theorem R1{g:List Int}{n:Nat}(hl:g.length=n)(h:dc g≠0):dc (vec n fun j=>vf g j/dv g)=1:=by
 generalize hk:dc (vec n fun j=>vf g j/dv g)=k;have hd:dv g=(dc g:Nat):=by unfold dv;rw[if_neg h]
 have h1:((k*dc g:Nat):Int)∣((dc g:Nat):Int):=oW fun x hx=>by
  obtain⟨j,hj,rfl⟩:=gE hx;have h2:=Cf (g:=g) (n:=n) (j:=j) hl (by omega);rw[<-h2,hd,FU];refine Int.mul_dvd_mul ?_ (Int.dvd_refl _);rw[<-hk];rw[<-hd];exact qW (gr (by rw[eZ];omega))
 have h2:k*dc g∣dc g:=MS.1 h1;obtain⟨c,hc⟩:=h2;have:0<dc g:=by omega
 have h3:dc g*(k*c)=dc g*1:=by rw[Nat.mul_one,<-Nat.mul_assoc,Nat.mul_comm (dc g) k];exact hc.symm
 have h4:=Nat.eq_of_mul_eq_mul_left this h3;exact Nat.eq_one_of_mul_eq_one_right h4
theorem Kp{kn:List AQ}{x:AI}:∀{l:List AI},l.Pairwise (fun x y=>x.g≠y.g)->(ee kn x l).Pairwise fun x y=>x.g≠y.g
 |[],_=>by simp[ee]
 |y::l,h=>by
  obtain⟨h1,h2⟩:=yv.1 h;rw[ee];split
  . rename_i e;split
    . exact yv.2 ⟨fun z hz=>by rw[e];exact h1 z hz,h2⟩
    . exact h
  . rename_i e;refine yv.2 ⟨fun z hz=>?_,Kp h2⟩;rcases lO hz with rfl|hz
    . exact fun e'=>e e'.symm
    . exact h1 z hz
theorem yS{s:St}{x:AI}{y:Nat->Int}:∀{l:List AI},(∀z∈ee s.known x l,IH s y z)->(∀z∈l,IH s y z)/\IH s y x
 |[],h=>⟨fun z hz=>(by cases hz),h x (by simp[ee])⟩
 |w::l,h=>by
  rw[ee]at h;split at h
  . rename_i e;split at h
    . rename_i hb;have hx:=h x cK;refine⟨fun z hz=>?_,hx⟩;rcases dY.1 hz with rfl|hz
      . unfold IH at hx⊢;rw[<-e];omega
      . exact h z (cH _ hz)
    . rename_i hb;refine⟨h,?_⟩;have hw:=h w cK;unfold IH at hw⊢;rw[e];omega
  . have h1:=yS (l:=l) fun z hz=>h z (cH _ hz);refine⟨fun z hz=>?_,h1.2⟩;rcases dY.1 hz with rfl|hz
    . exact h z cK
    . exact h1.1 z hz
structure kB (s:St)(x:AI):Prop where
 pos:x.pos<s.known.length
 gl:x.g.length=s.n
 dd:∀j,j<s.n->vf x.g j=cu s.u s.n (aI s.known x.pos).c j
 nf:∀j,j<s.n->vf s.status j≠0->vf x.g j=0
 gz:dc x.g=1
theorem Inv.add{s:St}(h:Inv s){x:AI}(hx:kB s x):Inv (add s x)where
 ul:=h.ul
 fV:=h.fV
 vl:=h.vl
 kl:=h.kl
 it z hz:=(lO hz).elim (fun e=>by subst e;exact⟨hx.pos,hx.gl⟩) (fun hz=>h.it z hz)
 dd z hz:=(lO hz).elim (fun e=>by subst e;exact hx.dd) (fun hz=>h.dd z hz)
 nf z hz:=(lO hz).elim (fun e=>by subst e;exact hx.nf) (fun hz=>h.nf z hz)
 gz z hz:=(lO hz).elim (fun e=>by subst e;exact hx.gz) (fun hz=>h.gz z hz)
 kh:=Kp h.kh
 jZ:=h.jZ
 stat:=h.stat
 sv:=h.sv
 s2:=h.s2
 sd:=h.sd
theorem Inv.known{s:St}(h:Inv s){kn e:List AQ}{st:List AS}(hk:kn=s.known++e)(he:∀q∈e,q.c.length=s.n):Inv {s with known:=kn,steps:=st}where
 ul:=h.ul
 fV:=h.fV
 vl:=h.vl
 kl q hq:=by
  have hq:q∈kn:=hq;rw[hk]at hq;rcases fN.1 hq with hq|hq
  . exact h.kl q hq
  . exact he q hq
 it z hz:=⟨by have:=(h.it z hz).1;show _<kn.length;rw[hk];simp;omega,(h.it z hz).2⟩
 dd z hz j hj:=by rw[h.dd z hz j hj];show _=cu s.u s.n (aI kn z.pos).c j;rw[hk,iI (h.it z hz).1]
 nf:=h.nf
 gz:=h.gz
 kh:=h.kh
 jZ:=h.jZ
 stat:=h.stat
 sv e' he':=⟨(h.sv e' he').1,(h.sv e' he').2.1,fun p hp=>by have:=(h.sv e' he').2.2 p hp;show _<kn.length;rw[hk];simp;omega⟩
 s2:=h.s2
 sd:=by
  have hsv:=h.sv;have:∀a b,a∈s.stack->b∈s.stack->(a.v≠b.v/\∀p∈b.items,cu s.u s.n (aI s.known p).c a.v=0)->(a.v≠b.v/\∀p∈b.items,cu s.u s.n (aI kn p).c a.v=0):=fun a b ha hb hab=>⟨hab.1,fun p hp=>by rw[hk,iI ((hsv b hb).2.2 p hp)];exact hab.2 p hp⟩;exact MT (fun{a b} ha hb hab=>this a b ha hb hab) h.sd
theorem Inv.dst{K:Nat}{s:St}(h:Inv s){g:List Int}{us:List AU}(hp:gA K s g us):Inv (dst s g us):=by
 unfold D.dst;split
 . exact h.known rfl fun q hq=>by rw[cL.1 hq];exact eZ
 . exact h
theorem EG(s:St)(g:List Int)(us:List AU):(dst s g us).u=s.u/\(dst s g us).status=s.status/\(dst s g us).value=s.value/\(dst s g us).stack=s.stack/\(dst s g us).n=s.n/\(dst s g us).items=s.items:=by
 unfold dst;split<;>exact⟨rfl,rfl,rfl,rfl,rfl,rfl⟩
theorem Px(s:St)(g:List Int)(us:List AU):(put s g us).2.u=s.u/\(put s g us).2.status=s.status/\(put s g us).2.value=s.value/\(put s g us).2.stack=s.stack/\(put s g us).2.n=s.n:=by
 obtain⟨h1,h2,h3,h4,h5,_⟩:=EG s g us;unfold put;dsimp only;split<;>exact⟨h1,h2,h3,h4,h5⟩
theorem R0{K:Nat}{s:St}(h:Inv s){g:List Int}{us:List AU}(hp:gA K s g us)(hs:od s g us)(h0:dc g≠0):kB (dst s g us) (kT s g us):=by
 obtain⟨h1,h2,h3,h4,h5,_⟩:=EG s g us;refine⟨yI hp,by rw[h5];exact eZ,fun j hj=>?_,fun j hj hst=>?_,R1 hp.gl h0⟩
 . rw[h5]at hj⊢;rw[h1];exact HO h hp hs j hj
 . rw[h5]at hj;rw[h2]at hst;show vf (vec s.n fun j=>vf g j/dv g) j=0;rw[dJ hj,hs.nf j hj hst];simp
theorem Inv.put{K:Nat}{s:St}(h:Inv s){g:List Int}{us:List AU}(hp:gA K s g us)(hs:od s g us):Inv (put s g us).2:=by
 unfold D.put;dsimp only;split
 . rename_i h0;exact(h.dst hp).add (R0 h hp hs h0)
 . exact h.dst hp
theorem wU{s s':St}(hn:s'.n=s.n){e:List AQ}(he:s'.known=s.known++e){x:AI}(hx:x.pos<s.known.length){y:Nat->Int}:IH s' y x↔IH s y x:=by
 unfold IH;rw[hn,he,iI hx]
theorem NP{K:Nat}{s:St}(h:Inv s){g:List Int}{us:List AU}(hp:gA K s g us)(hs:od s g us)(hok:(put s g us).1=true){y:Nat->Int}(hy:∀z∈(put s g us).2.items,IH (put s g us).2 y z):
 (∀z∈s.items,IH s y z)/\bE (vf g) y s.n<=fY s.known us:=by
 obtain⟨e,he,_⟩:=G9 s g us;obtain⟨f1,f2,f3,f4,f5,f6⟩:=EG s g us;have hd:=qa g;have hb:=Jl hp;by_cases h0:dc g≠0
 . have e2:(D.put s g us).2=add (dst s g us) (kT s g us):=by unfold D.put;dsimp only;rw[if_pos h0]
   rw[e2]at hy;obtain⟨h1,h2⟩:=yS (s:=dst s g us) hy;rw[f6]at h1;refine⟨fun z hz=>(wU f5 he (h.it z hz).1).1 (h1 z hz),?_⟩;unfold IH at h2;rw[f5]at h2;have h3:bE (vf g) y s.n=dv g*bE (vf (kT s g us).g) y s.n:=by
    rw[<-rj];refine eF (fun j hj=>?_) fun _ _=>rfl;rw[fE];exact(Cf hp.gl hj).symm
   rw[show(aI (dst s g us).known (kT s g us).pos).b=fY s.known us/dv g from hb]at h2;have h4:=gg h2 (dZ hd);have h5:=Int.mul_ediv_self_le (x:=fY s.known us) (k:=dv g) (by omega);omega
 . have e2:(D.put s g us).2=dst s g us:=by unfold D.put;dsimp only;rw[if_neg h0]
   rw[e2,f6]at hy;refine⟨fun z hz=>(wU f5 he (h.it z hz).1).1 (hy z hz),?_⟩;have h0:=th.1 h0;have hz:=JN h0;rw[qT fun j hj=>hz _ (gr (by rw[hp.gl];exact hj))];have:mK s g us=true:=hok;unfold mK at this;rw[hb]at this;have hd1:dv g=1:=by unfold dv;rw[if_pos h0]
   rw[hd1,Int.ediv_one]at this;simpa[h0]using this
theorem Ot{K:Nat}{s:St}(h:Inv s){g:List Int}{us:List AU}(hp:gA K s g us)(hs:od s g us)(hok:(put s g us).1=false):∃q∈(put s g us).2.known,(∀j,j<s.n->vf q.c j=0)/\q.b<0:=by
 have hk:mK s g us=false:=hok;unfold mK at hk;simp only[FV,decide_eq_false_iff_not,ne_eq,th,Int.not_le]at hk;obtain⟨h0,hb⟩:=hk;have e2:(D.put s g us).2=dst s g us:=by unfold D.put;dsimp only;rw[if_neg (by simpa using h0)]
 rw[e2];refine⟨_,eK (yI hp),fun j hj=>?_,hb⟩;obtain⟨w,hw⟩:=h.jZ;rw[zl hw hj];refine qT fun i hi=>?_;rw[<-HO h hp hs i hi];show vf (vec s.n fun j=>vf g j/dv g) i=0;rw[dJ hi,JN h0 _ (gr (by rw[hp.gl];exact hi))];simp
open Go Go.X
structure pK (n:Nat)(R:List Int->List Int)(T T':Nat->Nat->Int)(st:Nat->Int):Prop where
 len:∀l,l.length=n->(R l).length=n
 row:∀l,l.length=n->∀j,j<n->vf (R l) j=bE (vf l) (fun k=>T k j) n
 one:∀i,i<n->∀k,k<n->bE (T i) (fun j=>T' j k) n=if i=k then 1 else 0
 two:∀i,i<n->∀k,k<n->bE (T' i) (fun j=>T j k) n=if i=k then 1 else 0
 nf:∀j,j<n->st j≠0->∀k,k<n->T k j=(if k=j then 1 else 0)/\T j k=(if k=j then 1 else 0)
theorem M4{c:Nat->Int}{n k:Nat}(hk:k<n):bE (fun i=>if i=k then 1 else 0) c n=c k:=by
 rw[oH,o9 hk]
theorem I0{c:Nat->Int}{n k:Nat}(hk:k<n):bE c (fun i=>if k=i then 1 else 0) n=c k:=by
 rw[<-o9 (c:=c) hk];exact eF (fun _ _=>rfl) fun j _=>by by_cases e:k=j<;>simp[e,eq_comm]
def gN(s:St)(R:List Int->List Int):St:={s with u:=s.u.map R,items:=s.items.map fun x=>{x with g:=R x.g}}
section
variable {s:St} {R:List Int->List Int} {T T':Nat->Nat->Int}
theorem wV(h:Inv s)(b:pK s.n R T T' (vf s.status)){i j:Nat}(hi:i<s.n)(hj:j<s.n):mx (gN s R).u i j=bE (mx s.u i) (fun k=>T k j) s.n:=by
 have hl:i<s.u.length:=by rw[h.ul.1];exact hi
 unfold mx;have e:(gN s R).u.getD i []=R (s.u.getD i []):=by
  show(s.u.map R).getD i []=_;rw[cy,cy,gM,bV hl];rfl
 rw[e];refine b.row _ ?_ j hj;rw[cy,bV hl];exact h.ul.2 _ (du hl)
theorem JE(h:Inv s)(b:pK s.n R T T' (vf s.status)){c:List Int}{j:Nat}(hj:j<s.n):cu (gN s R).u s.n c j=bE (cu s.u s.n c) (fun k=>T k j) s.n:=by
 unfold cu;rw[eF (f':=vf c) (g':=fun i=>bE (mx s.u i) (fun k=>T k j) s.n) (fun _ _=>rfl) fun i hi=>wV h b hi hj];exact mQ
theorem DW(b:pK s.n R T T' (vf s.status)){f:Nat->Int}{j:Nat}(hj:j<s.n)(hst:vf s.status j≠0):bE f (fun k=>T k j) s.n=f j:=by
 rw[eF (f:=f) (f':=f) (g':=fun k=>if k=j then 1 else 0) (fun _ _=>rfl) fun k hk=>(b.nf j hj hst k hk).1];exact o9 hj
theorem DU(b:pK s.n R T T' (vf s.status)){l:List Int}(hl:l.length=s.n){k:Nat}(hk:k<s.n):vf l k=bE (vf (R l)) (fun j=>T' j k) s.n:=by
 rw[eF (f':=fun j=>bE (vf l) (fun m=>T m j) s.n) (g':=fun j=>T' j k) (fun j hj=>b.row l hl j hj) fun _ _=>rfl];have:bE (fun j=>bE (vf l) (fun m=>T m j) s.n) (fun j=>T' j k) s.n=bE (vf l) (fun m=>bE (T m) (fun j=>T' j k) s.n) s.n:=mQ.symm;rw[this,eF (f:=vf l) (f':=vf l) (g':=fun m=>if m=k then 1 else 0) (fun _ _=>rfl) fun m hm=>b.one m hm k hk,o9 hk]
theorem Inv.ch(h:Inv s)(b:pK s.n R T T' (vf s.status)):Inv (gN s R)where
 ul:=⟨by show(s.u.map R).length=_;rw[cN];exact h.ul.1,fun r hr=>by
  obtain⟨l,hl,rfl⟩:=dL.1 hr;exact b.len l (h.ul.2 l hl)⟩
 fV:=h.fV
 vl:=h.vl
 kl:=h.kl
 it x hx:=by
  obtain⟨z,hz,rfl⟩:=dL.1 hx;exact⟨(h.it z hz).1,b.len _ (h.it z hz).2⟩
 dd x hx j hj:=by
  obtain⟨z,hz,rfl⟩:=dL.1 hx;show vf (R z.g) j=cu (gN s R).u s.n (aI s.known z.pos).c j;rw[JE h b hj,b.row z.g (h.it z hz).2 j hj];exact eF (h.dd z hz) fun _ _=>rfl
 nf x hx j hj hst:=by
  obtain⟨z,hz,rfl⟩:=dL.1 hx;show vf (R z.g) j=0;rw[b.row z.g (h.it z hz).2 j hj,DW b hj hst];exact h.nf z hz j hj hst
 gz x hx:=by
  obtain⟨z,hz,rfl⟩:=dL.1 hx;have h1:=h.gz z hz;have hzl:=(h.it z hz).2;have h2:((dc (R z.g):Nat):Int)∣((dc z.g:Nat):Int):=oW fun v hv=>by
   obtain⟨k,hk,rfl⟩:=gE hv;rw[DU b hzl (by omega)];exact DH fun j hj=>qW (gr (by rw[b.len _ hzl];exact hj))
  rw[h1]at h2;exact Gf (MS.1 h2)
 kh:=by
  show(s.items.map _).Pairwise _;rw[Gg];refine MT (fun{x y} hx hy hne e=>hne ?_) h.kh;have e:R x.g=R y.g:=e;have hxl:=(h.it x hx).2;have hyl:=(h.it y hy).2;refine lY (hxl.trans hyl.symm) fun k hk=>?_;rw[DU b hxl (by omega),DU b hyl (by omega),e]
 jZ:=by
  obtain⟨w,hw⟩:=h.jZ;refine⟨fun j k=>bE (T' j) (fun m=>w m k) s.n,fun i hi k hk=>?_,fun i hi k hk=>?_⟩
  . show bE (mx (gN s R).u i) (fun j=>bE (T' j) (fun m=>w m k) s.n) s.n=_;rw[mQ];rw[eF (f':=mx s.u i) (g':=fun m=>w m k) (fun m hm=>?_) fun _ _=>rfl]
    . exact hw.1 i hi k hk
    . rw[eF (f':=fun j=>bE (mx s.u i) (fun k=>T k j) s.n) (g':=fun j=>T' j m) (fun j hj=>wV h b hi hj) fun _ _=>rfl];have:bE (fun j=>bE (mx s.u i) (fun k=>T k j) s.n) (fun j=>T' j m) s.n=bE (mx s.u i) (fun r=>bE (T r) (fun j=>T' j m) s.n) s.n:=mQ.symm;rw[this,eF (f:=mx s.u i) (f':=mx s.u i) (g':=fun r=>if r=m then 1 else 0) (fun _ _=>rfl) fun r hr=>b.one r hr m hm,o9 hm]
  . show bE (fun k'=>bE (T' i) (fun m=>w m k') s.n) (fun j=>mx (gN s R).u j k) s.n=_;rw[eF (f:=fun k'=>bE (T' i) (fun m=>w m k') s.n) (f':=fun k'=>bE (T' i) (fun m=>w m k') s.n) (g':=fun j=>bE (mx s.u j) (fun r=>T r k) s.n) (fun _ _=>rfl) fun j hj=>wV h b hj hk];rw[mQ];rw[eF (f':=T' i) (g':=fun r=>T r k) (fun r hr=>?_) fun _ _=>rfl]
    . exact b.two i hi k hk
    . have:bE (fun k'=>bE (T' i) (fun m=>w m k') s.n) (fun j=>mx s.u j r) s.n=bE (T' i) (fun m=>bE (w m) (fun j=>mx s.u j r) s.n) s.n:=mQ.symm;rw[this,eF (f:=T' i) (f':=T' i) (g':=fun m=>if m=r then 1 else 0) (fun _ _=>rfl) fun m hm=>hw.2 m hm r hr,o9 hr]
 stat:=h.stat
 sv:=h.sv
 s2:=h.s2
 sd:=by
  refine MT (fun{a e} ha he hae=>⟨hae.1,fun p hp=>?_⟩) h.sd;obtain⟨a1,a2,_⟩:=h.sv a ha;show cu (gN s R).u s.n (aI s.known p).c a.v=0;rw[JE h b a1,DW b a1 (by omega)];exact hae.2 p hp
theorem gT.ch(h:Inv s)(b:pK s.n R T T' (vf s.status)):gT s (gN s R):=by
 refine⟨rfl,⟨[],by simp[gN]⟩,⟨[],by simp[gN]⟩,fun j hj hst=>⟨rfl,fun _=>rfl,fun i hi=>?_⟩,fun y'=>?_⟩
 . rw[wV h b hi hj,DW b hj hst]
 . have hux:∀i,i<s.n->ux (gN s R) y' i=ux s (fun k=>bE (T k) y' s.n) i:=fun i hi=>by
    unfold ux;show bE (mx (gN s R).u i) y' s.n=_;rw[eF (f':=fun j=>bE (mx s.u i) (fun k=>T k j) s.n) (g':=y') (fun j hj=>wV h b hi hj) fun _ _=>rfl];exact mQ.symm
   have hnf:∀j,j<s.n->vf s.status j≠0->bE (T j) y' s.n=y' j:=fun j hj hst=>by
    rw[eF (f':=fun k=>if k=j then 1 else 0) (g':=y') (fun k hk=>(b.nf j hj hst k hk).2) fun _ _=>rfl];exact M4 hj
   refine⟨fun k=>bE (T k) y' s.n,hux,hnf,fun k hk ⟨h1,h2,h3⟩=>⟨fun j hj hst=>?_,fun x hx=>?_,fun e he p hp=>?_⟩⟩
   . show bE (T j) y' s.n=_;rw[hnf j hj (by omega)];exact h1 j hj hst
   . have:=h2 {x with g:=R x.g} (dL.2 ⟨x,hx,rfl⟩);unfold IH at this⊢;have e:bE (vf (R x.g)) y' s.n=bE (vf x.g) (fun k=>bE (T k) y' s.n) s.n:=by
      rw[eF (f':=fun j=>bE (vf x.g) (fun k=>T k j) s.n) (g':=y') (fun j hj=>b.row x.g (h.it x hx).2 j hj) fun _ _=>rfl];exact mQ.symm
     rw[<-e];exact this
   . have:=h3 e he p hp;unfold hx at this⊢;show bE (vf (aI s.known p).c) _ s.n<=_;rw[eF (f:=vf (aI s.known p).c) (f':=vf (aI s.known p).c) (g:=ux s fun k=>bE (T k) y' s.n) (g':=ux (gN s R) y') (fun _ _=>rfl) fun i hi=>(hux i hi).symm];exact this
end
theorem Sa{f g:Nat->Int}{p k n:Nat}(hp:p<n)(hk:k<n)(hne:k≠p)(h:∀j,j<n->j≠p->j≠k->f j=0):bE f g n=f k*g k+f p*g p:=by
 have h1:=u4 (f:=fun j=>if j=k then f j else 0) (h:=fun j=>if j=p then f j else 0) (g:=g) (k:=1) n;rw[qi (f:=fun j=>if j=k then f j else 0) hk fun j _ hj=>if_neg hj,qi (f:=fun j=>if j=p then f j else 0) hp fun j _ hj=>if_neg hj]at h1;simp only[if_true]at h1;rw[eF (f':=fun j=>(if j=k then f j else 0)+1*(if j=p then f j else 0)) (g':=g) (fun j hj=>?_) fun _ _=>rfl,h1]
 . omega
 . by_cases e1:j=k
   . subst e1;rw[if_pos rfl,if_neg hne];omega
   . by_cases e2:j=p
     . subst e2;rw[if_neg e1,if_pos rfl];omega
     . rw[if_neg e1,if_neg e2,h j hj e2 e1];omega
def rT(p:Nat)(q:Nat->Int)(k j:Nat):Int:=if k=j then 1 else if k=p then-q j else 0
theorem LL{p:Nat}{q:Nat->Int}{n j:Nat}{f:Nat->Int}(hp:p<n)(hj:j<n):bE f (fun k=>rT p q k j) n=if j=p then f j else f j-q j*f p:=by
 rw[oH];by_cases e:j=p
 . subst e;rw[if_pos rfl,qi hj fun i _ hi=>by unfold rT;rw[if_neg hi,if_neg hi]];unfold rT;rw[if_pos rfl];omega
 . rw[if_neg e,Sa hp hj e fun i _ h1 h2=>by unfold rT;rw[if_neg h2,if_neg h1]];unfold rT;rw[if_pos rfl,if_neg (by omega),if_pos rfl];grind
theorem JG{p:Nat}{q:Nat->Int}{n i k:Nat}(hp:p<n)(hi:i<n)(hk:k<n):bE (rT p q i) (fun j=>rT p (fun j=>-q j) j k) n=if i=k then 1 else 0:=by
 rw[LL hp hk];by_cases e:k=p
 . subst e;rw[if_pos rfl];unfold rT;by_cases e2:i=k
   . rw[if_pos e2,if_pos e2]
   . rw[if_neg e2,if_neg e2,if_neg e2]
 . rw[if_neg e];unfold rT;by_cases e2:i=k
   . subst e2;rw[if_pos rfl,if_neg e,if_neg e];simp
   . rw[if_neg e2];by_cases e3:i=p
     . subst e3;rw[if_pos rfl,if_pos rfl,if_neg e2];omega
     . rw[if_neg e3,if_neg e3,if_neg e3,if_neg e2];simp
theorem M3{s:St}{a:List Int}{p:Nat}(hp:p<s.n)(hps:vf s.status p=0)(ha:∀j,j<s.n->vf s.status j≠0->vf a j=0):
 pK s.n (bW a p s.n) (rT p fun j=>(vf a j).fdiv (vf a p)) (rT p fun j=>-(vf a j).fdiv (vf a p)) (vf s.status)where
 len l hl:=oB.trans hl
 row l hl j hj:=by
  rw[LL hp hj];unfold bW;rw[dJ (by omega)];by_cases e:j=p
  . rw[if_neg (by omega),if_pos e]
  . rw[if_pos ⟨hj,e⟩,if_neg e]
 one i hi k hk:=JG hp hi hk
 two i hi k hk:=by
  have:=JG (q:=fun j=>-(vf a j).fdiv (vf a p)) hp hi hk;rw[<-this];refine eF (fun _ _=>rfl) fun j _=>?_;unfold rT;simp
 nf j hj hst k hk:=by
  have hjp:j≠p:=fun e=>hst (e▸hps);have h0:=ha j hj hst;unfold rT;constructor
  . by_cases e:k=j
    . rw[if_pos e,if_pos e]
    . rw[if_neg e,if_neg e];dsimp only;rw[h0,yt];simp
  . by_cases e:k=j
    . rw[if_pos e.symm,if_pos e]
    . rw[if_neg (fun h=>e h.symm),if_neg hjp,if_neg e]
theorem Rd(s:St)(a:List Int)(p:Nat):fk s a p s.n=gN s (bW a p s.n):=rfl
def fT(p k j:Nat):Int:=if k=j then(if k=p then-1 else 1)else 0
theorem Kt{p n j:Nat}{f:Nat->Int}(hj:j<n):bE f (fun k=>fT p k j) n=if j=p then-f j else f j:=by
 rw[oH,qi hj fun i _ hi=>by unfold fT;rw[if_neg hi]];unfold fT;rw[if_pos rfl];split<;>omega
theorem Lo{p n i k:Nat}(hi:i<n)(hk:k<n):bE (fT p i) (fun j=>fT p j k) n=if i=k then 1 else 0:=by
 rw[Kt hk];unfold fT;by_cases e:i=k
 . subst e;by_cases e2:i=p
   . simp[e2]
   . simp[e2]
 . simp[e]
theorem Q0{s:St}{p:Nat}(hp:p<s.n)(hps:vf s.status p=0):pK s.n (fun l=>l.set p (-vf l p)) (fT p) (fT p) (vf s.status)where
 len l hl:=by rw[iO];exact hl
 row l hl j hj:=by
  rw[Kt hj,jO (by omega)];by_cases e:p=j
  . subst e;simp
  . rw[if_neg e,if_neg fun h=>e h.symm]
 one i hi k hk:=Lo hi hk
 two i hi k hk:=Lo hi hk
 nf j hj hst k hk:=by
  have hjp:j≠p:=fun e=>hst (e▸hps);unfold fT;constructor
  . by_cases e:k=j
    . subst e;rw[if_pos rfl,if_neg hjp,if_pos rfl]
    . rw[if_neg e,if_neg e]
  . by_cases e:k=j
    . rw[if_pos e.symm,if_neg hjp,if_pos e]
    . rw[if_neg (fun h=>e h.symm),if_neg e]
theorem NI(s:St)(p:Nat):flS s p=gN s fun l=>l.set p (-vf l p):=rfl
open Go Go.X
theorem vR{p m M:Int}(hp:0<p)(h1:p*m<=p*M)(h2:-(p*M)<=p*m):-M<=m/\m<=M:=by
 refine⟨?_,Gh h1 hp⟩;refine Gh (a:=p) ?_ hp;rw[nj];exact h2
theorem Lu{p m m' u v U V A B M:Int}(hp:0<p)(e':p*m'=u*A-v*B)(e:p*m=U*A-V*B)(u0:0<=u)(uU:u<=U)(v0:0<=v)(vV:v<=V)(up:u<=p)(vp:v<=p)
 (hA:-M<=A/\A<=M)(hB:-M<=B/\B<=M)(hm:-M<=m/\m<=M):-M<=m'/\m'<=M:=by
 have M0:0<=M:=by omega
 have hpm1:=gg hm.2 (dZ hp);have hpm2:=gg hm.1 (dZ hp);rw[nj]at hpm2;have upM:u*M<=p*M:=fj up M0;have vpM:v*M<=p*M:=fj vp M0;rcases vL 0 A with a|a<;>rcases vL 0 B with b|b
 . have h1:=gg hA.2 u0;have h2:=gg hB.2 v0;have h3:=eH u0 a;have h4:=eH v0 b;exact vR hp (by omega) (by omega)
 . have h1:=fj uU a;have h2:=fj vV (show 0≤-B by omega);have h3:=eH u0 a;have h4:=eH v0 (show 0≤-B by omega);rw[nj]at h2 h4;rw[nj]at h2;exact vR hp (by omega) (by omega)
 . have h1:=fj uU (show 0≤-A by omega);have h2:=fj vV b;have h3:=eH u0 (show 0≤-A by omega);have h4:=eH v0 b;rw[nj]at h1 h3;rw[nj]at h1;exact vR hp (by omega) (by omega)
 . have h1:=gg (show-A<=M by omega) u0;have h2:=gg (show-B<=M by omega) v0;have h3:=eH u0 (show 0≤-A by omega);have h4:=eH v0 (show 0≤-B by omega);rw[nj]at h1 h2 h3 h4;exact vR hp (by omega) (by omega)
theorem GM{p m' u v A B M:Int}(hp:0<p)(e':p*m'=u*A-v*B)(hu:-p<=u/\u<=p)(hv:-p<=v/\v<=p)(hA:-M<=A/\A<=M)(hB:-M<=B/\B<=M):-(2*M)<=m'/\m'<=2*M:=by
 have key:∀{x y:Int},-p<=x->x<=p→-M<=y->y<=M→-(p*M)<=x*y/\x*y<=p*M:=by
  intro x y h1 h2 h3 h4;have M0:0<=M:=by omega
  rcases vL 0 x with a|a<;>rcases vL 0 y with b|b
  . have g1:=ni h2 h4 b (by omega);have g2:=eH a b;have g3:=eH (dZ hp) M0;omega
  . have g1:=ni h2 (show-y<=M by omega) (by omega) (by omega);have g2:=eH a (show 0≤-y by omega);rw[nj]at g1 g2;have g3:=eH (dZ hp) M0;omega
  . have g1:=ni (show-x<=p by omega) h4 b (by omega);have g2:=eH (show 0≤-x by omega) b;rw[lE]at g1 g2;have g3:=eH (dZ hp) M0;omega
  . have g1:=ni (show-x<=p by omega) (show-y<=M by omega) (by omega) (by omega);have g2:=eH (show 0≤-x by omega) (show 0≤-y by omega);rw[Int.neg_mul_neg]at g1 g2;have g3:=eH (dZ hp) M0;omega
 have h1:=key hu.1 hu.2 hA.1 hA.2;have h2:=key hv.1 hv.2 hB.1 hB.2;have e3:p*(2*M)=2*(p*M):=by grind
 exact vR hp (by omega) (by omega)
def Mi(a x:List Int)(j k:Nat):Int:=vf a j*vf x k-vf a k*vf x j
def MB(n:Nat)(a x:List Int)(M:Int):Prop:=∀j,j<n->∀k,k<n→-M<=Mi a x j k/\Mi a x j k<=M
def SG(n:Nat)(a:List Int):Prop:=(∀j,j<n->0<=vf a j)\/∀j,j<n->vf a j<=0
theorem pQ{a p:Int}(hp:0<p):0<=a-a.fdiv p*p/\a-a.fdiv p*p<p:=by
 have h1:=Gc a p;have h2:=Int.fmod_nonneg_of_pos a hp;have h3:=Int.fmod_lt_of_pos a hp;rw[fE]at h1;omega
theorem Qk{a p:Int}(hp:p<0):a-a.fdiv p*p<=0/\p<a-a.fdiv p*p:=by
 have h:=pQ (a:=-a) (p:=-p) (by omega);rw[Gb,nj]at h;omega
section
variable {n p:Nat} {a x:List Int}
theorem ml(hp:p<n)(hl:x.length=n):vf (bW a p n x) p=vf x p:=by unfold bW;rw[dJ (by omega),if_neg (by omega)]
theorem nC{j:Nat}(hj:j<n)(hl:x.length=n)(hjp:j≠p):vf (bW a p n x) j=vf x j-(vf a j).fdiv (vf a p)*vf x p:=by unfold bW;rw[dJ (by omega),if_pos ⟨hj,hjp⟩]
theorem nX(hp:sc a p)(hl:a.length=n){j:Nat}(hj:j<n)(hjp:j≠p):(vf (bW a p n a) j).natAbs<(vf a p).natAbs/\(0<vf a p->0<=vf (bW a p n a) j)/\(vf a p<0->vf (bW a p n a) j<=0):=by
 rw[nC hj hl hjp];have h0:=hp.2.1;rcases tk h0 with h|h
 . have:=Qk (a:=vf a j) h;omega
 . have:=pQ (a:=vf a j) h;omega
theorem Kh{j k:Nat}(hp:p<n)(ha:a.length=n)(hx:x.length=n)(hj:j<n)(hk:k<n)(hjp:j≠p)(hkp:k≠p):
 vf a p*Mi (bW a p n a) (bW a p n x) j k=vf (bW a p n a) j*Mi a x p k-vf (bW a p n a) k*Mi a x p j:=by
 unfold Mi;rw[nC hj ha hjp,nC hk ha hkp,nC hj hx hjp,nC hk hx hkp];generalize(vf a j).fdiv (vf a p)=q;generalize(vf a k).fdiv (vf a p)=r;grind
theorem RP{j k:Nat}:vf a p*Mi a x j k=vf a j*Mi a x p k-vf a k*Mi a x p j:=by unfold Mi;grind
theorem xP{k:Nat}(hp:p<n)(ha:a.length=n)(hx:x.length=n)(hk:k<n):Mi (bW a p n a) (bW a p n x) p k=Mi a x p k:=by
 unfold Mi;rw[ml hp ha,ml hp hx];by_cases e:k=p
 . subst e;rw[ml hk ha,ml hk hx]
 . rw[nC hk ha e,nC hk hx e];grind
theorem J6{j k:Nat}:Mi a x j k=-Mi a x k j:=by unfold Mi;omega
theorem Q2{M:Int}(hM:0<=M)(hp:sc a p)(ha:a.length=n)(hx:x.length=n)(h:MB n a x M):MB n (bW a p n a) (bW a p n x) (2*M):=by
 have hpn:p<n:=by have:=hp.1;omega
 intro j hj k hk;by_cases e:j=p
 . subst e;rw[xP hj ha hx hk];have:=h j hj k hk;omega
 by_cases e2:k=p
 . subst e2;rw[J6,xP hk ha hx hj];have:=h k hk j hj;omega
 have h1:=Kh hpn ha hx hj hk e e2;have hA:=h p hpn k hk;have hB:=h p hpn j hj;have sj:=(nX hp ha hj e).1;have sk:=(nX hp ha hk e2).1;rcases tk hp.2.1 with h0|h0
 . refine GM (p:=-vf a p) (u:=-vf (bW a p n a) j) (v:=-vf (bW a p n a) k) (A:=Mi a x p k) (B:=Mi a x p j) (by omega) ?_ (by omega) (by omega) hA hB;rw[lE,lE,lE,h1];omega
 . exact GM (p:=vf a p) h0 h1 (by omega) (by omega) hA hB
theorem Ue{M:Int}(hp:sc a p)(hs:SG n a)(ha:a.length=n)(hx:x.length=n)(h:MB n a x M):MB n (bW a p n a) (bW a p n x) M:=by
 have hpn:p<n:=by have:=hp.1;omega
 intro j hj k hk;by_cases e:j=p
 . subst e;rw[xP hj ha hx hk];exact h j hj k hk
 by_cases e2:k=p
 . subst e2;rw[J6,xP hk ha hx hj];have:=h k hk j hj;omega
 have h1:=Kh hpn ha hx hj hk e e2;have h2:=RP (a:=a) (x:=x) (p:=p) (j:=j) (k:=k);have hA:=h p hpn k hk;have hB:=h p hpn j hj;have hm:=h j hj k hk;obtain⟨sj,sj1,sj2⟩:=nX hp ha hj e;obtain⟨sk,sk1,sk2⟩:=nX hp ha hk e2;have pj:=hp.2.2 j (by omega);have pk:=hp.2.2 k (by omega);have zj:vf a j=0->vf (bW a p n a) j=0:=fun z=>by rw[nC hj ha e,z,yt];omega
 have zk:vf a k=0->vf (bW a p n a) k=0:=fun z=>by rw[nC hk ha e2,z,yt];omega
 rcases tk hp.2.1 with h0|h0
 . have hs':∀j,j<n->vf a j<=0:=by
    rcases hs with hs|hs
    . have:=hs p hpn;omega
    . exact hs
   have hj':=hs' j hj;have hk':=hs' k hk;refine Lu (p:=-vf a p) (m:=Mi a x j k) (u:=-vf (bW a p n a) j) (v:=-vf (bW a p n a) k) (U:=-vf a j) (V:=-vf a k) (A:=Mi a x p k) (B:=Mi a x p j) (by omega) ?_ ?_ ?_ ?_ ?_ ?_ ?_ ?_ hA hB hm
   . rw[lE,lE,lE,h1];omega
   . rw[lE,lE,lE,h2];omega
   . have:=sj2 h0;omega
   . by_cases z:vf a j=0
     . have:=zj z;omega
     . have:=pj z;omega
   . have:=sk2 h0;omega
   . by_cases z:vf a k=0
     . have:=zk z;omega
     . have:=pk z;omega
   . omega
   . omega
 . have hs':∀j,j<n->0<=vf a j:=by
    rcases hs with hs|hs
    . exact hs
    . have:=hs p hpn;omega
   have hj':=hs' j hj;have hk':=hs' k hk;refine Lu (p:=vf a p) (m:=Mi a x j k) (u:=vf (bW a p n a) j) (v:=vf (bW a p n a) k) (U:=vf a j) (V:=vf a k) (A:=Mi a x p k) (B:=Mi a x p j) h0 h1 h2 (sj1 h0) ?_ (sk1 h0) ?_ ?_ ?_ hA hB hm
   . by_cases z:vf a j=0
     . have:=zj z;omega
     . have:=pj z;omega
   . by_cases z:vf a k=0
     . have:=zk z;omega
     . have:=pk z;omega
   . omega
   . omega
theorem N7(hp:sc a p)(ha:a.length=n):SG n (bW a p n a):=by
 have hpn:p<n:=by have:=hp.1;omega
 rcases tk hp.2.1 with h0|h0
 . refine .inr fun j hj=>?_;by_cases e:j=p
   . subst e;rw[ml hj ha];omega
   . exact(nX hp ha hj e).2.2 h0
 . refine .inl fun j hj=>?_;by_cases e:j=p
   . subst e;rw[ml hj ha];omega
   . exact(nX hp ha hj e).2.1 h0
theorem Ql{M X:Nat}(hp:sc a p)(ha:a.length=n)(hx:x.length=n)(h:MB n a x M)(hX:∀j,j<n->(vf x j).natAbs<=X):∀j,j<n->(vf (bW a p n x) j).natAbs<=M+X:=by
 have hpn:p<n:=by have:=hp.1;omega
 intro j hj;by_cases e:j=p
 . subst e;rw[ml hj hx];have:=hX j hj;omega
 have h1:=xP (k:=j) hpn ha hx hj;have h2:=h p hpn j hj;have hs:=(nX hp ha hj e).1;have hxp:=hX p hpn;unfold Mi at h1;rw[ml hpn ha,ml hpn hx]at h1;have h3:vf a p*vf (bW a p n x) j=Mi a x p j+vf (bW a p n a) j*vf x p:=by unfold Mi;omega
 have h4:(vf a p).natAbs*(vf (bW a p n x) j).natAbs<=M+(vf a p).natAbs*X:=by
  rw[<-yr,h3];have g1:(vf (bW a p n a) j*vf x p).natAbs<=(vf a p).natAbs*X:=by
   rw[yr];exact iN (by omega) hxp
  omega
 have hpos:0<(vf a p).natAbs:=by have:=hp.2.1;omega
 have h5:(vf a p).natAbs*(vf (bW a p n x) j).natAbs<=(vf a p).natAbs*(M+X):=by
  rw[Nat.mul_add];have:1*M<=(vf a p).natAbs*M:=sW _ hpos;omega
 exact Nat.le_of_mul_le_mul_left h5 hpos
end
def jP(a:List Int):Nat->Nat
 |0=>0
 |n+1=>jP a n+(vf a n).natAbs
theorem J1{a b:List Int}:∀{n:Nat},(∀j,j<n->(vf a j).natAbs<=(vf b j).natAbs)->jP a n<=jP b n
 |0,_=>bI _
 |n+1,h=>by
  have:=J1 (n:=n) fun j hj=>h j (by omega);have:=h n (by omega);simp only[jP];omega
theorem Ke{a b:List Int}{k:Nat}:∀{n:Nat},k<n->(∀j,j<n->(vf a j).natAbs<=(vf b j).natAbs)->(vf a k).natAbs<(vf b k).natAbs->jP a n<jP b n
 |n+1,hk,h,hlt=>by
  simp only[jP];by_cases e:k=n
  . subst e;have:=J1 (n:=k) fun j hj=>h j (by omega);omega
  . have:=Ke (n:=n) (by omega) (fun j hj=>h j (by omega)) hlt;have:=h n (by omega);omega
theorem KY{a:List Int}{C:Nat}:∀{n:Nat},(∀j,j<n->(vf a j).natAbs<=C)->jP a n<=n*C
 |0,_=>by simp[jP]
 |n+1,h=>by
  have:=KY (n:=n) fun j hj=>h j (by omega);have:=h n (by omega);simp only[jP];rw[gL];omega
theorem PI{a:List Int}{n p:Nat}(hp:sc a p)(ha:a.length=n){k:Nat}(hk:k<n)(hkp:k≠p)(hk0:vf a k≠0):jP (bW a p n a) n<jP a n:=by
 have hpn:p<n:=by have:=hp.1;omega
 have key:∀j,j<n->(vf (bW a p n a) j).natAbs<=(vf a j).natAbs:=fun j hj=>by
  by_cases e:j=p
  . subst e;rw[ml hj ha];exact bI _
  . by_cases z:vf a j=0
    . rw[nC hj ha e,z,yt];simp
    . have:=(nX hp ha hj e).1;have:=hp.2.2 j (by omega) z;omega
 exact Ke hk key (by have:=(nX hp ha hk hkp).1;have:=hp.2.2 k (by omega) hk0;omega)
open Go Go.X
structure lW (K C:Nat)(s:St)(i p:Nat)(s':St):Prop where
 sim:gT s s'
 inv:Inv s'
 kn:s'.known=s.known
 st:s'.steps=s.steps
 status:s'.status=s.status
 value:s'.value=s.value
 dM:s'.stack=s.stack
 n:s'.n=s.n
 pos:s'.items.map AI.pos=s.items.map AI.pos
 pn:p<s.n
 free:vf s.status p=0
 unit:∀x,s'.items[i]?=some x->∀j,j<s.n->vf x.g j=if j=p then 1 else 0
 co:∀x∈s'.items,∀j,j<s.n->j≠p->(vf x.g j).natAbs<=4*(C*C)
 big:∀x∈s'.items,∀j,j<s.n->(vf x.g j).natAbs<=C+s.n*C*(4*(C*C))
 su:SU (K+9*(s.n*C)) s'
theorem S8{n C:Nat}{a x:List Int}(ha:∀j,j<n->(vf a j).natAbs<=C)(hx:∀j,j<n->(vf x j).natAbs<=C):MB n a x ((2*(C*C):Nat):Int):=by
 intro j hj k hk;have key:∀{y z:Int},y.natAbs<=C->z.natAbs<=C->(y*z).natAbs<=C*C:=fun h1 h2=>by rw[yr];exact iN h1 h2
 have h1:=key (ha j hj) (hx k hk);have h2:=key (ha k hk) (hx j hj);unfold Mi;omega
structure IsoI (K C:Nat)(s:St)(i:Nat)(μ0:Nat)(g:St):Prop where
 sim:gT s g
 inv:Inv g
 kn:g.known=s.known
 st:g.steps=s.steps
 status:g.status=s.status
 value:g.value=s.value
 dM:g.stack=s.stack
 n:g.n=s.n
 pos:g.items.map AI.pos=s.items.map AI.pos
 t:∃t a,(g.items[i]?).map AI.g=some a/\a.length=s.n/\t+jP a s.n<=μ0/\SU (K+9*t) g/\(∀j,j<s.n->(vf a j).natAbs<=C)/\
  (∀x∈g.items,∀j,j<s.n->(vf x.g j).natAbs<=C+t*(4*(C*C)))/\
  ((t=0/\∀x∈g.items,MB s.n a x.g ((2*(C*C):Nat):Int))\/(SG s.n a/\∀x∈g.items,MB s.n a x.g ((4*(C*C):Nat):Int)))
theorem uF{s0 s:St}(h:s0.n=s.n):aR.mk s0.to.n s.to.known s.to.steps s.to.u s.to.status s.to.value s.to.items s.to.stack=s.to:=ir (x:=s.to) (by show(s0.n:Int)=s.n;rw[h])
theorem Qz{K C:Nat}{s:St}{i:Nat}(hI:Inv s)(hu:SU K s)(hn:s.n<=4)(hil:s.items.length<=1073741824)(hi:i<s.items.length)(hC:∀x∈s.items,∀j,j<s.n->(vf x.g j).natAbs<=C)(hCb:C<=4294967296)(hK8:8<=K)(hK:K+9*(s.n*C)+40<=cX):
 Tm (fun N=>wO N s.to (i:Int)) (fun r=>∃(p:Nat) (s':St),r=((p:Int),s'.to)/\lW K C s i p s'):=by
 have hL:cX=1099511627776:=rfl;unfold wO;have hC2:C*C<=4294967296*4294967296:=iN hCb hCb;have hnC:s.n*C<=4*4294967296:=iN hn hCb;have hbig:s.n*C*(4*(C*C))<=4*4294967296*(4*(4294967296*4294967296)):=iN hnC (by omega);have ha0:s.items[i]∈s.items:=du hi;refine Tm.bind (Q:=fun r=>∃(p:Nat) (s':St),r=((p:Int),s'.to)/\lW K C s i p s')
  (Tm.wh (fun(g:St) t=>t=ij g/\IsoI K C s i (s.n*C) g) (fun g=>jP (((g.items[i]?).map AI.g).getD []) s.n) s ⟨rfl,gT.refl s,hI,rfl,rfl,rfl,rfl,rfl,rfl,rfl,?_⟩ ?_) fun r hr=>aM hr
 . refine⟨0,(s.items[i]).g,by rw[bV hi];rfl,(hI.it _ ha0).2,?_,hu,hC _ ha0,fun x hx j hj=>by have:=hC x hx j hj;omega,.inl ⟨rfl,fun x hx=>S8 (hC _ ha0) (hC x hx)⟩⟩;have:=KY (a:=(s.items[i]).g) (n:=s.n) (C:=C) (hC _ ha0);omega
 . rintro g _ ⟨rfl,hg⟩;obtain⟨t,a,ea,al,hμ,hsu,hac,hX,hM⟩:=hg.t;have hgl:g.items.length=s.items.length:=by have:=congrArg List.length hg.pos;simpa using this
   have hig:i<g.items.length:=by omega
   have eai:(g.items[i]).g=a:=by rw[bV hig]at ea;exact iM ea
   have hxm:g.items[i]∈g.items:=du hig;have ht:t*(4*(C*C))<=s.n*C*(4*(C*C)):=sW _ (by omega);have hfit:∀x∈g.items,jK g.n 8 x.g:=fun x hx=>⟨(hg.inv.it x hx).2,fun v hv=>by
    obtain⟨j,hj,rfl⟩:=gE hv;have h1:=hX x hx j (by rw[(hg.inv.it x hx).2,hg.n]at hj;exact hj);refine bO (sx (k:=4) ?_) (by decide);have:aC^4=340282366920938463463374607431768211456:=by decide
    omega⟩
   have hnz:∃j,j<(g.items[i]).g.length/\vf (g.items[i]).g j≠0:=by
    refine jD fun h=>?_;have h1:=hg.inv.gz _ hxm;have h2:(2:Int)∣((dc (g.items[i]).g:Nat):Int):=oW fun v hv=>by
     obtain⟨j,hj,rfl⟩:=gE hv;have:vf (g.items[i]).g j=0:=jD fun e=>h ⟨j,hj,e⟩;rw[this];exact yu 2
    rw[h1]at h2;omega
   show Tm (fun N=>Ax N s.to (i:Int) (g.to.known,g.to.steps,g.to.u,g.to.status,g.to.value,g.to.items,g.to.stack)) _;unfold Ax;refine aN (a:=(g.items[i]).to) (by show idx (g.items.map AI.to) _=_;rw[de (by simpa using hig),kK]) ?_;refine Tm.bind (TR (x:=g.items[i]) (by rw[(hg.inv.it _ hxm).2,hg.n];omega) (fun v hv=>bO ((hfit _ hxm).2 v hv) (by decide)) hnz) ?_;rintro _ ⟨p,rfl,hp⟩;rw[eai]at hp hnz;have hpn:p<s.n:=by have:=hp.1;omega
   have hpg:p<g.n:=by rw[hg.n];exact hpn
   have hfree:vf g.status p=0:=by
    refine jD fun e=>hp.2.1 ?_;rw[<-eai];exact hg.inv.nf _ hxm p hpg e
   have hanf:∀j,j<g.n->vf g.status j≠0->vf a j=0:=fun j hj hst=>by rw[<-eai];exact hg.inv.nf _ hxm j hj hst
   have hr:=Ol (s0:=s) (s:=g) (i:=i) (p:=p) hsu (by rw[hg.n];omega) hg.n.symm (by omega) hfit hig hpg (by omega) (by omega) true;rw[eai]at hr;refine Tm.bind hr ?_;rintro _ ⟨c,rfl,hc⟩;dsimp only;rw[Rd]at*;have hb:=M3 (s:=g) (a:=a) hpg hfree hanf;have hsim2:=gT.ch hg.inv hb;have hinv2:=Inv.ch hg.inv hb;have hsu2:SU (K+9*(t+1)) (gN g (bW a p g.n)):=by
    refine⟨⟨by show(g.u.map _).length=_;rw[cN];exact hsu.u.1,fun l hl=>?_⟩,hsu.st,⟨hsu.v.1,fun v hv=>by have:=hsu.v.2 v hv;omega⟩⟩;obtain⟨w,hw,rfl⟩:=dL.1 hl;have:=EL (a:=a) (p:=p) (k:=g.n) (hsu.u.2 w hw) (fun j=>by rw[<-eai];exact(hfit _ hxm).vf j);exact⟨this.1,fun v hv=>by have:=this.2 v hv;omega⟩
   cases c with
   |true=>
    refine cY rfl ?_;have hz:=(hc.1 rfl).2;rw[hg.n]at hz;have hzero:∀j,j<s.n->j≠p->vf a j=0:=hz;have hrow:∀l:List Int,bW a p g.n l=l:=fun l=>by
     refine lY oB fun j hj=>?_;rw[oB]at hj;unfold bW;rw[dJ hj];split
     . rename_i h;rw[hzero j (by have:=h.1;rw[hg.n]at this;exact this) h.2,yt];omega
     . rfl
    have hsame:gN g (bW a p g.n)=g:=by
     unfold gN;rw[show bW a p g.n=id from funext hrow];simp
    rw[hsame];have hap:(vf a p).natAbs=1:=by
     have h1:=hg.inv.gz _ hxm;rw[eai]at h1;have h2:vf a p∣((dc a:Nat):Int):=oW fun v hv=>by
      obtain⟨j,hj,rfl⟩:=gE hv;by_cases e:j=p
      . subst e;exact Int.dvd_refl _
      . rw[hzero j (by omega) e];exact yu _
     rw[h1]at h2;have:=Int.natAbs_dvd_natAbs.2 h2;exact Gf this
    have hco:∀x∈g.items,∀j,j<s.n->j≠p->(vf x.g j).natAbs<=4*(C*C):=fun x hx j hj hjp=>by
     have hm:-((4*(C*C):Nat):Int)<=Mi a x.g p j/\Mi a x.g p j<=((4*(C*C):Nat):Int):=by
      rcases hM with⟨_,hM⟩|⟨_,hM⟩
      . have:=hM x hx p hpn j hj;omega
      . exact hM x hx p hpn j hj
     unfold Mi at hm;rw[hzero j hj hjp,Int.zero_mul,Gi]at hm;have:(vf a p*vf x.g j).natAbs=(vf x.g j).natAbs:=by rw[yr,hap,yi]
     omega
    have hbg:∀x∈g.items,∀j,j<s.n->(vf x.g j).natAbs<=C+s.n*C*(4*(C*C)):=fun x hx j hj=>by have:=hX x hx j hj;omega
    have hgi:idx (mB (g.items[i]).g) (p:Int)=some (B (vf a p)):=by rw[eai];exact ei (by omega)
    refine aN hgi (aU (jg (bO (j2 (by omega)) (by decide))) ?_);have hsu3:SU (K+9*(s.n*C)) g:=⟨⟨hsu.u.1,fun r hr=>⟨(hsu.u.2 r hr).1,fun v hv=>by have:=(hsu.u.2 r hr).2 v hv;omega⟩⟩,hsu.st,⟨hsu.v.1,fun v hv=>by have:=hsu.v.2 v hv;omega⟩⟩;refine Tm.bind (Q:=fun r=>∃s',r=ij s'/\lW K C s i p s') (aY (fun h0=>?_) (fun h0=>aM ⟨g,rfl,?_⟩)) ?_
    . have hneg:vf a p<0:=np.1 h0;rw[uF hg.n.symm];have hbf:=Q0 (s:=g) hpg hfree;refine aU (NO (K:=K+9*(s.n*C)) hsu3 (by rw[hg.n];omega) (by omega) (fun x hx=>⟨(hfit x hx).1,fun v hv=>by have:=(hfit x hx).2 v hv;omega⟩) hpg (by omega)) (aM ⟨flS g p,rfl,?_⟩);rw[NI];have hvs:∀x∈g.items,∀j,vf (x.g.set p (-vf x.g p)) j=if p=j then-vf x.g p else vf x.g j:=fun x hx j=>jO (by rw[(hg.inv.it x hx).2];exact hpg);refine⟨hg.sim.trans (gT.ch hg.inv hbf),Inv.ch hg.inv hbf,hg.kn,hg.st,hg.status,hg.value,hg.dM,hg.n,?_,hpn,by rw[<-hg.status];exact hfree,fun x hx j hj=>?_,fun x hx j hj hjp=>?_,fun x hx j hj=>?_,?_⟩
      . show(g.items.map _).map AI.pos=_;rw[mf,<-hg.pos];rfl
      . have hx':(g.items[i]?).map (fun x:AI=>({x with g:=x.g.set p (-vf x.g p)}:AI))=some x:=by rw[<-gM];exact hx
        rw[bV hig]at hx';obtain rfl:=iM hx';show vf ((g.items[i]).g.set p _) j=_;rw[hvs _ hxm j,eai];by_cases e:p=j
        . subst e;rw[if_pos rfl,if_pos rfl];omega
        . rw[if_neg e,if_neg fun h=>e h.symm];exact hzero j hj fun h=>e h.symm
      . obtain⟨z,hz',rfl⟩:=dL.1 hx;show(vf (z.g.set p _) j).natAbs<=_;rw[hvs z hz' j,if_neg fun h=>hjp h.symm];exact hco z hz' j hj hjp
      . obtain⟨z,hz',rfl⟩:=dL.1 hx;show(vf (z.g.set p _) j).natAbs<=_;rw[hvs z hz' j];split
        . have:=hbg z hz' p hpn;omega
        . exact hbg z hz' j hj
      . refine⟨⟨by show(g.u.map _).length=_;rw[cN];exact hsu3.u.1,fun l hl=>?_⟩,hsu3.st,hsu3.v⟩;obtain⟨w,hw,rfl⟩:=dL.1 hl;have hw':=hsu3.u.2 w hw;refine⟨by rw[iO];exact hw'.1,fun v hv=>?_⟩;rcases pG hv with hv|rfl
        . exact hw'.2 v hv
        . rw[fR];exact hw'.vf p
    . have hpos:¬vf a p<0:=fun e=>h0 (np.2 e);refine⟨hg.sim,hg.inv,hg.kn,hg.st,hg.status,hg.value,hg.dM,hg.n,hg.pos,hpn,by rw[<-hg.status];exact hfree,fun x hx j hj=>?_,hco,hbg,hsu3⟩;rw[bV hig]at hx;obtain rfl:=iM hx;rw[eai];by_cases e:j=p
      . subst e;rw[if_pos rfl];omega
      . rw[if_neg e];exact hzero j hj e
    . rintro⟨r1,r2,r3,r4,r5,r6,r7⟩ ⟨s',hs',hP⟩;obtain⟨rfl,rfl,rfl,rfl,rfl,rfl,rfl⟩:=by simpa[ij]using hs'
      refine aM ⟨p,s',?_,hP⟩;dsimp only;rw[uF hP.n.symm]
   |false=>
    refine cz (by simp) (aM ?_);have hex:∃k,k<s.n/\k≠p/\vf a k≠0:=jD fun h=>by
     have:=hc.2 ⟨rfl,fun j hj hjp=>jD fun e=>h ⟨j,by rw[<-hg.n];exact hj,hjp,e⟩⟩;cases this
    obtain⟨k,hk,hkp,hk0⟩:=hex;have hlt:=PI hp al hk hkp hk0;have hgn:=hg.n;have e1:(((gN g (bW a p g.n)).items[i]?).map AI.g)=some (bW a p s.n a):=by
     show((g.items.map _)[i]?).map AI.g=_;rw[gM,bV hig];show some (bW a p g.n (g.items[i]).g)=_;rw[eai,hgn]
    have e0:((g.items[i]?).map AI.g)=some a:=ea;refine⟨gN g (bW a p g.n),⟨rfl,hg.sim.trans hsim2,hinv2,hg.kn,hg.st,hg.status,hg.value,hg.dM,hg.n,?_,t+1,bW a p s.n a,e1,oB.trans al,by omega,hsu2,fun j hj=>?_,fun x hx j hj=>?_,.inr ⟨N7 hp al,fun x hx=>?_⟩⟩,?_⟩
    . show(g.items.map _).map AI.pos=_;rw[mf,<-hg.pos];rfl
    . by_cases e:j=p
      . subst e;rw[ml hj al];exact hac j hj
      . have:=(nX hp al hj e).1;have:=hac p hpn;omega
    . obtain⟨z,hz',rfl⟩:=dL.1 hx;show(vf (bW a p g.n z.g) j).natAbs<=_;rw[hgn];have hzl:z.g.length=s.n:=(hg.inv.it z hz').2.trans hgn;have hMz:MB s.n a z.g ((4*(C*C):Nat):Int):=by
       rcases hM with⟨_,hM⟩|⟨_,hM⟩
       . intro j hj k hk;have:=hM z hz' j hj k hk;omega
       . exact hM z hz'
      have:=Ql hp al hzl hMz (hX z hz') j hj;rw[gL];omega
    . obtain⟨z,hz',rfl⟩:=dL.1 hx;show MB s.n (bW a p s.n a) (bW a p g.n z.g) _;rw[hgn];have hzl:z.g.length=s.n:=(hg.inv.it z hz').2.trans hgn;rcases hM with⟨_,hM⟩|⟨hS,hM⟩
      . have:=Q2 (M:=((2*(C*C):Nat):Int)) (by omega) hp al hzl (hM z hz');intro j hj k hk;have:=this j hj k hk;omega
      . exact Ue hp hS al hzl (hM z hz')
    . show jP ((((gN g (bW a p g.n)).items[i]?).map AI.g).getD []) s.n<jP (((g.items[i]?).map AI.g).getD []) s.n;rw[e1,e0];exact hlt
open Go Go.X
structure A1 (n:Nat)(l:List AQ)(s:AS)(q:AQ):Prop where
 d:0<s.d
 dl:dl s.d<=4
 len:s.cD.length<=2
 cD:∀u∈s.cD,u.ix<l.length/\0<=u.n/\D.dl u.n<=4
 dvd:∀j,j<n->s.d∣dU l s.cD j
 q:q=mE n l s.cD s.d
inductive gU (n:Nat)(base:List AQ):List AS->List AQ->Prop where
 |nil:gU n base [] base
 |snoc {ss:List AS} {l:List AQ} {s:AS} {q:AQ} (h:gU n base ss l) (hs:A1 n l s q):gU n base (ss++[s]) (l++[q])
structure Kept (s s':St):Prop where
 u:s'.u=s.u
 status:s'.status=s.status
 value:s'.value=s.value
 dM:s'.stack=s.stack
 n:s'.n=s.n
 kn:∃e,s'.known=s.known++e
theorem Kept.refl(s:St):Kept s s:=⟨rfl,rfl,rfl,rfl,rfl,[],by simp⟩
theorem Kept.trans{a b c:St}(h:Kept a b)(h':Kept b c):Kept a c:=by
 obtain⟨e,he⟩:=h.kn;obtain⟨e',he'⟩:=h'.kn;exact⟨h'.u.trans h.u,h'.status.trans h.status,h'.value.trans h.value,h'.dM.trans h.dM,h'.n.trans h.n,e++e',by rw[he',he,iZ]⟩
theorem EV(s:St)(g:List Int)(us:List AU):Kept s (put s g us).2:=by
 obtain⟨h1,h2,h3,h4,h5⟩:=Px s g us;obtain⟨e,he,_⟩:=yN s g us;exact⟨h1,h2,h3,h4,h5,e,he⟩
theorem Dc(s:St)(x:AI):Kept s (add s x):=⟨rfl,rfl,rfl,rfl,rfl,[],by simp[add]⟩
theorem AD:∀(L:List Act) (s:St),Kept s (bU s L).2
 |[],s=>Kept.refl s
 |.add x::r,s=>(Dc s x).trans (AD r _)
 |.put g us::r,s=>by
  unfold bU;split
  . exact(EV s g us).trans (AD r _)
  . exact EV s g us
def mv(K:Nat)(s:St):Act->Prop
 |.add x=>kB s x
 |.put g us=>gA K s g us/\od s g us/\dl (dv g)<=4
def Cl(s:St)(y:Nat->Int):Act->Prop
 |.add x=>IH s y x
 |.put g us=>bE (vf g) y s.n<=fY s.known us
theorem Me{kn e:List AQ}{j:Nat}:∀{us:List AU},(∀u∈us,u.ix<kn.length)->dU (kn++e) us j=dU kn us j
 |[],_=>rfl
 |u::us,h=>by
  show _+dU (kn++e) us j=_;rw[Me fun v hv=>h v (cH _ hv),iI (h u cK)];rfl
theorem H6{kn e:List AQ}:∀{us:List AU},(∀u∈us,u.ix<kn.length)->fY (kn++e) us=fY kn us
 |[],_=>rfl
 |u::us,h=>by
  show _+fY (kn++e) us=_;rw[H6 fun v hv=>h v (cH _ hv),iI (h u cK)];rfl
theorem kB.kept{s s':St}{x:AI}(h:kB s x)(k:Kept s s'):kB s' x:=by
 obtain⟨e,he⟩:=k.kn;exact⟨by rw[he];have:=h.pos;simp;omega,by rw[k.n];exact h.gl,fun j hj=>by rw[k.n]at hj⊢;rw[k.u,he,iI h.pos];exact h.dd j hj,fun j hj hst=>by rw[k.n]at hj;rw[k.status]at hst;exact h.nf j hj hst,h.gz⟩
theorem mv.kept{K:Nat}{s s':St}{a:Act}(h:mv K s a)(k:Kept s s'):mv K s' a:=by
 obtain⟨e,he⟩:=k.kn;cases a with
 |add x=>exact kB.kept h k
 |put g us=>
  obtain⟨h1,h2,h3⟩:=h;have hix:∀u∈us,u.ix<s.known.length:=fun u hu=>(h1.u u hu).1;refine⟨kM.app (a:=.put g us) h1 k.n he,⟨fun j hj=>?_,fun j hj hst=>?_⟩,h3⟩
  . rw[k.n]at hj;rw[h2.dd j hj];unfold zS;rw[k.u,k.n,he];congr 1;exact JZ fun i _=>(Me hix).symm
  . rw[k.n]at hj;rw[k.status]at hst;exact h2.nf j hj hst
theorem Cl.kept{K:Nat}{s s':St}{a:Act}{y:Nat->Int}(hs:mv K s a)(k:Kept s s'):Cl s' y a↔Cl s y a:=by
 obtain⟨e,he⟩:=k.kn;cases a with
 |add x=>exact wU k.n he (kB.pos hs)
 |put g us=>
  show bE (vf g) y s'.n<=fY s'.known us↔_;rw[k.n,he,H6 fun u hu=>(hs.1.u u hu).1];rfl
theorem Hy{K n:Nat}{base:List AQ}{s:St}(h:Inv s){g:List Int}{us:List AU}(hn:n=s.n)(hp:gA K s g us)(hs:od s g us)(hd:dl (dv g)<=4)(hD:gU n base s.steps s.known):gU n base (put s g us).2.steps (put s g us).2.known:=by
 have e:(put s g us).2.steps=(dst s g us).steps/\(put s g us).2.known=(dst s g us).known:=by
  unfold put;dsimp only;split<;>exact⟨rfl,rfl⟩
 rw[e.1,e.2];unfold dst;split
 . refine hD.snoc ⟨qa g,hd,hp.ul,fun u hu=>⟨(hp.u u hu).1,(hp.u u hu).2.1,(hp.u u hu).2.2.1⟩,fun j hj=>Kq h hp.gl hs (by omega),by rw[hn]⟩
 . exact hD
def GB(M:Nat)(g:List Int):Prop:=∀v∈g,v.natAbs<=M
def wW(M:Nat):Act->Prop
 |.add x=>GB M x.g
 |.put g _=>GB M g
theorem OM{M n:Nat}{g:List Int}{d:Int}(hd:0<=d)(h:GB M g):GB M (vec n fun j=>vf g j/d):=fun v hv=>by
 obtain⟨j,hj,rfl⟩:=gE hv;rw[eZ]at hj;rw[dJ hj];have:=Gv (a:=vf g j) (b:=d);rw[jo _ hd]at this;have h2:(vf g j).natAbs<=M:=by
  rcases cv j g.length with h1|h1
  . exact h _ (gr h1)
  . rw[mG h1];omega
 omega
structure vW (K M:Nat)(s:St)(L:List Act)(ok:Bool)(s':St):Prop where
 kept:Kept s s'
 inv:Inv s'
 imp:ok=true->∀y,(∀z∈s'.items,IH s' y z)->(∀z∈s.items,IH s y z)/\∀a∈L,Cl s y a
 bad:ok=false->∃q∈s'.known,(∀j,j<s.n->vf q.c j=0)/\q.b<0
 il:s'.items.length<=s.items.length+L.length
 kl:s'.known.length<=s.known.length+L.length
 sl:s'.steps.length<=s.steps.length+L.length
 gb:∀z∈s'.items,GB M z.g
 jc:∀base,gU s.n base s.steps s.known->gU s.n base s'.steps s'.known
theorem ub{K M:Nat}:∀(L:List Act) (s:St),Inv s->(∀a∈L,mv K s a)->(∀z∈s.items,GB M z.g)->(∀a∈L,wW M a)->vW K M s L (bU s L).1 (bU s L).2
 |[],s,hI,_,hg,_=>⟨Kept.refl s,hI,fun _ y hy=>⟨hy,fun a ha=>(by cases ha)⟩,fun h=>(by cases h),bI _,bI _,bI _,hg,fun _ h=>h⟩
 |.add x::r,s,hI,hA,hg,hB=>by
  have hx:kB s x:=hA _ cK;have k:=Dc s x;have hg':∀z∈(add s x).items,GB M z.g:=fun z hz=>(lO hz).elim (fun e=>by subst e;exact hB _ cK) (hg z);have h:=ub r (add s x) (hI.add hx) (fun a ha=>(hA a (cH _ ha)).kept k) hg' fun a ha=>hB a (cH _ ha);have hl:=tH (kn:=s.known) (x:=x) (l:=s.items);refine⟨k.trans h.kept,h.inv,fun hok y hy=>?_,h.bad,?_,?_,?_,h.gb,h.jc⟩
  . obtain⟨h1,h2⟩:=h.imp hok y hy;obtain⟨g1,g2⟩:=yS (s:=s) (x:=x) (y:=y) (l:=s.items) h1;refine⟨g1,fun a ha=>?_⟩;rcases dY.1 ha with rfl|ha
    . exact g2
    . exact(Cl.kept (hA a (cH _ ha)) k).1 (h2 a ha)
  . have:=h.il;have:(add s x).items.length<=s.items.length+1:=hl.2;simp only[cA];show(bU (add s x) r).2.items.length<=_;omega
  . have:=h.kl;have:(add s x).known.length=s.known.length:=rfl;simp only[cA];show(bU (add s x) r).2.known.length<=_;omega
  . have:=h.sl;have:(add s x).steps.length=s.steps.length:=rfl;simp only[cA];show(bU (add s x) r).2.steps.length<=_;omega
 |.put g us::r,s,hI,hA,hg,hB=>by
  obtain⟨hp,hs,hd⟩:gA K s g us/\od s g us/\dl (dv g)<=4:=hA _ cK;have k:=EV s g us;have hgb:GB M g:=hB (.put g us) cK;have hg':∀z∈(put s g us).2.items,GB M z.g:=fun z hz=>by
   have hi:=Il s g us;unfold put at hz;dsimp only at hz;split at hz
   . rcases lO hz with e|hz
     . subst e;exact OM (dZ (qa g)) hgb
     . rw[hi]at hz;exact hg z hz
   . rw[hi]at hz;exact hg z hz
  have hkl:(put s g us).2.known.length<=s.known.length+1:=by
   obtain⟨e,he,hel⟩:=yN s g us;rw[he];simp;omega
  have hsl:(put s g us).2.steps.length<=s.steps.length+1:=by
   have:(put s g us).2.steps=(dst s g us).steps:=by unfold put;dsimp only;split<;>rfl
   rw[this];unfold dst;split<;>simp
  have hil:(put s g us).2.items.length<=s.items.length+1:=by
   have hi:=Il s g us;unfold put;dsimp only;split
   . have:=tH (kn:=(dst s g us).known) (x:=kT s g us) (l:=(dst s g us).items);show(ee _ _ _).length<=_;rw[hi]at this⊢;exact this.2
   . rw[hi];omega
  by_cases hok:(put s g us).1=true
  . have h:=ub r (put s g us).2 (hI.put hp hs) (fun a ha=>(hA a (cH _ ha)).kept k) hg' fun a ha=>hB a (cH _ ha);have e:bU s (.put g us::r)=bU (put s g us).2 r:=by show(if _ then _ else _)=_;rw[if_pos hok]
    rw[e];refine⟨k.trans h.kept,h.inv,fun hok' y hy=>?_,fun hb=>by have:=h.bad hb;rwa[k.n]at this,?_,?_,?_,h.gb,fun base hD=>?_⟩
    . obtain⟨h1,h2⟩:=h.imp hok' y hy;obtain⟨g1,g2⟩:=NP hI hp hs hok h1;refine⟨g1,fun a ha=>?_⟩;rcases dY.1 ha with rfl|ha
      . exact g2
      . exact(Cl.kept (hA a (cH _ ha)) k).1 (h2 a ha)
    . have:=h.il;simp only[cA];omega
    . have:=h.kl;simp only[cA];omega
    . have:=h.sl;simp only[cA];omega
    . have:=h.jc base (by rw[k.n];exact Hy hI rfl hp hs hd hD);rwa[k.n]at this
  . have e:bU s (.put g us::r)=(false,(put s g us).2):=by show(if _ then _ else _)=_;rw[if_neg hok]
    rw[e];refine⟨k,hI.put hp hs,fun h=>(by cases h),fun _=>Ot hI hp hs (by simpa using hok),?_,?_,?_,hg',fun base hD=>Hy hI rfl hp hs hd hD⟩
    . simp only[cA];omega
    . simp only[cA];omega
    . simp only[cA];omega
open Go Go.X
def bD(s:St)(k:Nat):AI:=s.items.getD k ⟨0,[]⟩
theorem lG{s:St}{k:Nat}(h:k<s.items.length):bD s k=s.items[k]:=by unfold bD;rw[cy,bV h];rfl
theorem gR{s:St}{k:Nat}(h:k<s.items.length):bD s k∈s.items:=by rw[lG h];exact du h
theorem sL{s:St}{k:Nat}(h:k<s.items.length):idx s.to.items (k:Int)=some (bD s k).to:=by
 show idx (s.items.map AI.to) _=_;rw[de (by simpa using h),kK,lG h]
def eu(s:St)(i p:Nat):St:={s with status:=s.status.set p 1,value:=s.value.set p (aI s.known (bD s i).pos).b,items:=[]}
def jq(s:St)(i j p k:Nat):List Act:= if k=i\/k=j then[]else if vf (bD s k).g p=0 then[.add (bD s k)] else[.put ((bD s k).g.set p 0) [⟨(bD s k).pos,1⟩,if vf (bD s k).g p<0 then⟨(bD s i).pos,-vf (bD s k).g p⟩else⟨(bD s j).pos,vf (bD s k).g p⟩]]
def dV(s:St)(i j p k:Nat):List Act:=((List.range s.items.length).drop k).flatMap (jq s i j p)
theorem I4{s:St}{i j p k:Nat}(h:k<s.items.length):dV s i j p k=jq s i j p k++dV s i j p (k+1):=by
 unfold dV;rw[fx (by simpa using h),B6,List.getElem_range]
theorem IG{s:St}{i j p:Nat}:dV s i j p s.items.length=[]:=by unfold dV;rw[B2 (by simp)];rfl
theorem LW{s:St}{i j p k:Nat}:(jq s i j p k).length<=1:=by unfold jq;(repeat' split)<;>simp
theorem DC{s:St}{i j p:Nat}:∀(m k:Nat),k+m=s.items.length->(dV s i j p k).length<=m
  | 0, k, h => by obtain rfl : k = s.items.length := by omega
                  rw[IG];simp
  |m+1,k,h=>by
    rw[I4 (s:=s) (by omega),db];have:=DC (s:=s) (i:=i) (j:=j) (p:=p) m (k+1) (by omega);have:=LW (s:=s) (i:=i) (j:=j) (p:=p) (k:=k);omega
theorem Su{s:St}{i j p:Nat}{a:Act}(h:a∈dV s i j p 0):∃k,k<s.items.length/\k≠i/\k≠j/\jq s i j p k=[a]:=by
 unfold dV at h;rw[lC,yw]at h;obtain⟨k,hk,ha⟩:=h;have hk:k<s.items.length:=by simpa using hk
 have hl:=LW (s:=s) (i:=i) (j:=j) (p:=p) (k:=k);refine⟨k,hk,?_,?_,?_⟩
 . rintro rfl;unfold jq at ha;simp at ha
 . rintro rfl;unfold jq at ha;simp at ha
 . match he:jq s i j p k,hl,ha with
   |[b],_,ha=>rw[cL.1 ha]
   |[],_,ha=>cases ha
theorem A9{s:St}{i j p k:Nat}(hk:k<s.items.length){a:Act}(h:a∈jq s i j p k):a∈dV s i j p 0:=by
 unfold dV;rw[lC,yw];exact⟨k,by simpa using hk,h⟩
theorem Rc{l:List Int}{p n:Nat}{y:Nat->Int}(hl:l.length=n)(hp:p<n):bE (vf (l.set p 0)) y n=bE (vf l) y n-vf l p*y p:=by
  have h:=tO (f:=y) (y:=vf l) (z:=0) (v:=p) hp;rw[oH (f:=vf l),oH (f:=vf (l.set p 0))]
  rw [eF (f := y) (f' := y) (g := vf (l.set p 0)) (g' := cI (vf l) p 0) (fun _ _ => rfl) (fun j hj => by rw [jO (by omega)]; unfold cI; by_cases e : p = j
                                                                                                         . rw[if_pos e,if_pos e.symm]
                                                                                                         . rw[if_neg e,if_neg fun h=>e h.symm]),h]
  grind
section
variable {K C Kk:Nat} {s s1:St} {i j p:Nat}
structure rN (s:St)(i j:Nat):Prop where
 il:i<s.items.length
 jl:j<s.items.length
 ne:i≠j
 g:∀k,k<s.n->vf (bD s j).g k=-vf (bD s i).g k
 b:(aI s.known (bD s i).pos).b+(aI s.known (bD s j).pos).b=0
theorem n7(h:lW K C s i p s1)(k:Nat)(hk:k<s.items.length):k<s1.items.length/\(bD s1 k).pos=(bD s k).pos:=by
 have hl:s1.items.length=s.items.length:=by have:=congrArg List.length h.pos;simpa using this
 have hk1:k<s1.items.length:=by omega
 refine⟨hk1,?_⟩;rw[lG hk1,lG hk];have:=congrArg (fun l:List Nat=>l[k]?) h.pos;simp only[gM,bV hk1,bV hk,oh,td]at this;exact this
theorem Ih(h:lW K C s i p s1):s1.items.length=s.items.length:=by have:=congrArg List.length h.pos;simpa using this
theorem BH(h:lW K C s i p s1)(he:rN s i j):∀k,k<s.n->vf (bD s1 i).g k=if k=p then 1 else 0:=by
 have hi:=(n7 h i he.il).1;exact h.unit _ (by rw[bV hi,lG hi])
theorem Db(hI:Inv s)(h:lW K C s i p s1)(he:rN s i j):∀k,k<s.n->vf (bD s1 j).g k=if k=p then-1 else 0:=by
 intro k hk;obtain⟨hj,hjp⟩:=n7 h j he.jl;obtain⟨hi,hip⟩:=n7 h i he.il;obtain⟨w,hw⟩:=hI.jZ;have hc:∀m,m<s.n->vf (aI s.known (bD s j).pos).c m=0+-1*vf (aI s.known (bD s i).pos).c m:=fun m hm=>by
  rw[zl hw hm,zl hw hm,<-rj,B3];refine eF (fun r hr=>?_) fun _ _=>rfl;rw[<-hI.dd _ (gR he.jl) r hr,<-hI.dd _ (gR he.il) r hr,he.g r hr];omega
 have h1:=h.inv.dd _ (gR hj) k (by rw[h.n];exact hk);have h2:=h.inv.dd _ (gR hi) k (by rw[h.n];exact hk);rw[hjp,h.kn,h.n]at h1;rw[hip,h.kn,h.n]at h2;have h3:cu s1.u s.n (aI s.known (bD s j).pos).c k=-1*cu s1.u s.n (aI s.known (bD s i).pos).c k:=BG fun m hm=>by rw[hc m hm];omega
 rw[h1,h3,<-h2,BH h he k hk];split<;>omega
theorem Ro{n C:Nat}(hn:n<=4)(hC:C<=4294967296):C+n*C*(4*(C*C))<340282366920938463463374607431768211456:=by
 have h1:C*C<=4294967296*4294967296:=iN hC hC;have h2:n*C<=4*4294967296:=iN hn hC;have h3:n*C*(4*(C*C))<=4*4294967296*(4*(4294967296*4294967296)):=iN h2 (by omega);omega
theorem BE{v:Int}(h:v.natAbs<340282366920938463463374607431768211456):dl v<=4:=sx (by
 have:aC^4=340282366920938463463374607431768211456:=by decide
 omega)
theorem zg(hn:s.n<=4)(hC:C<=4294967296)(h:lW K C s i p s1){x:AI}(hx:x∈s1.items):∀v∈x.g,dl v<=4:=fun v hv=>by
 obtain⟨k,hk,rfl⟩:=gE hv;have:=h.big x hx k (by rw[(h.inv.it x hx).2,h.n]at hk;exact hk);exact BE (BU this (Ro hn hC))
theorem Gm(hI:Inv s)(hs:gu Kk s)(hn:s.n<=4)(hC:C<=4294967296)(h:lW K C s i p s1)(he:rN s i j):
 ∀a∈dV s1 i j p 0,(kM Kk (eu s1 i p) a/\wW (4*(C*C)) a)/\mv Kk (eu s1 i p) a:=by
 intro a ha;obtain⟨k,hk,hki,hkj,hke⟩:=Su ha;have hkm:=gR hk;obtain⟨k1,k2⟩:=h.inv.it _ hkm;have hp1:p<s1.n:=by rw[h.n];exact h.pn
 have hn1:=h.n;have hvs:∀m,vf ((bD s1 k).g.set p 0) m=if p=m then 0 else vf (bD s1 k).g m:=fun m=>jO (by omega);have hstat:∀m,m<s1.n->vf (s1.status.set p 1) m≠0->m=p\/vf s1.status m≠0:=fun m hm hst=>by
  rw[jO (by rw[h.inv.fV];exact hp1)]at hst;by_cases e:p=m
  . exact .inl e.symm
  . rw[if_neg e]at hst;exact .inr hst
 unfold jq at hke;rw[if_neg (by omega)]at hke;split at hke
 . rename_i hc;obtain rfl:=(vK hke).1;refine⟨⟨⟨k1,k2,fun v hv=>bO (zg hn hC h hkm v hv) (by decide)⟩,fun v hv=>?_⟩,⟨k1,k2,h.inv.dd _ hkm,fun m hm hst=>?_,h.inv.gz _ hkm⟩⟩
   . obtain⟨m,hm,rfl⟩:=gE hv;by_cases e:m=p
     . subst e;rw[hc];simp
     . exact h.co _ hkm m (by omega) e
   . rcases hstat m hm hst with rfl|hst
     . exact hc
     . exact h.inv.nf _ hkm m hm hst
 . rename_i hc;obtain rfl:=(vK hke).1;obtain⟨hi,hip⟩:=n7 h i he.il;obtain⟨hj,hjp⟩:=n7 h j he.jl;have hkn:(eu s1 i p).known=s.known:=h.kn;have hq:∀m,m<s1.items.length->lV s1.n Kk s1.known ⟨(bD s1 m).pos,1⟩:=fun m hm=>by
    have h1:=(h.inv.it _ (gR hm)).1;have h2:=hs.k (aI s1.known (bD s1 m).pos) (by rw[<-h.kn];exact eK h1);exact⟨h1,Ge 1,bO jt (by decide),h2.1,h2.2.trans h.n.symm⟩
   have hcdl:dl (vf (bD s1 k).g p)<=4:=zg hn hC h hkm _ (gr (by omega));have hu2:lV s1.n Kk s1.known (if vf (bD s1 k).g p<0 then⟨(bD s1 i).pos,-vf (bD s1 k).g p⟩else⟨(bD s1 j).pos,vf (bD s1 k).g p⟩):=by
    split
    . obtain⟨g1,g2,g3,g4,g5⟩:=hq i hi;exact⟨g1,by dsimp only;omega,by dsimp only;rw[fR];exact hcdl,g4,g5⟩
    . obtain⟨g1,g2,g3,g4,g5⟩:=hq j hj;exact⟨g1,by dsimp only;omega,hcdl,g4,g5⟩
   have hg8:∀v∈(bD s1 k).g.set p 0,dl v<=8:=fun v hv=>by
    rcases pG hv with hv|rfl
    . exact bO (zg hn hC h hkm v hv) (by decide)
    . rw[ie];omega
   have hP:gA Kk (eu s1 i p) ((bD s1 k).g.set p 0) [⟨(bD s1 k).pos,1⟩,if vf (bD s1 k).g p<0 then⟨(bD s1 i).pos,-vf (bD s1 k).g p⟩else⟨(bD s1 j).pos,vf (bD s1 k).g p⟩]:=
    ⟨by rw[iO];exact k2,hg8,by simp,by simp,fun u hu=>by
     rcases dY.1 hu with rfl|hu
     . exact hq k hk
     . rw[cL.1 hu];exact hu2⟩
   have hgb:GB (4*(C*C)) ((bD s1 k).g.set p 0):=fun v hv=>by
    obtain⟨m,hm,rfl⟩:=gE hv;rw[iO]at hm;rw[hvs m];split
    . simp
    . rename_i e;exact h.co _ hkm m (by omega) fun e'=>e e'.symm
   refine⟨⟨hP,hgb⟩,hP,⟨fun m hm=>?_,fun m hm hst=>?_⟩,?_⟩
   . have hm:m<s1.n:=hm;rw[hvs m];have hup:=BH h he m (by omega);have hdn:=Db hI h he m (by omega);have r0:=h.inv.dd _ hkm m hm;have r1:=h.inv.dd _ (gR hi) m hm;have r2:=h.inv.dd _ (gR hj) m hm;show _=cu s1.u s1.n (vec s1.n (dU s1.known _)) m;by_cases hneg:vf (bD s1 k).g p<0
     . rw[if_pos hneg];have e:cu s1.u s1.n (vec s1.n (dU s1.known [⟨(bD s1 k).pos,1⟩,⟨(bD s1 i).pos,-vf (bD s1 k).g p⟩])) m=cu s1.u s1.n (aI s1.known (bD s1 k).pos).c m+(-vf (bD s1 k).g p)*cu s1.u s1.n (aI s1.known (bD s1 i).pos).c m:=Ac fun r hr=>by
        rw[dJ hr];show 1*_+(_+0)=_;dsimp only;omega
       rw[e,<-r0,<-r1,hup];by_cases e2:p=m
       . subst e2;rw[if_pos rfl,if_pos rfl];omega
       . rw[if_neg e2,if_neg fun h=>e2 h.symm];omega
     . rw[if_neg hneg];have e:cu s1.u s1.n (vec s1.n (dU s1.known [⟨(bD s1 k).pos,1⟩,⟨(bD s1 j).pos,vf (bD s1 k).g p⟩])) m=cu s1.u s1.n (aI s1.known (bD s1 k).pos).c m+(vf (bD s1 k).g p)*cu s1.u s1.n (aI s1.known (bD s1 j).pos).c m:=Ac fun r hr=>by
        rw[dJ hr];show 1*_+(_+0)=_;dsimp only;omega
       rw[e,<-r0,<-r2,hdn];by_cases e2:p=m
       . subst e2;rw[if_pos rfl,if_pos rfl];omega
       . rw[if_neg e2,if_neg fun h=>e2 h.symm];omega
   . have hm:m<s1.n:=hm;rw[hvs m];rcases hstat m hm hst with rfl|hst
     . rw[if_pos rfl]
     . split
       . rfl
       . exact h.inv.nf _ hkm m hm hst
   . unfold dv;split
     . exact bO jt (by decide)
     . exact uS fun v hv=>by
        have:=hgb v hv;refine BE (BU this ?_);have h1:C*C<=4294967296*4294967296:=iN hC hC;omega
theorem PQ(hI:Inv s)(h:lW K C s i p s1):Inv (eu s1 i p)where
 ul:=h.inv.ul
 fV:=by show(s1.status.set p 1).length=_;rw[iO];exact h.inv.fV
 vl:=by show(s1.value.set p _).length=_;rw[iO];exact h.inv.vl
 kl:=h.inv.kl
 it x hx:=by cases hx
 dd x hx:=by cases hx
 nf x hx:=by cases hx
 gz x hx:=by cases hx
 kh:=List.Pairwise.nil
 jZ:=h.inv.jZ
 stat m hm:=by
  show vf (s1.status.set p 1) m=0\/vf (s1.status.set p 1) m=1\/vf (s1.status.set p 1) m=2;rw[jO (by rw[h.inv.fV,h.n];exact h.pn)];split
  . exact .inr (.inl rfl)
  . exact h.inv.stat m hm
 sv e he:=by
  obtain⟨e1,e2,e3⟩:=h.inv.sv e he;refine⟨e1,?_,e3⟩;show vf (s1.status.set p 1) e.v=2;rw[jO (by rw[h.inv.fV,h.n];exact h.pn),if_neg]
  . exact e2
  . intro e';have:=h.free;rw[h.status]at e2;rw[e',e2]at this;omega
 s2 m hm hst:=by
  have hst:vf (s1.status.set p 1) m=2:=hst;rw[jO (by rw[h.inv.fV,h.n];exact h.pn)]at hst;split at hst
  . omega
  . exact h.inv.s2 m hm hst
 sd:=h.inv.sd
theorem Nv(hI:Inv s)(h:lW K C s i p s1)(he:rN s i j){M:Nat}{s3:St}(hA:vW Kk M (eu s1 i p) (dV s1 i j p 0) true s3)(hL:∀a∈dV s1 i j p 0,mv Kk (eu s1 i p) a):gT s s3:=by
 refine h.sim.trans ?_;have hp1:p<s1.n:=by rw[h.n];exact h.pn
 obtain⟨e,hek⟩:=hA.kept.kn;have hst:∀m,vf s3.status m=if p=m then 1 else vf s1.status m:=fun m=>by
  rw[hA.kept.status];exact jO (by rw[h.inv.fV];exact hp1)
 have hva:∀m,vf s3.value m=if p=m then(aI s1.known (bD s1 i).pos).b else vf s1.value m:=fun m=>by
  rw[hA.kept.value];exact jO (by rw[h.inv.vl];exact hp1)
 have hfree:vf s1.status p=0:=by rw[h.status];exact h.free
 have hn3:s3.n=s1.n:=hA.kept.n;have hux:∀y i,ux s3 y i=ux s1 y i:=fun y i=>by unfold ux;rw[hA.kept.u,hn3];rfl
 refine⟨hn3,⟨e,hek⟩,⟨[],by rw[hA.kept.dM];simp[eu]⟩,fun m hm hs=>?_,fun y=>⟨y,fun i _=>hux y i,fun _ _ _=>rfl,fun k hk ⟨h1,h2,h3⟩=>?_⟩⟩
 . have hpm:p≠m:=fun e=>hs (by rw[<-e];exact hfree);exact⟨by rw[hst,if_neg hpm],fun _=>by rw[hva,if_neg hpm],fun i _=>by rw[hA.kept.u];rfl⟩
 . obtain⟨_,hcl⟩:=hA.imp rfl y h2;have hyp:y p=(aI s1.known (bD s1 i).pos).b:=by
    have:=h1 p (by rw[hn3];exact hp1) (by rw[hst,if_pos rfl]);rw[hva,if_pos rfl]at this;exact this
   obtain⟨hi,hip⟩:=n7 h i he.il;obtain⟨hj,hjp⟩:=n7 h j he.jl;have hbj:(aI s1.known (bD s1 j).pos).b=-(aI s1.known (bD s1 i).pos).b:=by
    have:=he.b;rw[hjp,hip,h.kn];omega
   refine⟨fun m hm hs=>?_,fun x hx=>?_,fun e' he' q hq=>?_⟩
   . have hpm:p≠m:=fun e=>by rw[<-e,hfree]at hs;omega
     have:=h1 m (by rw[hn3];exact hm) (by rw[hst,if_neg hpm];exact hs);rw[hva,if_neg hpm]at this;exact this
   . obtain⟨k',hk',rfl⟩:=nc hx;rw[<-lG hk'];unfold IH;by_cases e1:k'=i
     . subst e1;rw[qi hp1 fun m hm hmp=>by rw[BH h he m (by rw[<-h.n];exact hm),if_neg hmp],BH h he p h.pn,if_pos rfl,hyp];omega
     by_cases e2:k'=j
     . subst e2;rw[qi hp1 fun m hm hmp=>by rw[Db hI h he m (by rw[<-h.n];exact hm),if_neg hmp],Db hI h he p h.pn,if_pos rfl,hyp,hbj];omega
     by_cases hc:vf (bD s1 k').g p=0
     . have:=hcl (.add (bD s1 k')) (A9 hk' (by unfold jq;rw[if_neg (by omega),if_pos hc];simp));exact this
     . have:=hcl _ (A9 (a:=.put ((bD s1 k').g.set p 0) [⟨(bD s1 k').pos,1⟩,if vf (bD s1 k').g p<0 then⟨(bD s1 i).pos,-vf (bD s1 k').g p⟩else⟨(bD s1 j).pos,vf (bD s1 k').g p⟩]) hk' (by unfold jq;rw[if_neg (by omega),if_neg hc];simp));have this:bE (vf ((bD s1 k').g.set p 0)) y s1.n<=1*(aI s1.known (bD s1 k').pos).b+(_+0):=this;rw[Rc (h.inv.it _ (gR hk')).2 hp1,hyp]at this;generalize hcv:vf (bD s1 k').g p=c at*;by_cases hneg:c<0
       . rw[if_pos hneg]at this;dsimp only at this;rw[show(eu s1 i p).known=s1.known from rfl,show-c*(aI s1.known (bD s1 i).pos).b=-(c*(aI s1.known (bD s1 i).pos).b) by rw[lE]]at this;omega
       . rw[if_neg hneg]at this;dsimp only at this;rw[show(eu s1 i p).known=s1.known from rfl,hbj,show c*-(aI s1.known (bD s1 i).pos).b=-(c*(aI s1.known (bD s1 i).pos).b) by rw[nj]]at this;omega
   . have h4:=h3 e' (by rw[hA.kept.dM];exact he') q hq;exact(rI hn3 hek ((h.inv.sv e' (FZ he')).2.2 q hq) fun i _=>hux y i).1 h4
end
end Go.D
set_option maxHeartbeats 1000000
namespace Go.D
open Go Go.X
theorem Bi{l:List Int}{k:Nat}(h:k<l.length):idx l (k:Int)=some (vf l k):=by rw[de h,nH h]
theorem QY{K C Kk:Nat}{s:St}{i j:Nat}(hI:Inv s)(hs:gu Kk s)(hu:SU K s)(hn:s.n<=4)(he:rN s i j)(hC:∀x∈s.items,∀k,k<s.n->(vf x.g k).natAbs<=C)(hCb:C<=4294967296)(hK8:8<=K)(hK:K+9*(s.n*C)+40<=cX)
 (hkl:s.known.length+s.items.length<=1073741824)(hsl:s.steps.length+s.items.length<=1073741824)(hKk:Kk+6<=1099511627000):
 Tm (fun N=>rA N s.to (i:Int) (j:Int)) (fun r=>∃(p:Nat) (s1:St),lW K C s i p s1/\r=((bU (eu s1 i p) (dV s1 i j p 0)).1,(bU (eu s1 i p) (dV s1 i j p 0)).2.to)):=by
 have hL:cX=1099511627776:=rfl;have hil:=hs.il;unfold rA;refine Tm.bind (Qz hI hu hn hs.il he.il hC hCb hK8 hK) ?_;rintro _ ⟨p,s1,rfl,hP⟩;obtain⟨hi,hip⟩:=n7 hP i he.il;obtain⟨hj,hjp⟩:=n7 hP j he.jl;have hn1:=hP.n;have hlen:=Ih hP;have hp1:p<s1.n:=by rw[hP.n];exact hP.pn
 have hkn:=hP.kn;dsimp only;refine aN (sL hi) (aN (sL hj) ?_);rw[uF hn1.symm];refine aU (qR (hP.inv.it _ (gR hi)).1) ?_;refine aN (Bi (l:=s1.status) (by rw[hP.inv.fV];exact hp1)) (aN (ed (xs:=s1.status) rfl (by rw[hP.inv.fV];exact hp1)) ?_);refine aN (ei (l:=s1.value) (by rw[hP.inv.vl];exact hp1)) (aN (ed (xs:=mB s1.value) rfl (by rw[dG,hP.inv.vl];exact hp1)) ?_);have hok2:gu (Kk+6) (eu s1 i p):=⟨by show s1.n<=_;omega,by show s1.known.length<=_;rw[hkn];exact hs.kl,by show s1.steps.length<=_;rw[hP.st];exact hs.sl,by simp[eu],fun q hq=>by
  have hq:q∈s1.known:=hq;rw[hkn]at hq;exact⟨(hs.k q hq).1.mono (by omega),by rw[(hs.k q hq).2];exact hn1.symm⟩,fun x hx=>(by cases hx),hKk⟩
 have hLl:=DC (s:=s1) (i:=i) (j:=j) (p:=p) s1.items.length 0 (by omega);have hroom:jf (dV s1 i j p 0).length (eu s1 i p):=⟨by show s1.known.length+_<=_;rw[hkn];omega,by show s1.steps.length+_<=_;rw[hP.st];omega,by show 0+_<=_;omega⟩;have hA:=Gm hI hs hn hCb hP he;have hmi:s1.to.items.length=s1.items.length:=cN ..;refine Tm.bind (Q:=fun r=>(∃s',r=.inl (ij s')/\bU (eu s1 i p) (dV s1 i j p 0)=(true,s')/\s'.n=s1.n)\/r=.inr ((bU (eu s1 i p) (dV s1 i j p 0)).1,(bU (eu s1 i p) (dV s1 i j p 0)).2.to))
  (eL s1.items.length (fun k t=>∃s' k',ig (Kk+6) (eu s1 i p) (dV s1 i j p 0) k' s'/\(dV s1 i j p 0).drop k'=dV s1 i j p k/\t=(s'.to.known,s'.to.steps,s'.to.u,s'.to.status,s'.to.value,s'.to.items,s'.to.stack,(k:Int))) ⟨eu s1 i p,0,ig.first hok2 hroom,rfl,?_⟩ ?_) ?_
 . show(s1.to.known,s1.to.steps,s1.to.u,s1.status.set p 1,(mB s1.value).set p _,[],s1.to.stack,(0:Int))=_;rw[va];rfl
 . rintro k hk _ ⟨s',k',hv,hd,rfl⟩;dsimp only[Fo];refine aY (fun hlt=>?_) (fun hge=>aM ?_)
   . have hlt:k<s1.items.length:=by omega
     have hstp:=I4 (i:=i) (j:=j) (p:=p) hlt;have hxg:=(hP.inv.it _ (gR hlt)).2;have hcd:dl (vf (bD s1 k).g p)<=4:=zg hn hCb hP (gR hlt) _ (gr (by omega));have hns:s.to.n=s'.to.n:=by show(s.n:Int)=s'.n;rw[hv.n];show(s.n:Int)=s1.n;rw[hn1]
     refine Tm.bind (Q:=fun r=>(∃s'' k'',r=.inl (ij s'')/\ig (Kk+6) (eu s1 i p) (dV s1 i j p 0) k'' s''/\(dV s1 i j p 0).drop k''=dV s1 i j p (k+1))\/r=.inr ((bU (eu s1 i p) (dV s1 i j p 0)).1,(bU (eu s1 i p) (dV s1 i j p 0)).2.to)) (aN (sL hlt) (Tm.bind (Q:=fun c=>c=decide (k=i\/k=j)) (aY (fun h=>aM ?_) (fun h=>aM ?_)) ?_)) ?_
     . rw[decide_eq_true];omega
     . apply decide_eq_decide.2;omega
     . rintro _ rfl;refine aY (fun h=>aM (.inl ⟨s',k',rfl,hv,?_⟩)) (fun h=>?_)
       . rw[hd,hstp];unfold jq;rw[if_pos (of_decide_eq_true h)];rfl
       have hne:¬(k=i\/k=j):=fun e=>h (decide_eq_true e);refine aN (ei (l:=(bD s1 k).g) (by omega)) (aU (jg (by omega)) (aY (fun h0=>?_) (fun h0=>?_)))
       . have h0:vf (bD s1 k).g p=0:=jD fun e=>oT.2 e h0;have ha:jq s1 i j p k=[.add (bD s1 k)]:=by unfold jq;rw[if_neg hne,if_pos h0]
         rw[ha]at hstp;have hk'l:k'<(dV s1 i j p 0).length:=by
          rcases cv k' (dV s1 i j p 0).length with h1|h1
          . exact h1
          . rw[B2 h1,hstp]at hd;cases hd
         rw[fx hk'l,hstp]at hd;obtain⟨hd1,hd2⟩:=vK hd;obtain⟨g1,g2⟩:=hv.add hk'l hd1 (K0:=Kk) (hA _ (A9 hlt (by rw[ha];simp))).1.1;rw[ir (x:=s'.to) hns];refine aU (vB hv.ok g1) (aM (.inl ⟨add s' (bD s1 k),k'+1,rfl,g2,hd2⟩))
       . have h0:vf (bD s1 k).g p≠0:=oT.1 h0;refine aU (Bu (by omega)) (aN (ei (l:=(bD s1 k).g) (by omega)) (aN (ed (xs:=mB (bD s1 k).g) rfl (by rw[dG];omega)) (aU (jg (by omega)) ?_)));have hset:(mB (bD s1 k).g).set p ⟨false,[]⟩=mB ((bD s1 k).g.set p 0):=by rw[<-va,B0]
         rw[hset];have ha:jq s1 i j p k=[.put ((bD s1 k).g.set p 0) [⟨(bD s1 k).pos,1⟩,if vf (bD s1 k).g p<0 then⟨(bD s1 i).pos,-vf (bD s1 k).g p⟩else⟨(bD s1 j).pos,vf (bD s1 k).g p⟩]]:=by unfold jq;rw[if_neg hne,if_neg h0]
         refine aU (a:=(if vf (bD s1 k).g p<0 then(⟨(bD s1 i).pos,-vf (bD s1 k).g p⟩:AU)else⟨(bD s1 j).pos,vf (bD s1 k).g p⟩).to) (aY (fun h1=>?_) (fun h1=>aM ?_)) ?_
         . rw[if_pos (np.1 h1)];exact aU (nu (by omega)) (aM rfl)
         . rw[if_neg fun e=>h1 (np.2 e)];rfl
         rw[ha]at hstp;have hk'l:k'<(dV s1 i j p 0).length:=by
          rcases cv k' (dV s1 i j p 0).length with h1|h1
          . exact h1
          . rw[B2 h1,hstp]at hd;cases hd
         rw[fx hk'l,hstp]at hd;obtain⟨hd1,hd2⟩:=vK hd;obtain⟨g1,g2,g3,g4⟩:=hv.put hk'l hd1 (K0:=Kk) (hA _ (A9 hlt (by rw[ha];simp))).1.1 (by omega);refine aU (jH (by decide) (by decide)) ?_;rw[ir (x:=s'.to) hns];refine aU g1 ?_;have hns2:s.to.n=(put s' ((bD s1 k).g.set p 0) [⟨(bD s1 k).pos,1⟩,if vf (bD s1 k).g p<0 then⟨(bD s1 i).pos,-vf (bD s1 k).g p⟩else⟨(bD s1 j).pos,vf (bD s1 k).g p⟩]).2.to.n:=by
          show(s.n:Int)=((put s' _ _).2.n:Int);rw[g4];show(s.n:Int)=s1.n;rw[hn1]
         refine aY (fun hf=>aM (.inr ?_)) (fun ht=>aM (.inl ⟨_,k'+1,rfl,g2 (by simpa using ht),hd2⟩));dsimp only;rw[ir hns2,g3 (by simpa using hf)]
     . rintro r (⟨s'',k'',rfl,h1,h2⟩|rfl)
       . exact aM ⟨hlt,s'',k'',h1,h2,by rw[ep (by omega)]⟩
       . exact aM (.inr rfl)
   . have:k=s1.items.length:=by omega
     subst this;rw[IG]at hd;refine .inl ⟨s',rfl,?_,hv.n⟩;rw[hv.run,hd];rfl
 . rintro r (⟨s',rfl,h1,h2⟩|rfl)
   . refine aM ⟨p,s1,hP,?_⟩;show(true,aR.mk s.to.n s'.to.known s'.to.steps s'.to.u s'.to.status s'.to.value s'.to.items s'.to.stack)=_;rw[uF (h2.trans hn1).symm,h1]
   . exact aM ⟨p,s1,hP,rfl⟩
theorem Fb{K V:Type}[DecidableEq K]{k k':K}{v z:V}:∀{m:List (K×V)},fm (jW m k v) k' z=if k=k' then(v,true)else fm m k' z
 |[]=>by simp only[jW,fm]
 |p::m=>by
  simp only[jW];by_cases e:p.1=k
  . rw[if_pos e];simp only[fm];by_cases e2:k=k'
    . rw[if_pos e2,if_pos e2]
    . rw[if_neg e2,if_neg e2,if_neg (by rw[e];exact e2)]
  . rw[if_neg e];simp only[fm];by_cases e2:p.1=k'
    . rw[if_pos e2];by_cases e3:k=k'
      . exact absurd (e2.trans e3.symm) e
      . rw[if_neg e3,if_pos e2]
    . rw[if_neg e2,Fb];by_cases e3:k=k'
      . rw[if_pos e3,if_pos e3]
      . rw[if_neg e3,if_neg e3,if_neg e2]
inductive tm (K:Nat)(s:St):Int×Int×Bool×Bool×aR->Prop where
 |none (h:∀i j,i<s.items.length->j<s.items.length->(∀k,k<s.n->vf (bD s j).g k=-vf (bD s i).g k)->0<(aI s.known (bD s i).pos).b+(aI s.known (bD s j).pos).b):tm K s (0,0,false,true,s.to)
 |some (i j:Nat) (h:rN s i j):tm K s (i,j,true,true,s.to)
 |bad (s':St) (L:List Act) (hL:∀a∈L,mv K s a) (hO:∀a∈L,kM K s a) (hB:∀a∈L,wW 0 a) (hl:L.length<=1) (hb:bU s L=(false,s')):tm K s (0,0,false,false,s'.to)
theorem xg{n:Nat}:(List.replicate n (0:Int))=vec n fun _=>0:=by
 apply pJ (by simp[vec]);intro i h1 h2;simp[vec]
theorem HP:∀m,dc (List.replicate m (0:Int))=0
 |0=>rfl
 |m+1=>by rw[yj];show Int.gcd 0 (dc _:Nat)=0;rw[HP m];rfl
theorem Oj{Kk:Nat}{s:St}(hI:Inv s)(hKq:∀q∈s.known,fA Kk q){k o:Nat}(hlt:k<s.items.length)(ho:o<s.items.length)(hog:(bD s o).g=bT (bD s k).g)(hlt0:(aI s.known (bD s k).pos).b+(aI s.known (bD s o).pos).b<0):
 mv Kk s (.put (List.replicate s.n 0) [⟨(bD s k).pos,1⟩,⟨(bD s o).pos,1⟩])/\bU s [.put (List.replicate s.n 0) [⟨(bD s k).pos,1⟩,⟨(bD s o).pos,1⟩]]=(false,(put s (List.replicate s.n 0) [⟨(bD s k).pos,1⟩,⟨(bD s o).pos,1⟩]).2):=by
 have hUO:∀m,m<s.items.length->lV s.n Kk s.known ⟨(bD s m).pos,1⟩:=fun m hm=>by
  have h1:=(hI.it _ (gR hm)).1;exact⟨h1,Ge 1,bO jt (by decide),hKq _ (eK h1),hI.kl _ (eK h1)⟩
 have hP:gA Kk s (List.replicate s.n 0) [⟨(bD s k).pos,1⟩,⟨(bD s o).pos,1⟩]:=⟨by simp,fun v hv=>by rw[(yn.1 hv).2,ie];omega,by simp,by simp,fun u hu=>by
  rcases dY.1 hu with rfl|hu
  . exact hUO k hlt
  . rw[cL.1 hu];exact hUO o ho⟩
 have hz:∀j,j<s.n->vf (List.replicate s.n (0:Int)) j=0:=fun j hj=>by rw[xg,dJ hj]
 have hgc:dc (List.replicate s.n (0:Int))=0:=HP _;have hdv:dv (List.replicate s.n (0:Int))=1:=by unfold dv;rw[if_pos hgc]
 have hPS:od s (List.replicate s.n 0) [⟨(bD s k).pos,1⟩,⟨(bD s o).pos,1⟩]:=⟨fun j hj=>by
  rw[hz j hj];have e:zS s [⟨(bD s k).pos,1⟩,⟨(bD s o).pos,1⟩] j=cu s.u s.n (aI s.known (bD s k).pos).c j+1*cu s.u s.n (aI s.known (bD s o).pos).c j:=Ac fun r hr=>by
   rw[dJ hr];show 1*_+(1*_+0)=_;dsimp only;omega
  rw[e,<-hI.dd _ (gR hlt) j hj,<-hI.dd _ (gR ho) j hj,hog,iF];omega,fun j hj _=>hz j hj⟩
 have hdok:(put s (List.replicate s.n 0) [⟨(bD s k).pos,1⟩,⟨(bD s o).pos,1⟩]).1=false:=by
  show mK s _ _=false;unfold mK;rw[Jl hP,hdv,hgc];have:fY s.known [⟨(bD s k).pos,1⟩,⟨(bD s o).pos,1⟩]=(aI s.known (bD s k).pos).b+(aI s.known (bD s o).pos).b:=by
   show 1*_+(1*_+0)=_;dsimp only;omega
  rw[this];simp;omega
 refine⟨⟨hP,hPS,by rw[hdv];exact bO jt (by decide)⟩,?_⟩;show(if _ then _ else _)=_;rw[if_neg (by rw[hdok];simp)]
theorem Nb{K Kk:Nat}{s:St}(hI:Inv s)(hs:gu K s)(hK:Kk+6<=K)(hKq:∀q∈s.known,fA Kk q)(hr:jf 1 s):Tm (fun N=>uZ N s.to) (tm Kk s):=by
 have hL:cX=1099511627776:=rfl;have hil:=hs.il;have hKK:=hs.K;have hn:=hs.n;have hmi:s.to.items.length=s.items.length:=cN ..;have hgl:∀k,k<s.items.length->(bD s k).g.length=s.n:=fun k hk=>(hI.it _ (gR hk)).2;have hgd:∀k,k<s.items.length->∀v∈(bD s k).g,dl v<=8:=fun k hk=>(hs.i _ (gR hk)).2.2;have hdis:∀i j,i<s.items.length->j<s.items.length->(bD s i).g=(bD s j).g->i=j:=fun i j hi hj e=>by
  have:=MU.1 hI.kh;rcases MN i j with h|h|h
  . exact absurd (by rw[<-lG hi,<-lG hj];exact e) (this i j hi hj h)
  . exact h
  . exact absurd (by rw[<-lG hi,<-lG hj];exact e.symm) (this j i hj hi h)
 unfold uZ;refine Tm.bind (Q:=fun m=>(∀k,k<s.items.length->fm m (keyOf (bD s k).g) (0:Int)=((k:Int),true))/\∀t:List UInt8,(∀k,k<s.items.length->keyOf (bD s k).g≠t)->fm m t (0:Int)=(0,false)) (eL s.items.length (fun k t=>t.2=(k:Int)/\(∀j,j<k->fm t.1 (keyOf (bD s j).g) (0:Int)=((j:Int),true))/\∀u:List UInt8,(∀j,j<k->keyOf (bD s j).g≠u)->fm t.1 u (0:Int)=(0,false)) ⟨rfl,fun j hj=>by omega,fun u _=>rfl⟩ ?_) ?_
 . rintro k hk ⟨m,i⟩ ⟨rfl,h1,h2⟩;dsimp only at h1 h2;dsimp only[ED];refine aY (fun hlt=>?_) (fun hge=>aM ?_)
   . have hlt:k<s.items.length:=by omega
     refine aN (sL hlt) (aU (Io (g:=(bD s k).g) (by rw[hgl k hlt];omega) (fun v hv=>bO (hgd k hlt v hv) (by decide))) (aM ⟨hlt,ep (by omega),fun j hj=>?_,fun u hu=>?_⟩))
     . dsimp only;rw[Fb];by_cases e:k=j
       . subst e;rw[if_pos rfl]
       . rw[if_neg,h1 j (by omega)];intro e2;exact e (hdis k j hlt (by omega) (Ik (by rw[hgl k hlt,hgl j (by omega)]) e2))
     . dsimp only;rw[Fb,if_neg (hu k (by omega)),h2 u fun j hj=>hu j (by omega)]
   . have:k=s.items.length:=by omega
     subst this;exact⟨h1,h2⟩
 rintro m ⟨m1,m2⟩;dsimp only;have hopp:∀k,k<s.items.length->(∃o,o<s.items.length/\(bD s o).g=bT (bD s k).g/\fm m (keyOf (bT (bD s k).g)) (0:Int)=((o:Int),true))\/((∀o,o<s.items.length->(bD s o).g≠bT (bD s k).g)/\fm m (keyOf (bT (bD s k).g)) (0:Int)=(0,false)):=fun k hk=>by
  by_cases h:∃o,o<s.items.length/\(bD s o).g=bT (bD s k).g
  . obtain⟨o,ho,he⟩:=h;exact .inl ⟨o,ho,he,by rw[<-he];exact m1 o ho⟩
  . have h':∀o,o<s.items.length->(bD s o).g≠bT (bD s k).g:=fun o ho e=>h ⟨o,ho,e⟩;refine .inr ⟨h',m2 _ fun o ho e=>h' o ho (Ik (by rw[hgl o ho,iY,hgl k hk]) e)⟩
 have hbd:∀k,k<s.items.length->dl (aI s.known (bD s k).pos).b<=Kk:=fun k hk=>(hKq _ (eK (hI.it _ (gR hk)).1)).2;refine Tm.bind (Q:=fun r=>(r=.inl ()/\∀k o,k<s.items.length->o<s.items.length->k<=o->(bD s o).g=bT (bD s k).g->0<(aI s.known (bD s k).pos).b+(aI s.known (bD s o).pos).b)\/∃z,r=.inr z/\tm Kk s z)
  (eL s.items.length (fun k t=>t=(k:Int)/\∀k' o,k'<k->o<s.items.length->k'<=o->(bD s o).g=bT (bD s k').g->0<(aI s.known (bD s k').pos).b+(aI s.known (bD s o).pos).b) ⟨rfl,fun k' o h=>by omega⟩ ?_) ?_
 . rintro k hk _ ⟨rfl,hp⟩;dsimp only[EO];refine aY (fun hlt=>?_) (fun hge=>aM (.inl ⟨rfl,fun k' o h1=>hp k' o (by omega)⟩));have hlt:k<s.items.length:=by omega
   have hng:∀v∈bT (bD s k).g,dl v<=8:=fun v hv=>by rw[<-fR];exact hgd k hlt _ (EJ hv)
   refine Tm.bind (Q:=fun r=>(r=.inl ()/\∀o,o<s.items.length->k<=o->(bD s o).g=bT (bD s k).g->0<(aI s.known (bD s k).pos).b+(aI s.known (bD s o).pos).b)\/∃z,r=.inr z/\tm Kk s z)
    (aN (sL hlt) (aU (sE (l:=(bD s k).g) (K:=8) (by omega) (by rw[hgl k hlt];omega) (hgd k hlt)) (aU (Io (g:=bT (bD s k).g) (by rw[iY,hgl k hlt];omega) (fun v hv=>bO (hng v hv) (by decide))) ?_))) ?_
   . rcases hopp k hlt with⟨o,ho,hog,hom⟩|⟨hno,hom⟩
     . rw[hom];dsimp only;refine Tm.bind (Q:=fun c=>c=decide ((o:Int)<(k:Int))) (cz (by simp) (aM rfl)) ?_;rintro _ rfl;refine aY (fun hlt'=>aM (.inl ⟨rfl,fun o' ho' hko hg=>?_⟩)) (fun hlt'=>?_)
       . have:o'=o:=hdis o' o ho' ho (hg.trans hog.symm);have:=of_decide_eq_true hlt';omega
       . have hko:k<=o:=by
          have:¬((o:Int)<(k:Int)):=fun e=>hlt' (decide_eq_true e);omega
         have b1:=hbd k hlt;have b2:=hbd o ho;refine aU (qR (hI.it _ (gR hlt)).1) (aN (sL ho) (aU (qR (hI.it _ (gR ho)).1) (aU (mC (by omega) (by omega)) (aU (jg (bO (oK b1 b2) (by omega))) ?_))));refine aY (fun hs1=>?_) (fun hs1=>aY (fun hs2=>aM (.inr ⟨_,rfl,?_⟩)) (fun hs2=>aM (.inl ⟨rfl,fun o' ho' _ hg=>?_⟩)))
         . 
           have hlt0:(aI s.known (bD s k).pos).b+(aI s.known (bD s o).pos).b<0:=np.1 (by omega);obtain⟨hP,hb⟩:=Oj hI hKq hlt ho hog hlt0;refine aN (gW (n:=s.n) rfl (by omega) (by decide)) (aU (jH (by decide) (by decide)) (aN (sL ho) (aU (jH (by decide) (by decide)) ?_)));rw[<-pf];have hput:=Gy hs hP.1 hK hr;refine aU hput (aM (.inr ⟨_,rfl,?_⟩));dsimp only;rw[ir (by show(s.n:Int)=((put s _ _).2.n:Int);rw[Bc])];exact .bad _ [.put (List.replicate s.n 0) [⟨(bD s k).pos,1⟩,⟨(bD s o).pos,1⟩]] (fun a ha=>by rw[cL.1 ha];exact hP) (fun a ha=>by rw[cL.1 ha];exact hP.1) (fun a ha=>by rw[cL.1 ha];exact fun v hv=>by rw[(yn.1 hv).2];simp) (by simp) hb
         . refine .some k o ⟨hlt,ho,fun e=>?_,fun m hm=>by rw[hog,iF],?_⟩
           . subst e;have h1:=hI.gz _ (gR hlt);have h2:(2:Int)∣((dc (bD s k).g:Nat):Int):=oW fun v hv=>by
              obtain⟨m,hm,rfl⟩:=gE hv;have:=congrArg (fun l=>vf l m) hog;simp only[iF]at this;have:vf (bD s k).g m=0:=by omega
              rw[this];exact yu 2
             rw[h1]at h2;omega
           . exact jD fun e=>oT.2 e hs2
         . have:o'=o:=hdis o' o ho' ho (hg.trans hog.symm);subst this;revert hs1 hs2;unfold bM;(repeat' split)<;>omega
     . rw[hom];refine Tm.bind (Q:=fun c=>c=true) (cY (by simp) (aM rfl)) ?_;rintro _ rfl;exact cY rfl (aM (.inl ⟨rfl,fun o ho _ hg=>absurd hg (hno o ho)⟩))
   . rintro r (⟨rfl,h⟩|⟨z,rfl,hz⟩)
     . refine aM ⟨hlt,ep (by omega),fun k' o h1 h2 h3 h4=>?_⟩;rcases cv k' k with h5|h5
       . exact hp k' o h5 h2 h3 h4
       . obtain rfl:k'=k:=by omega
         exact h o h2 h3 h4
     . exact aM (.inr ⟨z,rfl,hz⟩)
 . rintro r (⟨rfl,h⟩|⟨z,rfl,hz⟩)
   . refine aM (.none fun i j hi hj hg=>?_);have hg1:(bD s j).g=bT (bD s i).g:=lY (by rw[iY,hgl i hi,hgl j hj]) fun k hk=>by rw[iF];exact hg k (by rw[hgl j hj]at hk;exact hk)
     rcases Nat.le_total i j with h1|h1
     . exact h i j hi hj h1 hg1
     . have:=h j i hj hi h1 (by rw[hg1,CU]);omega
   . exact aM hz
open Go Go.X
def D3(N:Nat)(s:aR)(v:Int):((List aX)×(List aX)×Int)->Option (aK ((List aX)×(List aX)×Int) ((List aX)×(List aX)))
 |(a,b,c)=>(if(c:Int)<(List.length s.items:Int)then ((((idx s.items c).bind fun d=>(idx d.g v).bind fun f=>(gC N f).bind fun e=>(if(e:Int)=1 then (cS 32 a [d]).bind fun i=>some (i,b) else (if(e:Int)=(-1)then (cS 32 b [d]).bind fun j=>some (a,j) else some (a,b)))):Option ((List aX)×(List aX)))).bind fun ss=>match ss with
    |(k,l)=>some (aK.next (k,l,(iw (c+1)))) else some (aK.done (a,b)))
def rv(N:Nat)(s:aR)(v:Int):Option ((List aX)×(List aX)):=(bJ (D3 N s v) N (([]:(List aX)),([]:(List aX)),0)).bind fun ss=>match ss with
  |(a,b)=>some (a,b)
def JA(N:Nat)(s:aR)(v:Int):((List aX)×(List aX)×Int)->Option (aK ((List aX)×(List aX)×Int) ((List aX)×(List aX)))
 |(a,b,c)=>(if(c:Int)<(List.length s.items:Int)then ((((idx s.items c).bind fun d=>(idx d.g v).bind fun f=>(gC N f).bind fun e=>(if(e:Int)=1 then (cS 32 a [d]).bind fun i=>some (i,b) else (if(e:Int)=(-1)then (cS 32 b [d]).bind fun j=>some (a,j) else some (a,b)))):Option ((List aX)×(List aX)))).bind fun ss=>match ss with
    |(k,l)=>some (aK.next (k,l,(iw (c+1)))) else some (aK.done (a,b)))
def sM(N:Nat)(s:aR)(v:Int):Option ((List aX)×(List aX)):=(bJ (JA N s v) N (([]:(List aX)),([]:(List aX)),0)).bind fun ss=>match ss with
  |(a,b)=>some (a,b)
def E7(N:Nat)(v:Int)(r1:((List aX)×(List aX))):(aB×Int)->Option (aK (aB×Int) aB)
 |(a,b)=>(if(b:Int)<(List.length r1.2:Int)then ((((idx r1.2 b).bind fun d=>(oE N v d r1.1).bind fun c=>(gC N c).bind fun e=>(if(e:Int)≥0 then (fK N 1000).bind fun f=>(iV N c f).bind fun g=>(j7 N a g).bind fun i=>some i else some a)):Option aB)).bind fun ss=>match ss with
    |j=>some (aK.next (j,(iw (b+1)))) else some (aK.done a))
def wg(N:Nat)(s:aR)(v:Int):Option (aB×Bool):=(rv N s v).bind fun r1=>(if((iw ((List.length r1.1:Int)+(List.length r1.2:Int))):Int)=0 then some ((aB.mk false ([]:(List Int))),false) else ((((if((List.length r1.1:Int):Int)=0 then some true else some (decide (((List.length r1.2:Int):Int)=0)))):Option Bool)).bind fun ss=>match ss with
   |x7=>(if x7=true then some ((aB.mk false ([]:(List Int))),true) else (fK N (iw ((List.length r1.1:Int)*(List.length r1.2:Int)))).bind fun a=>(bJ (E7 N v r1) N (a,0)).bind fun ss=>match ss with
      |b=>some (b,true)))
def Cq(N:Nat)(s:aR):(Int×Bool×aB×Int)->Option (aK (Int×Bool×aB×Int) (Int×Bool))
 |(c,b,d,a)=>(if(a:Int)<s.n then ((((idx s.status a).bind fun f=>(if(f:Int)≠0 then some (c,b,d) else (wg N s a).bind fun e=>((((if e.2=true then (if(!b)=true then some true else (iz N e.1 d).bind fun g=>some (decide ((g:Int)<0))) else some false)):Option Bool)).bind fun ss=>match ss with
     |i=>(if i=true then some (a,true,e.1) else some (c,b,d)))):Option (Int×Bool×aB))).bind fun ss=>match ss with
    |(j,k,l)=>some (aK.next (j,k,l,(iw (a+1)))) else some (aK.done (c,b)))
def tN(N:Nat)(s:aR):Option (Int×Bool):=(bJ (Cq N s) N (0,false,(aB.mk false ([]:(List Int))),0)).bind fun ss=>match ss with
  |(a,b)=>some (a,b)
def uH(N:Nat)(s:aR)(v:Int):Option Bool:=(rv N s v).bind fun r1=>(if((List.length r1.1:Int):Int)=0 then some true else (Ad N r1.2 (fun y0=>tI N y0 v r1.1)).bind fun r5=>some (!r5))
def CP(N:Nat)(r2:(List aX)):((List Int)×Int)->Option (aK ((List Int)×Int) (List Int))
 |(b,a)=>(if(a:Int)<(List.length r2:Int)then (idx r2 a).bind fun c=>(cS 8 b [c.pos]).bind fun d=>some (aK.next (d,(iw (a+1)))) else some (aK.done b))
def zX(N:Nat)(c:(List aB))(d:aX)(e:aB)(f:aX)(i:aB):((List aB)×Int)->Option (aK ((List aB)×Int) (List aB))
 |(b,a)=>(if(a:Int)<(List.length c:Int)then (idx d.g a).bind fun j=>(j7 N e j).bind fun k=>(idx f.g a).bind fun l=>(j7 N i l).bind fun m=>(iV N k m).bind fun n=>(idx b a).bind fun p=>(di b a n).bind fun o=>some (aK.next (o,(iw (a+1)))) else some (aK.done b))
def Em(N:Nat)(s:aR)(v:Int)(r1:((List aX)×(List aX)))(b:aX):((List bB)×(List Step)×(List (List aB))×(List Int)×(List aB)×(List aX)×(List dI)×Int)->Option (aK ((List bB)×(List Step)×(List (List aB))×(List Int)×(List aB)×(List aX)×(List dI)×Int) (Sum ((List bB)×(List Step)×(List (List aB))×(List Int)×(List aB)×(List aX)×(List dI)) (Bool×aR)))
 |(e,f,i,j,k,l,m,c)=>(if(c:Int)<(List.length r1.2:Int)then (idx r1.2 c).bind fun d=>(idx b.g v).bind fun o=>(idx d.g v).bind fun a0=>(jd N a0).bind fun p=>(fW (α:=aB) 32 (aB.mk false ([]:(List Int))) s.n).bind fun y=>(bJ (zX N y b p d o) N (y,0)).bind fun ss=>match ss with
    |a1=>(mU N (aR.mk s.n e f i j k l m) a1 [(dO.mk b.pos p),(dO.mk d.pos o)]).bind fun a=>(if(!a.1)=true then some (aK.done (Sum.inr (false,(aR.mk s.n a.2.known a.2.steps a.2.u a.2.status a.2.value a.2.items a.2.stack)))) else some (aK.next (a.2.known,a.2.steps,a.2.u,a.2.status,a.2.value,a.2.items,a.2.stack,(iw (c+1))))) else some (aK.done (Sum.inl (e,f,i,j,k,l,m))))
def DL(N:Nat)(s:aR)(v:Int)(r1:((List aX)×(List aX))):((List bB)×(List Step)×(List (List aB))×(List Int)×(List aB)×(List aX)×(List dI)×Int)->Option (aK ((List bB)×(List Step)×(List (List aB))×(List Int)×(List aB)×(List aX)×(List dI)×Int) (Sum ((List bB)×(List Step)×(List (List aB))×(List Int)×(List aB)×(List aX)×(List dI)) (Bool×aR)))
 |(b,c,d,e,f,g,i,a)=>(if(a:Int)<(List.length r1.1:Int)then (idx r1.1 a).bind fun j=>(bJ (Em N s v r1 j) N (b,c,d,e,f,g,i,0)).bind fun ss=>match ss with
    |(Sum.inl (k,l,m,n,o,p,u))=>some (aK.next (k,l,m,n,o,p,u,(iw (a+1))))
    |(Sum.inr z)=>some (aK.done (Sum.inr z)) else some (aK.done (Sum.inl (b,c,d,e,f,g,i))))
def nJ(N:Nat)(s:aR)(v:Int)(dz:Bool):Option (Bool×aR):=(rv N s v).bind fun r1=>(tA N [r1.1,r1.2]).bind fun r2=>(bJ (CP N r2) N (([]:(List Int)),0)).bind fun ss=>match ss with
  |a=>(cS 40 s.stack [(dI.mk v a dz)]).bind fun b=>(idx s.status v).bind fun o=>(di s.status v 2).bind fun c=>(qI N s.items).bind fun d=>(ye N d (fun y0=>uG N y0 v)).bind fun e=>(bJ (DL N s v r1) N (s.known,s.steps,s.u,c,s.value,e,b,0)).bind fun ss=>match ss with
    |(Sum.inl (f,g,i,j,k,l,m))=>some (true,(aR.mk s.n f g i j k l m))
    |(Sum.inr z)=>some z
def Ci(N:Nat)(s:aR)(j:Int)(x1:bB):(aB×Int)->Option (aK (aB×Int) aB)
 |(b,a)=>(if(a:Int)<(List.length x1.aZ:Int)then (idx x1.aZ a).bind fun c=>(idx s.u a).bind fun d=>(idx d j).bind fun e=>(j7 N c e).bind fun f=>(iV N b f).bind fun g=>some (aK.next (g,(iw (a+1)))) else some (aK.done b))
def uY(N:Nat)(s:aR)(vat1:Int)(j:Int):Option aB:=(idx s.known vat1).bind fun x1=>(bJ (Ci N s j x1) N ((aB.mk false ([]:(List Int))),0)).bind fun ss=>match ss with
  |a=>some a
def A6(N:Nat)(s:aR)(e:dI)(y:(List aB))(c:Int):(aB×Int)->Option (aK (aB×Int) aB)
 |(b,a)=>(if(a:Int)<(List.length y:Int)then ((((if(a:Int)≠e.v then (uY N s c a).bind fun d=>(idx y a).bind fun f=>(j7 N d f).bind fun g=>(iS N b g).bind fun i=>some i else some b)):Option aB)).bind fun ss=>match ss with
    |j=>some (aK.next (j,(iw (a+1)))) else some (aK.done b))
def EP(N:Nat)(s:aR)(e:dI)(y:(List aB)):(aB×aB×Bool×Bool×Int)->Option (aK (aB×aB×Bool×Bool×Int) (aB×aB×Bool×Bool))
 |(a,b,c,d,f)=>(if(f:Int)<(List.length e.items:Int)then ((((idx e.items f).bind fun g=>(idx s.known g).bind fun m=>(bJ (A6 N s e y g) N (m.dw,0)).bind fun ss=>match ss with
    |j=>(uY N s g e.v).bind fun i=>(gC N i).bind fun n=>(if(n:Int)>0 then (kx N j i).bind fun k=>((((if(!d)=true then some true else (iz N k.1 b).bind fun o=>some (decide ((o:Int)<0)))):Option Bool)).bind fun ss=>match ss with
       |p=>(if p=true then some (a,k.1,c,true) else some (a,b,c,d)) else (jd N i).bind fun u=>(kx N j u).bind fun a0=>(jd N a0.1).bind fun l=>((((if(!c)=true then some true else (iz N l a).bind fun a1=>some (decide ((a1:Int)>0)))):Option Bool)).bind fun ss=>match ss with
       |a2=>(if a2=true then some (l,b,true,d) else some (a,b,c,d)))):Option (aB×aB×Bool×Bool))).bind fun ss=>match ss with
    |(a3,a4,a5,a6)=>some (aK.next (a3,a4,a5,a6,(iw (f+1)))) else some (aK.done (a,b,c,d)))
def nt(N:Nat)(s:aR)(e:dI)(y:(List aB)):Option (aB×Bool):=(bJ (EP N s e y) N ((aB.mk false ([]:(List Int))),(aB.mk false ([]:(List Int))),false,false,0)).bind fun ss=>match ss with
  |(a,b,c,d)=>(if(!c)=true then some (b,true) else (if(!d)=true then some (a,true) else (iz N a b).bind fun f=>some (a,(decide ((f:Int)<=0)))))
def jy(N:Nat)(s:aR):Option bX:= some (bX.mk 1 ([]:(List aB)) (Proof.mk s.steps ([]:(List aB)) (aB.mk false ([]:(List Int))) ([]:(List Proof))) 0)
def DD(N:Nat)(n:Int):((List (List aB))×Int)->Option (aK ((List (List aB))×Int) (List (List aB)))
 |(b,a)=>(if(a:Int)<n then (fW (α:=aB) 32 (aB.mk false ([]:(List Int))) n).bind fun c=>(fK N 1).bind fun d=>(idx c a).bind fun g=>(di c a d).bind fun e=>(cS 24 b [e]).bind fun f=>some (aK.next (f,(iw (a+1)))) else some (aK.done b))
def xX(N:Nat)(n:Int)(system:(List bB)):Option aR:=(zp N system).bind fun r1=>(fW (α:=Int) 8 0 n).bind fun x2=>(fW (α:=aB) 32 (aB.mk false ([]:(List Int))) n).bind fun x3=>(bJ (DD N n) N (([]:(List (List aB))),0)).bind fun ss=>match ss with
  |a=>some (aR.mk n r1 ([]:(List Step)) a x2 x3 ([]:(List aX)) ([]:(List dI)))
def p5(N:Nat)(s:aR):Option aR:=(zB N s.known).bind fun r1=>(Cr N s.steps).bind fun r2=>(BF N s.u).bind fun r3=>(yH N s.status).bind fun r4=>(nI N s.value).bind fun r5=>(qI N s.items).bind fun r6=>(Da N s.stack).bind fun r7=>some (aR.mk s.n r1 r2 r3 r4 r5 r6 r7)
def mD(N:Nat)(s:aR)(q:bB):Option aR:=(p5 N s).bind fun r1=>(cS 56 r1.known [q]).bind fun x2=>some (aR.mk r1.n x2 ([]:(List Step)) r1.u r1.status r1.value r1.items r1.stack)
def qz(N:Nat)(s:aR)(form:(List aB))(bound:aB)(left:bX)(right:bX):Option bX:= some (bX.mk 1 ([]:(List aB)) (Proof.mk s.steps form bound [left.proof,right.proof]) 0)
def Dw(N:Nat)(v:Int)(r1:((List aX)×(List aX))):(aB×Int)->Option (aK (aB×Int) aB)
 |(a,b)=>(if(b:Int)<(List.length r1.2:Int)then ((((idx r1.2 b).bind fun d=>(oE N v d r1.1).bind fun c=>(gC N c).bind fun e=>(if(e:Int)≥0 then (fK N 1).bind fun f=>(iV N c f).bind fun g=>(iV N a g).bind fun i=>some i else some a)):Option aB)).bind fun ss=>match ss with
    |j=>some (aK.next (j,(iw (b+1)))) else some (aK.done a))
def xS(N:Nat)(s:aR)(v:Int):Option aB:=(sM N s v).bind fun r1=>(bJ (Dw N v r1) N ((aB.mk false ([]:(List Int))),0)).bind fun ss=>match ss with
  |a=>some a
def Cu(N:Nat)(s:aR)(e:(Int×Bool))(f:aX):(gJ×Bool×Int)->Option (aK (gJ×Bool×Int) (gJ×Bool))
 |(a,b,c)=>(if(c:Int)<(List.length s.items:Int)then ((((idx s.items c).bind fun d=>(uD N d).bind fun i=>((((if(!i.2)=true then some true else (if(i.1:Int)≠e.1 then some true else (idx d.g e.1).bind fun l=>(gC N l).bind fun m=>some (decide ((m:Int)>0))))):Option Bool)).bind fun ss=>match ss with
    |n=>(if n=true then some (a,b) else (xR N s d).bind fun o=>(jd N o).bind fun j=>(xR N s f).bind fun k=>((((if(!b)=true then some true else (iS N k j).bind fun p=>(iS N a.high a.low).bind fun u=>(iz N p u).bind fun v=>some (decide ((v:Int)<0)))):Option Bool)).bind fun ss=>match ss with
       |y=>(if y=true then some ((gJ.mk f j k),true) else some (a,b)))):Option (gJ×Bool))).bind fun ss=>match ss with
    |(a0,a1)=>some (aK.next (a0,a1,(iw (c+1)))) else some (aK.done (a,b)))
def DQ(N:Nat)(s:aR):(gJ×Bool×Int)->Option (aK (gJ×Bool×Int) (gJ×Bool))
 |(a,b,c)=>(if(c:Int)<(List.length s.items:Int)then ((((idx s.items c).bind fun d=>(uD N d).bind fun e=>((((if(!e.2)=true then some true else (idx d.g e.1).bind fun f=>(gC N f).bind fun i=>some (decide ((i:Int)<0)))):Option Bool)).bind fun ss=>match ss with
    |j=>(if j=true then some (a,b) else (bJ (Cu N s e d) N (a,b,0)).bind fun ss=>match ss with
       |(k,l)=>some (k,l))):Option (gJ×Bool))).bind fun ss=>match ss with
    |(m,n)=>some (aK.next (m,n,(iw (c+1)))) else some (aK.done (a,b)))
def wF(N:Nat)(s:aR):Option (gJ×Bool):=(bJ (DQ N s) N ((gJ.mk (aX.mk 0 ([]:(List aB))) (aB.mk false ([]:(List Int))) (aB.mk false ([]:(List Int)))),false,0)).bind fun ss=>match ss with
  |(a,b)=>some (a,b)
end Go.D
set_option maxHeartbeats 1000000
namespace Go.D
open Go Go.X
def cx(v:Nat)(l:List AI):List AI:=l.filter fun x=>decide (0<vf x.g v)
def dh(v:Nat)(l:List AI):List AI:=l.filter fun x=>decide (vf x.g v<0)
theorem j3{v:Nat}{l:List AI}{x:AI}:x∈cx v l↔x∈l/\0<vf x.g v:=by simp[cx]
theorem gV{v:Nat}{l:List AI}{x:AI}:x∈dh v l↔x∈l/\vf x.g v<0:=by simp[dh]
def mI(l:List AI):List aX:=l.map AI.to
theorem eX(l:List AI):(mI l).length=l.length:=cN ..
theorem oV{l:List AI}{k:Nat}(h:k<l.length):idx (mI l) (k:Int)=some (l[k]).to:=by
 unfold mI;rw[de (by simpa using h),kK]
def iE(n:Nat)(l:List AI):Prop:=l.length<=1073741824/\∀x∈l,x.g.length=n/\∀w∈x.g,dl w<=8
theorem iE.vf{n:Nat}{l:List AI}(h:iE n l){x:AI}(hx:x∈l)(v:Nat):dl (vf x.g v)<=8:=jK.vf ⟨(h.2 x hx).1,(h.2 x hx).2⟩ v
theorem iE.sub{n:Nat}{l m:List AI}(h:iE n l)(hl:m.length<=l.length)(hm:∀x∈m,x∈l):iE n m:=⟨by have:=h.1;omega,fun x hx=>h.2 x (hm x hx)⟩
theorem oy{n v:Nat}{l:List AI}(h:iE n l):iE n (cx v l):=h.sub (te ..) fun x hx=>(j3.1 hx).1
theorem w5{n v:Nat}{l:List AI}(h:iE n l):iE n (dh v l):=h.sub (te ..) fun x hx=>(gV.1 hx).1
theorem IS{a:Int}:bM a 0=1↔0<a:=by unfold bM;(repeat' split)<;>omega
theorem LI{a:Int}:bM a 0=-1↔a<0:=by unfold bM;(repeat' split)<;>omega
theorem Rh{a:Int}:bM a 0≥0↔0<=a:=by unfold bM;(repeat' split)<;>omega
theorem ON{v:Nat}{l:List AI}{k:Nat}(h:k<l.length):cx v (l.take (k+1))=cx v (l.take k)++(if 0<vf (l[k]).g v then[l[k]]else[]):=by
 unfold cx;rw[<-jV h,B7];congr 1;by_cases e:0<vf (l[k]).g v<;>simp[e]
theorem N4{v:Nat}{l:List AI}{k:Nat}(h:k<l.length):dh v (l.take (k+1))=dh v (l.take k)++(if vf (l[k]).g v<0 then[l[k]]else[]):=by
 unfold dh;rw[<-jV h,B7];congr 1;by_cases e:vf (l[k]).g v<0<;>simp[e]
theorem AY{s:St}{v:Nat}(hi:iE s.n s.items)(hv:v<s.n):Tm (fun N=>rv N s.to (v:Int)) (·=(mI (cx v s.items),mI (dh v s.items))):=by
 have hl:=hi.1;have hmi:s.to.items.length=s.items.length:=cN ..;unfold rv;refine aU (a:=(mI (cx v s.items),mI (dh v s.items))) (eL s.items.length (fun k t=>t=(mI (cx v (s.items.take k)),mI (dh v (s.items.take k)),(k:Int))) rfl ?_) (aM rfl);rintro k hk _ rfl;dsimp only[D3];refine aY (fun hlt=>?_) (fun hge=>aM ?_)
 . have hlt:k<s.items.length:=by omega
   have hm:=du hlt;have hd:=hi.vf hm v;have lu:(cx v (s.items.take k)).length<=k:=bO (te ..) (by rw[fg];omega);have ll:(dh v (s.items.take k)).length<=k:=bO (te ..) (by rw[fg];omega);refine aU (a:=(mI (cx v (s.items.take (k+1))),mI (dh v (s.items.take (k+1))))) ?_ (aM ⟨hlt,by rw[ep (by omega)]⟩);rw[ON hlt,N4 hlt];refine aN (a:=(s.items[k]).to) (by show idx (mI s.items) _=_;exact oV hlt) (aN (ei (l:=(s.items[k]).g) (by rw[(hi.2 _ hm).1];exact hv)) (aU (jg (bO hd (by decide))) ?_));refine aY (fun h1=>?_) (fun h1=>aY (fun h2=>?_) (fun h2=>aM ?_))
   . have h1:=IS.1 h1;refine aN (dQ (by rw[eX];simp only[cA,dP];omega) (by decide)) (aM ?_);rw[if_pos h1,if_neg (by omega)];simp[mI]
   . have h2:=LI.1 h2;refine aN (dQ (by rw[eX];simp only[cA,dP];omega) (by decide)) (aM ?_);rw[if_pos h2,if_neg (by omega)];simp[mI]
   . rw[if_neg fun e=>h1 (IS.2 e),if_neg fun e=>h2 (LI.2 e)];simp[mI]
 . show _=_;rw[fh (by omega)]
theorem vT{s:St}{v:Nat}(hi:iE s.n s.items)(hv:v<s.n):Tm (fun N=>sM N s.to (v:Int)) (·=(mI (cx v s.items),mI (dh v s.items))):=AY hi hv
def j6(v:Nat)(l:List AI)(a:Int):Int:=l.foldl (fun a y=>if a<vf y.g v then vf y.g v else a) a
theorem JY{v:Nat}:∀{l:List AI} {a:Int},a<=j6 v l a/\∀x∈l,vf x.g v<=j6 v l a
 |[],a=>⟨mZ _,fun x hx=>by cases hx⟩
 |y::l,a=>by
  obtain⟨h1,h2⟩:=JY (v:=v) (l:=l) (a:=if a<vf y.g v then vf y.g v else a);refine⟨?_,fun x hx=>?_⟩
  . show a<=j6 v l _;split at h1<;>rename_i h<;>simp only[h,if_true,if_false]<;>omega
  . rcases dY.1 hx with rfl|hx
    . show _<=j6 v l _;split at h1<;>rename_i h<;>simp only[h,if_true,if_false]<;>omega
    . exact h2 x hx
theorem Fg{v:Nat}:∀{l:List AI} {a:Int},j6 v l a=a\/∃x∈l,j6 v l a=vf x.g v
 |[],a=>.inl rfl
 |y::l,a=>by
  have e:j6 v (y::l) a=j6 v l (if a<vf y.g v then vf y.g v else a):=rfl;rw[e];rcases Fg (v:=v) (l:=l) (a:=if a<vf y.g v then vf y.g v else a)with h|⟨x,hx,h⟩
  . rw[h];split
    . exact .inr ⟨y,cK,rfl⟩
    . exact .inl rfl
  . exact .inr ⟨x,cH _ hx,h⟩
def dW(v:Nat)(l:List AI):Int:=j6 v l (vf (l.headD ⟨0,[]⟩).g v)
theorem Hu{v:Nat}{l:List AI}:∀x∈l,vf x.g v<=dW v l:=JY.2
theorem Ff{v:Nat}{l:List AI}(h:l≠[]):∃x∈l,dW v l=vf x.g v:=by
 cases l with
 |nil=>exact absurd rfl h
 |cons y r=>
  rcases Fg (v:=v) (l:=y::r) (a:=vf y.g v)with h|h
  . exact⟨y,cK,h⟩
  . exact h
def gK(v:Nat)(low:AI)(bR:List AI):Int:=(dW v bR*-vf low.g v-dW v bR- -vf low.g v).fdiv (dW v bR)
theorem wb{n v:Nat}{low:AI}{bR:List AI}(h:iE n bR)(h0:bR≠[])(hl:dl (vf low.g v)<=8):dl (gK v low bR)<=18:=by
 obtain⟨x,hx,e⟩:=Ff (v:=v) h0;have h1:=h.vf hx v;rw[<-e]at h1;have h2:=j5 (dW v bR) (-vf low.g v);rw[fR]at h2;have h3:=jG (K:=16) (a:=dW v bR*-vf low.g v) (b:=dW v bR) (by omega) (by omega);have h4:=jG (K:=17) (a:=dW v bR*-vf low.g v-dW v bR) (b:=-vf low.g v) (by omega) (by rw[fR];omega);exact bO (rE _ _) (by omega)
theorem xQ{n v:Nat}{low:AI}{bR:List AI}(h:iE n bR)(h0:bR≠[])(hll:low.g.length=n)(hl:dl (vf low.g v)<=8)(hv:v<n):Tm (fun N=>oE N (v:Int) low.to (mI bR)) (·=B (gK v low bR)):=by
 have hL:cX=1099511627776:=rfl;have hul:=h.1;have hlen:0<bR.length:=qN.2 h0;obtain⟨u0,r,hur⟩:∃u r,bR=u::r:=by
  cases bR with
  |nil=>exact absurd rfl h0
  |cons u r=>exact⟨u,r,rfl⟩
 have hmem0:u0∈bR:=by rw[hur];exact cK
 have hdl:∀k,dl (j6 v (bR.take k) (vf u0.g v))<=8:=fun k=>by
  rcases Fg (v:=v) (l:=bR.take k) (a:=vf u0.g v)with e|⟨x,hx,e⟩
  . rw[e];exact h.vf hmem0 v
  . rw[e];exact h.vf (ta hx) v
 unfold oE;refine aN (a:=u0.to) (by rw[hur];rfl) (aN (ei (l:=u0.g) (by rw[(h.2 _ hmem0).1];exact hv)) ?_);refine aU (a:=B (dW v bR)) (eL bR.length (fun k t=>t=(B (j6 v (bR.take k) (vf u0.g v)),(k:Int))) rfl ?_) ?_
 . rintro k hk _ rfl;dsimp only[Co];rw[eX];refine aY (fun hlt=>?_) (fun hge=>aM ?_)
   . have hlt:k<bR.length:=by omega
     have hm:=du hlt;have hstep:j6 v (bR.take (k+1)) (vf u0.g v)=if j6 v (bR.take k) (vf u0.g v)<vf (bR[k]).g v then vf (bR[k]).g v else j6 v (bR.take k) (vf u0.g v):=by
      unfold j6;rw[<-jV hlt,MF];rfl
     have hi:=ei (l:=(bR[k]).g) (k:=v) (by rw[(h.2 _ hm).1];exact hv);have hvk:=h.vf hm v;have hdk:=hdl k;refine aN (oV hlt) (aN hi (aU (kg (by omega) (by omega)) (aY (fun h1=>aN hi (aM ⟨hlt,?_⟩)) (fun h1=>aM ⟨hlt,?_⟩))))
     . rw[ep (by omega),hstep,if_pos (by unfold bM at h1;(repeat' split at h1)<;>omega)]
     . rw[ep (by omega),hstep,if_neg (by unfold bM at h1;(repeat' split at h1)<;>omega)]
   . show _=_;rw[fh (by omega)];unfold dW;rw[hur];rfl
 . dsimp only;have ha:dl (dW v bR)<=8:=by
    obtain⟨x,hx,e⟩:=Ff (v:=v) h0;rw[e];exact h.vf hx v
   have h2:=j5 (dW v bR) (-vf low.g v);rw[fR]at h2;have h3:=jG (K:=16) (a:=dW v bR*-vf low.g v) (b:=dW v bR) (by omega) (by omega);have h4:=jG (K:=17) (a:=dW v bR*-vf low.g v-dW v bR) (b:=-vf low.g v) (by omega) (by rw[fR];omega);refine aN (ei (l:=low.g) (by omega)) (aU (nu (by omega)) (aU (nB (by omega) (by rw[fR];omega)) (aU (l6 (by omega) (by omega)) (aU (l6 (by omega) (by rw[fR];omega)) (Tm.bind (qx (by omega) (by omega)) fun r hr=>aM ?_)))));rw[hr];rfl
theorem TC{s:St}{v:Nat}(hi:iE s.n s.items)(hv:v<s.n):Tm (fun N=>wg N s.to (v:Int)) (fun r=>(r.2=true↔∃x∈s.items,vf x.g v≠0)/\∃c,r.1=B c/\dl c<=cX):=by
 have hL:cX=1099511627776:=rfl;have hl:=hi.1;have hu:=(oy (v:=v) hi).1;have hw:=(w5 (v:=v) hi).1;have hex:(∃x∈s.items,vf x.g v≠0)↔cx v s.items≠[]\/dh v s.items≠[]:=by
  constructor
  . rintro⟨x,hx,h⟩;rcases tk h with h|h
    . exact .inr (Gj (gV.2 ⟨hx,h⟩))
    . exact .inl (Gj (j3.2 ⟨hx,h⟩))
  . rintro(h|h)
    . obtain⟨x,hx⟩:=Uy _ h;exact⟨x,(j3.1 hx).1,by have:=(j3.1 hx).2;omega⟩
    . obtain⟨x,hx⟩:=Uy _ h;exact⟨x,(gV.1 hx).1,by have:=(gV.1 hx).2;omega⟩
 have hul:∀{l:List AI},l≠[]↔l.length≠0:=fun{l}=>by rw[ne_eq,<-me]
 rw[hex,hul,hul];unfold wg;refine aU (AY hi hv) ?_;dsimp only;rw[eX,eX];refine aY (fun h0=>aM ⟨?_,0,B0.symm,by rw[ie];omega⟩) (fun h0=>?_)
 . rw[bK (by omega) (by omega)]at h0;exact⟨fun e=>(by cases e),fun e=>by omega⟩
 . rw[bK (by omega) (by omega)]at h0;refine Tm.bind (Q:=fun c=>c=decide ((cx v s.items).length=0\/(dh v s.items).length=0)) (aY (fun h=>aM ?_) (fun h=>aM ?_)) ?_
   . rw[decide_eq_true];omega
   . apply decide_eq_decide.2;omega
   rintro _ rfl;refine aY (fun h1=>aM ⟨?_,0,B0.symm,by rw[ie];omega⟩) (fun h1=>?_)
   . exact⟨fun _=>by omega,fun _=>rfl⟩
   . have h1:¬((cx v s.items).length=0\/(dh v s.items).length=0):=fun e=>h1 (decide_eq_true e);have hun:cx v s.items≠[]:=hul.2 (by omega);have hmul:((cx v s.items).length:Int)*((dh v s.items).length:Int)<=1073741824*1073741824:=ni (by omega) (by omega) (by omega) (by omega);have hmul0:0<=((cx v s.items).length:Int)*((dh v s.items).length:Int):=eH (by omega) (by omega);rw[bK (by omega) (by omega)];refine aU (jH (by omega) (by omega)) ?_;refine Tm.bind (Q:=fun r=>∃c,r=B c/\dl c<=cX) (eL (dh v s.items).length (fun k t=>∃c,t=(B c,(k:Int))/\dl c<=2+20*k) ⟨_,rfl,Dl (by omega)⟩ ?_) ?_
     . rintro k hk _ ⟨c,rfl,hc⟩;dsimp only[E7];rw[eX];refine aY (fun hlt=>?_) (fun hge=>aM ⟨c,rfl,by omega⟩);have hlt:k<(dh v s.items).length:=by omega
       have hm:=du hlt;have hlo:=(w5 (v:=v) hi);have hsd:=wb (low:=(dh v s.items)[k]) (oy (v:=v) hi) hun (hlo.vf hm v);refine Tm.bind (Q:=fun r=>∃c,r=B c/\dl c<=2+20*(k+1)) (aN (oV hlt) (aU (xQ (oy (v:=v) hi) hun (hlo.2 _ hm).1 (hlo.vf hm v) hv) (aU (jg (by omega)) (aY (fun h2=>?_) (fun h2=>aM ⟨c,rfl,by omega⟩))))) ?_
       . have h1000:dl 1000<=18:=bO (j2 (by decide)) (by decide);have ha:=oK hsd h1000;refine aU (jH (by decide) (by decide)) (aU (mC (by omega) (by omega)) (aU (nB (by omega) (by omega)) (aM ⟨_,rfl,?_⟩)));have:=j5 c (gK v (dh v s.items)[k] (cx v s.items)+1000);omega
       . rintro _ ⟨c',rfl,hc'⟩;exact aM ⟨hlt,c',by rw[ep (by omega)],hc'⟩
     . rintro _ ⟨c,rfl,hc⟩;exact aM ⟨⟨fun _=>by omega,fun _=>rfl⟩,c,rfl,hc⟩
theorem TO{s:St}(hi:iE s.n s.items)(hst:s.status.length=s.n)(hn:s.n<=512):Tm (fun N=>tN N s.to) (fun r=>(r.2=true/\∃v:Nat,r.1=(v:Int)/\v<s.n/\vf s.status v=0/\∃x∈s.items,vf x.g v≠0)\/(r.2=false/\∀v,v<s.n->vf s.status v=0->∀x∈s.items,vf x.g v=0)):=by
 have hL:cX=1099511627776:=rfl;unfold tN;refine Tm.bind (Q:=fun r=>(r.2=true/\∃v:Nat,r.1=(v:Int)/\v<s.n/\vf s.status v=0/\∃x∈s.items,vf x.g v≠0)\/(r.2=false/\∀v,v<s.n->vf s.status v=0->∀x∈s.items,vf x.g v=0))
  (eL s.n (fun k t=>t.2.2.2=(k:Int)/\(∃c,t.2.2.1=B c/\dl c<=cX)/\((t.2.1=true/\∃v:Nat,t.1=(v:Int)/\v<s.n/\vf s.status v=0/\∃x∈s.items,vf x.g v≠0)\/(t.2.1=false/\∀v,v<k->vf s.status v=0->∀x∈s.items,vf x.g v=0)))
   ⟨rfl,⟨0,B0.symm,by rw[ie];omega⟩,.inr ⟨rfl,fun v hv=>by omega⟩⟩ ?_) fun r hr=>aM hr
 rintro k hk ⟨b,f,l,i⟩ ⟨rfl,⟨c,rfl,hc⟩,hI⟩;dsimp only at hI;dsimp only[Cq];refine aY (fun hlt=>?_) (fun hge=>aM ?_)
 . have hlt:k<s.n:=by have:(k:Int)<(s.n:Int):=hlt;omega
   refine Tm.bind (Q:=fun r=>(∃c,r.2.2=B c/\dl c<=cX)/\((r.2.1=true/\∃v:Nat,r.1=(v:Int)/\v<s.n/\vf s.status v=0/\∃x∈s.items,vf x.g v≠0)\/(r.2.1=false/\∀v,v<k+1->vf s.status v=0->∀x∈s.items,vf x.g v=0))) (aN (Bi (l:=s.status) (by omega)) (aY (fun h1=>aM ⟨⟨c,rfl,hc⟩,?_⟩) (fun h1=>?_))) ?_
   . dsimp only;rcases hI with hI|⟨h2,h3⟩
     . exact .inl hI
     . refine .inr ⟨h2,fun v hv h0=>?_⟩;rcases cv v k with h4|h4
       . exact h3 v h4 h0
       . obtain rfl:v=k:=by omega
         exact absurd h0 h1
   . have h1:vf s.status k=0:=th.1 h1;refine Tm.bind (TC hi hlt) ?_;rintro⟨pc,ok⟩ ⟨hp,c',hc',hcl'⟩;dsimp only at hp hc'⊢;subst hc';refine Tm.bind (Q:=fun t=>(t=true->ok=true)/\(t=false->ok=true->f=true)) (aY (fun h2=>aY (fun h3=>aM ⟨fun _=>h2,fun e=>(by cases e)⟩) (fun h3=>aU (kg hcl' hc) (aM ⟨fun _=>h2,fun _ _=>by simpa using h3⟩))) (fun h2=>aM ⟨fun e=>(by cases e),fun _ e=>absurd e h2⟩)) ?_;rintro t ⟨ht1,ht2⟩;refine aY (fun h2=>aM ⟨⟨c',rfl,hcl'⟩,.inl ⟨rfl,k,rfl,hlt,h1,hp.1 (ht1 h2)⟩⟩) (fun h2=>aM ⟨⟨c,rfl,hc⟩,?_⟩);dsimp only;rcases hI with hI|⟨h3,h4⟩
     . exact .inl hI
     . refine .inr ⟨h3,fun v hv h0 x hx=>?_⟩;rcases cv v k with h5|h5
       . exact h4 v h5 h0 x hx
       . obtain rfl:v=k:=by omega
         refine jD fun e=>?_;have:=ht2 (by simpa using h2) (hp.2 ⟨x,hx,e⟩);rw[h3]at this;cases this
   . rintro⟨b',f',l'⟩ ⟨⟨c',hc',hcl'⟩,h2⟩;exact aM ⟨hlt,ep (by omega),⟨c',hc',hcl'⟩,h2⟩
 . have:k=s.n:=by have:¬(k:Int)<(s.n:Int):=hge;omega
   subst this;exact hI
theorem HI{l:List AI}{f:Nat->aX->Option Bool}{g:AI->Bool}(hl:l.length<=1073741824)(h:∀x∈l,Tm (fun N=>f N x.to) (·=g x)):Tm (fun N=>tw N (mI l) (f N)) (fun r=>(l.any g=false/\r=-1)\/∃k,∃hk:k<l.length,g l[k]=true/\(∀j (hj:j<k),g (l[j]'(by omega))=false)/\r=(k:Int)):=by
 unfold tw;refine Tm.bind (Tm.findL (b:=fun N=>xJ N (f N) (mI l)) l g (fun k=>(k:Int)) (by omega) ?_ ?_) ?_
 . intro k hk;dsimp only[xJ];refine cY (by rw[eX];omega) (aN (oV hk) (aU (h _ (du hk)) ?_));refine aY (fun h=>aM ?_) (fun h=>aM ?_)
   . simp[h]
   . simp[h]
 . dsimp only[xJ];exact cz (by rw[eX];omega) (aM rfl)
 . rintro _ (⟨h,rfl⟩|⟨k,hk,hg,hj,rfl⟩)
   . exact aM (.inl ⟨h,rfl⟩)
   . exact aM (.inr ⟨k,hk,hg,hj,rfl⟩)
def sq(s:St)(v:Nat):Prop:=cx v s.items=[]\/∀x∈dh v s.items,gK v x (cx v s.items)<0
theorem Nz{s:St}{v:Nat}(hi:iE s.n s.items)(hv:v<s.n):Tm (fun N=>uH N s.to (v:Int)) (fun r=>r=true↔sq s v):=by
 have hL:cX=1099511627776:=rfl;unfold uH;refine aU (AY hi hv) ?_;dsimp only;rw[eX];refine aY (fun h0=>aM ⟨fun _=>.inl (me.1 (by omega)),fun _=>rfl⟩) (fun h0=>?_);have hun:cx v s.items≠[]:=fun e=>h0 (by rw[e];rfl);have hlo:=w5 (v:=v) hi;refine aU (a:=(dh v s.items).any fun x=>decide (0<=gK v x (cx v s.items))) ?_ (aM ?_)
 . unfold Ad;refine Tm.bind (HI (f:=fun N y0=>tI N y0 (v:Int) (mI (cx v s.items))) (g:=fun x=>decide (0<=gK v x (cx v s.items))) hlo.1 fun x hx=>?_) ?_
   . unfold tI;refine aU (xQ (oy (v:=v) hi) hun (hlo.2 _ hx).1 (hlo.vf hx v) hv) (aU (jg (by have:=wb (low:=x) (oy (v:=v) hi) hun (hlo.vf hx v);omega)) (aM ?_));exact decide_eq_decide.2 Rh
   . rintro r (⟨h,rfl⟩|⟨k,hk,hg,-,rfl⟩)
     . exact aM (by rw[h];rfl)
     . exact aM (by rw[List.any_eq_true.2 ⟨_,du hk,hg⟩];simp)
 . rw[F4,Mv];unfold sq;constructor
   . exact fun h=>.inr fun x hx=>by have:=h x hx;simpa using this
   . rintro(h|h) x hx
     . exact absurd h hun
     . have:=h x hx;simpa using this
end Go.D
set_option maxHeartbeats 1000000
namespace Go.D
open Go Go.X
theorem HM{a b:List AI}(ha:a.length<=1073741824)(hb:b.length<=1073741824):Tm (fun N=>tA N [mI a,mI b]) (·=mI (a++b)):=by
 unfold tA;have hw:∀z:Int,0<=z->z<=4294967296->iw z=z:=fun z h1 h2=>bK (by omega) (by omega);have two:(0:Int)<(([mI a,mI b]:List (List aX)).length:Int):=by simp
 have two1:(1:Int)<(([mI a,mI b]:List (List aX)).length:Int):=by simp
 refine aU (a:=((a.length+b.length:Nat):Int)) ?_ ?_
 . refine eL 2 (fun k t=>(k=0->t=(0,0))/\(k=1->t=((a.length:Int),1))/\(k=2->t=(((a.length+b.length:Nat):Int),2))) ⟨fun _=>rfl,fun h=>(by omega),fun h=>(by omega)⟩ ?_;rintro k hk t ⟨h0,h1,h2⟩;rcases k with _|_|k
   . obtain rfl:=h0 rfl;dsimp only[xh];refine cY two (aN (a:=mI a) rfl ?_);rw[eX,hw _ (by omega) (by omega)];refine cz (by omega) (aM ⟨by omega,fun h=>by omega,fun _=>?_,fun h=>by omega⟩);rw[hw _ (by omega) (by omega)];simp
   . obtain rfl:=h1 rfl;dsimp only[xh];refine cY two1 (aN (a:=mI b) rfl ?_);rw[eX,hw _ (by omega) (by omega)];refine cz (by omega) (aM ⟨by omega,fun h=>by omega,fun h=>by omega,fun _=>?_⟩);rw[hw _ (by omega) (by omega)];simp
   . obtain rfl:k=0:=by omega
     obtain rfl:=h2 rfl;dsimp only[xh];exact cz (by simp) (aM rfl)
 . dsimp only;refine aU (a:=([]:List aX)) ?_ ?_
   . unfold yQ;rw[show iw (((a.length+b.length:Nat):Int)-iw (0-0))=((a.length+b.length:Nat):Int) by rw[show iw (0-0)=0 by decide,Gi];exact hw _ (by omega) (by omega)];refine cz (by omega) (aU (a:=([]:List aX)) (aY (fun h=>?_) (fun h=>aM rfl)) (aM rfl));rw[mc];refine aN (dQ (by simp only[dP,kJ];omega) (by decide)) ?_;refine aN (rO (m:=0) (n:=0) rfl rfl (by omega) (by omega)) (aM ?_);simp
   . refine aU (a:=mI (a++b)) (eL 2 (fun k t=>(k=0->t=(([]:List aX),(0:Int)))/\(k=1->t=(mI a,1))/\(k=2->t=(mI (a++b),2))) ⟨fun _=>rfl,fun h=>(by omega),fun h=>(by omega)⟩ ?_) (aM rfl);rintro k hk t ⟨h0,h1,h2⟩;rcases k with _|_|k
     . obtain rfl:=h0 rfl;dsimp only[wT];refine cY two (aN (a:=mI a) rfl (aN (dQ (by rw[eX];simp only[dP];omega) (by decide)) (aM ⟨by omega,fun h=>by omega,fun _=>?_,fun h=>by omega⟩)));rw[hw _ (by omega) (by omega)];simp
     . obtain rfl:=h1 rfl;dsimp only[wT];refine cY two1 (aN (a:=mI b) rfl (aN (dQ (by rw[eX,eX];omega) (by decide)) (aM ⟨by omega,fun h=>by omega,fun h=>by omega,fun _=>?_⟩)));rw[hw _ (by omega) (by omega)];simp[mI]
     . obtain rfl:k=0:=by omega
       obtain rfl:=h2 rfl;dsimp only[wT];exact cz (by simp) (aM rfl)
theorem Q5{l:List AI}{f:Nat->aX->Option Bool}{g:AI->Bool}(hl:l.length<=1073741824)(h:∀x∈l,Tm (fun N=>f N x.to) (·=g x)):Tm (fun N=>ye N (mI l) (f N)) (·=mI (l.filter fun x=>!g x)):=by
 unfold ye;refine Tm.bind (HI hl h) ?_;rintro r (⟨hany,rfl⟩|⟨k0,hk0,hg0,hbef,rfl⟩)
 . refine cY rfl (aM ?_);congr 1;rw[List.filter_eq_self.2];intro x hx;rw[Mv]at hany;have:=hany x hx;simpa using this
 . refine cz (by omega) ?_;have hfil0:(l.take (k0+1)).filter (fun x=>!g x)=l.take k0:=by
    rw[<-jV hk0,B7,List.filter_eq_self.2]
    . simp[hg0]
    . intro x hx;obtain⟨j,hj,rfl⟩:=nc hx;rw[fg]at hj;rw[List.getElem_take,hbef j (by omega)];rfl
   refine Tm.bind (Q:=fun t=>∃c:List aX,∃i:Nat,t=(c,(i:Int))/\c.length=l.length/\i<l.length/\c.take i=mI (l.filter fun x=>!g x))
    (Tm.wh (fun(k:Nat) (t:List aX×Int×Int)=>k0+1<=k/\k<=l.length/\∃c:List aX,∃i:Nat,t=(c,(i:Int),(k:Int))/\c.length=l.length/\i<k/\c.take i=mI ((l.take k).filter fun x=>!g x)/\c.drop k=mI (l.drop k)) (fun k=>l.length-k) (k0+1) ⟨bI _,hk0,mI l,k0,?_,eX l,by omega,?_,?_⟩ ?_) ?_
   . rw[ep (by omega)]
   . rw[hfil0];unfold mI;rw[List.map_take]
   . unfold mI;rw[MV]
   . rintro k _ ⟨hk1,hk2,c,i,rfl,hcl,hik,ht,hd⟩;dsimp only[CA];refine aY (fun hlt=>?_) (fun hge=>aM ?_)
     . have hlt:k<l.length:=by omega
       have hck:c[k]?=some (l[k]).to:=by
        have:=congrArg (fun z:List aX=>z[0]?) hd;simp only[sV,pH,mI,gM,bV hlt]at this;exact this
       refine Tm.bind (Q:=fun r=>∃c':List aX,∃i':Nat,r=(c',(i':Int))/\c'.length=l.length/\i'<k+1/\c'.take i'=mI ((l.take (k+1)).filter fun x=>!g x)/\c'.drop (k+1)=mI (l.drop (k+1))) (aN (kG hck) (aU (h _ (du hlt)) (aY (fun h1=>?_) (fun h1=>aM ⟨c,i,rfl,hcl,by omega,?_,?_⟩)))) ?_
       . have h1:g l[k]=false:=by simpa using h1
         refine aN (de (by omega)) (aN (ed rfl (by omega)) (aM ⟨c.set i (l[k]).to,i+1,by rw[ep (by omega)],by rw[iO];exact hcl,by omega,?_,?_⟩))
         . have e1:(c.set i (l[k]).to).take (i+1)=c.take i++[(l[k]).to]:=by
            rw[pI (by rw[iO];omega),yo (by omega),List.getElem_set_self]
           rw[e1,ht,<-jV hlt,B7];unfold mI;simp[h1]
         . rw[List.drop_set,if_pos (by omega)];have:=congrArg (List.drop 1) hd;rw[qL]at this;rw[this];unfold mI;rw[<-MV,qL]
       . have h1:g l[k]=true:=by simpa using h1
         rw[ht,<-jV hlt,B7];simp[h1]
       . have:=congrArg (List.drop 1) hd;rw[qL]at this;rw[this];unfold mI;rw[<-MV,qL]
       . rintro _ ⟨c',i',rfl,a1,a2,a3,a4⟩;exact aM ⟨k+1,⟨by omega,by omega,c',i',by rw[ep (by omega)],a1,a2,a3,a4⟩,by omega⟩
     . have:k=l.length:=by omega
       subst this;rw[fh (bI _)]at ht;exact⟨c,i,rfl,hcl,by omega,ht⟩
   . rintro _ ⟨c,i,rfl,hcl,hil,ht⟩;dsimp only;rw[Un (by omega) (bI _)];refine aN (a:=()) rfl ?_;have hcut:cut (qj c (i:Int) (c.length:Int) (aX.mk 0 [])) 0 (i:Int)=some (c.take i):=by
      have:=KQ (xs:=c) (l:=i) (h:=c.length) (z:=aX.mk 0 []) (by omega) (bI _);rw[rO (i:=0) (j:=(i:Int)) (m:=0) (n:=i) rfl rfl (by omega) (by omega),lC];unfold qj;rw[mc,qM (by rw[fg];omega),Mp];simp
     refine aN hcut (aM ht)
def comb(n v:Nat)(x y:AI):List Int:=vec n fun j=>-vf y.g v*vf x.g j+vf x.g v*vf y.g j
def mu(n v:Nat)(x y:AI):Act:=.put (comb n v x y) [⟨x.pos,-vf y.g v⟩,⟨y.pos,vf x.g v⟩]
def eG(s:St)(v:Nat)(dz:Bool):St:={s with status:=s.status.set v 2,items:=s.items.filter (fun x=>!decide (vf x.g v≠0)),stack:=s.stack++[⟨v,(cx v s.items++dh v s.items).map AI.pos,dz⟩]}
def pZ(n v:Nat)(bR lows:List AI)(k m:Nat):List Act:=((lows.drop m).map fun y=>mu n v (bR.getD k ⟨0,[]⟩) y)++(bR.drop (k+1)).flatMap fun x=>lows.map fun y=>mu n v x y
def cT(s:St)(v:Nat):List Act:=(cx v s.items).flatMap fun x=>(dh v s.items).map fun y=>mu s.n v x y
theorem QH{n v:Nat}{bR lows:List AI}{k:Nat}(h:k<bR.length):(bR.drop k).flatMap (fun x=>lows.map fun y=>mu n v x y)=pZ n v bR lows k 0:=by
 unfold pZ;rw[fx h,B6,lC,cy,bV h];rfl
theorem Rp{n v:Nat}{bR lows:List AI}{k m:Nat}(hk:k<bR.length)(h:m<lows.length):pZ n v bR lows k m=mu n v bR[k] lows[m]::pZ n v bR lows k (m+1):=by
 unfold pZ;rw[fx h,jT,BP,cy,bV hk];rfl
theorem P1{n v:Nat}{bR lows:List AI}{k:Nat}:pZ n v bR lows k lows.length=(bR.drop (k+1)).flatMap (fun x=>lows.map fun y=>mu n v x y):=by
 unfold pZ;rw[B4];rfl
theorem HQ{s:St}{v:Nat}:(cT s v).length=(cx v s.items).length*(dh v s.items).length:=by
 unfold cT;generalize cx v s.items=a;generalize dh v s.items=b
 induction a with
 |nil=>simp
 |cons x a ih=>rw[B6,db,ih,cN,cA,gL];omega
theorem HX{s:St}{v:Nat}{a:Act}:a∈cT s v↔∃x∈cx v s.items,∃y∈dh v s.items,a=mu s.n v x y:=by
 unfold cT;simp only[yw,dL];constructor
 . rintro⟨x,hx,y,hy,rfl⟩;exact⟨x,hx,y,hy,rfl⟩
 . rintro⟨x,hx,y,hy,rfl⟩;exact⟨x,hx,y,hy,rfl⟩
theorem Tg{K Kk:Nat}{s:St}{v:Nat}{dz:Bool}(hs:gu K s)(hv:v<s.n)(hst:s.status.length=s.n)(hstk:s.stack.length<=1000000)(hK:Kk+6<=K)(hA:∀a∈cT s v,kM Kk (eG s v dz) a)(hr:jf (cT s v).length (eG s v dz)):
 Tm (fun N=>nJ N s.to (v:Int) dz) (·=((bU (eG s v dz) (cT s v)).1,(bU (eG s v dz) (cT s v)).2.to)):=by
 have hL:cX=1099511627776:=rfl;have hi:iE s.n s.items:=⟨hs.il,fun x hx=>(hs.i x hx).2⟩;have hup:=oy (v:=v) hi;have hlo:=w5 (v:=v) hi;have hul:=hup.1;have hll:=hlo.1;have hn:=hs.n;unfold nJ;refine aU (AY hi hv) ?_;dsimp only;refine aU (HM hup.1 hlo.1) ?_;generalize hU:cx v s.items=U at*;generalize hW:dh v s.items=W at*;refine aU (a:=((U++W).map AI.pos).map Int.ofNat) (eL (U++W).length (fun k t=>t=((((U++W).take k).map AI.pos).map Int.ofNat,(k:Int))) rfl ?_) ?_
 . rintro k hk _ rfl;dsimp only[CP];rw[eX];refine aY (fun hlt=>?_) (fun hge=>aM ?_)
   . have hlt:k<(U++W).length:=by omega
     rw[db]at hlt;refine aN (oV (by rw[db];exact hlt)) (aN (dQ (by simp only[cN,fg,cA,dP,db];omega) (by decide)) (aM ⟨by rw[db];exact hlt,?_⟩));rw[ep (by omega),<-jV (by rw[db];exact hlt)];simp only[jU];rfl
   . show _=_;rw[fh (by omega)]
 refine aN (dQ (by show((s.stack.map AE.to).length+_)*_<=_;simp only[cN,cA,dP];omega) (by decide)) ?_;refine aN (Bi (l:=s.status) (by omega)) (aN (ed (xs:=s.status) rfl (by omega)) ?_);refine aU (a:=mI s.items) ?_ ?_
 . unfold qI;exact aN (dQ (by show(_+(mI s.items).length)*_<=_;rw[eX];have:=hs.il;simp only[dP];omega) (by decide)) (aM rfl)
 refine aU (Q5 (f:=fun N y0=>uG N y0 (v:Int)) (g:=fun x=>decide (vf x.g v≠0)) hs.il fun x hx=>?_) ?_
 . unfold uG;refine aN (ei (l:=x.g) (by rw[(hi.2 x hx).1];exact hv)) (aU (jg (bO (hi.vf hx v) (by decide))) (aM (decide_eq_decide.2 oT)))
 have hLU:cT s v=U.flatMap fun x=>W.map fun y=>mu s.n v x y:=by unfold cT;rw[hU,hW]
 have hdn:(eG s v dz).n=s.n:=rfl;have hok0:gu K (eG s v dz):=⟨hs.n,hs.kl,hs.sl,bO (te ..) hs.il,hs.k,fun x hx=>hs.i x (FO.1 hx).1,hs.K⟩;have hfirst:ij (eG s v dz)=(s.to.known,s.to.steps,s.to.u,s.status.set v 2,s.to.value,mI (s.items.filter fun x=>!decide (vf x.g v≠0)),s.to.stack++[dI.mk (v:Int) (((U++W).map AI.pos).map Int.ofNat) dz]):=by
  unfold ij eG;rw[hU,hW];unfold St.to;dsimp only;rw[jU];rfl
 refine Tm.bind (Q:=fun r=>(∃s',r=.inl (ij s')/\bU (eG s v dz) (cT s v)=(true,s')/\s'.n=s.n)\/r=.inr ((bU (eG s v dz) (cT s v)).1,(bU (eG s v dz) (cT s v)).2.to))
  (eL U.length (fun k t=>∃s' k',ig K (eG s v dz) (cT s v) k' s'/\(cT s v).drop k'=(U.drop k).flatMap (fun x=>W.map fun y=>mu s.n v x y)/\t=(s'.to.known,s'.to.steps,s'.to.u,s'.to.status,s'.to.value,s'.to.items,s'.to.stack,(k:Int))) ⟨eG s v dz,0,ig.first hok0 hr,by rw[lC,lC,hLU],?_⟩ ?_) ?_
 . have:=hfirst;unfold ij at this;simp only[ng]at this;obtain⟨a1,a2,a3,a4,a5,a6,a7⟩:=this;rw[a1,a2,a3,a4,a5,a6,a7];rfl
 . rintro k hk _ ⟨s',k',hvv,hd,rfl⟩;dsimp only[DL];rw[eX];refine aY (fun hlt=>?_) (fun hge=>aM ?_)
   . have hlt:k<U.length:=by omega
     rw[QH hlt]at hd;refine aN (oV hlt) ?_;have hxm:U[k]∈U:=du hlt;have hxl:=(hup.2 _ hxm).1;refine Tm.bind (Q:=fun r=>(∃s'' k'',r=.inl (ij s'')/\ig K (eG s v dz) (cT s v) k'' s''/\(cT s v).drop k''=(U.drop (k+1)).flatMap (fun x=>W.map fun y=>mu s.n v x y))\/r=.inr ((bU (eG s v dz) (cT s v)).1,(bU (eG s v dz) (cT s v)).2.to))
      (eL W.length (fun m t=>∃s'' k'',ig K (eG s v dz) (cT s v) k'' s''/\(cT s v).drop k''=pZ s.n v U W k m/\t=(s''.to.known,s''.to.steps,s''.to.u,s''.to.status,s''.to.value,s''.to.items,s''.to.stack,(m:Int))) ⟨s',k',hvv,hd,rfl⟩ ?_) ?_
     . rintro m hm _ ⟨s2,k2,hv2,hd2,rfl⟩;dsimp only[Em];rw[eX];refine aY (fun hlt2=>?_) (fun hge2=>aM ?_)
       . have hlt2:m<W.length:=by omega
         rw[Rp hlt hlt2]at hd2;have hk2l:k2<(cT s v).length:=by
          rcases cv k2 (cT s v).length with h1|h1
          . exact h1
          . rw[B2 h1]at hd2;cases hd2
         rw[fx hk2l]at hd2;obtain⟨e1,e2⟩:=vK hd2;have hym:W[m]∈W:=du hlt2;have hyl:=(hlo.2 _ hym).1;have dx:=fun j=>hup.vf hxm j;have dy:=fun j=>hlo.vf hym j;have hact:=hA _ (du hk2l);rw[e1]at hact;obtain⟨g1,g2,g3,g4⟩:=hv2.put hk2l e1 (K0:=Kk) hact hK;refine aN (oV hlt2) (aN (ei (l:=(U[k]).g) (by omega)) (aN (ei (l:=(W[m]).g) (by omega)) (aU (nu (bO (dy v) (by decide))) (aN (gW (n:=s.n) rfl (by omega) (by decide)) ?_))));rw[<-pf];refine aU (a:=mB (comb s.n v U[k] W[m])) ?_ ?_
         . refine(Tm.sG (n:=s.n) (by omega) (fun j=>-vf (W[m]).g v*vf (U[k]).g j+vf (U[k]).g v*vf (W[m]).g j) (by simp) (fin:=id) ?_ ?_)
           . intro j hj c hc hic;dsimp only[zX];have h1:=j5 (-vf (W[m]).g v) (vf (U[k]).g j);have h2:=j5 (vf (U[k]).g v) (vf (W[m]).g j);rw[fR]at h1;have:=dx j;have:=dx v;have:=dy j;have:=dy v;refine cY (by rw[dG,kJ];omega) (aN (ei (l:=(U[k]).g) (by omega)) (aU (nB (by rw[fR];omega) (by omega)) (aN (ei (l:=(W[m]).g) (by omega)) (aU (nB (by omega) (by omega)) (aU (mC (by omega) (by omega)) (aN hic (aN (ed rfl (by omega)) (aM rfl))))))))
           . intro c hc;dsimp only[zX];exact cz (by rw[dG,kJ];omega) (aM rfl)
         . have hns:s.to.n=s2.to.n:=by show(s.n:Int)=s2.n;rw[hv2.n];rfl
           rw[ir (x:=s2.to) hns];refine aU g1 ?_;have hns2:s.to.n=(put s2 (comb s.n v U[k] W[m]) [⟨(U[k]).pos,-vf (W[m]).g v⟩,⟨(W[m]).pos,vf (U[k]).g v⟩]).2.to.n:=by
            show(s.n:Int)=((put s2 _ _).2.n:Int);rw[g4];rfl
           refine aY (fun hf=>aM (.inr ?_)) (fun ht=>aM ⟨hlt2,_,k2+1,g2 (by simpa using ht),e2,by rw[ep (by omega)]⟩);dsimp only;rw[ir hns2,g3 (by simpa using hf)]
       . have:m=W.length:=by omega
         subst this;rw[P1]at hd2;exact .inl ⟨s2,k2,rfl,hv2,hd2⟩
     . rintro r (⟨s2,k2,rfl,h1,h2⟩|rfl)
       . exact aM ⟨hlt,s2,k2,h1,h2,by rw[ep (by omega)]⟩
       . exact aM (.inr rfl)
   . have:k=U.length:=by omega
     subst this;rw[B4]at hd;refine .inl ⟨s',rfl,?_,hvv.n⟩;rw[hvv.run,hd];rfl
 . rintro r (⟨s',rfl,h1,h2⟩|rfl)
   . refine aM ?_;show(true,aR.mk s.to.n s'.to.known s'.to.steps s'.to.u s'.to.status s'.to.value s'.to.items s'.to.stack)=_;rw[uF h2.symm,h1]
   . exact aM rfl
end Go.D

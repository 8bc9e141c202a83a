/- Plain theorems and definitions of this seat, several texts in one. -/
import Derived.Test.YtipdkfmhfakbnaaGreatDoorAd
import Derived.Test.YtipdkfmhfakbnaaGreatDoorAa
set_option linter.unusedVariables false
set_option linter.unusedSimpArgs false
set_option linter.unusedSectionVars false
namespace Go.D
open Go Go.X
def CG(N:Nat)(l:(List aB)):(Bool×(List Int)×Int)->Option (aK (Bool×(List Int)×Int) (Bool×(List Int)))
 |(b,c,a)=>(if(a:Int)<(List.length l:Int)then (idx l a).bind fun e=>(uy N (aB.mk b c) e).bind fun d=>some (aK.next (d.bF,d.aP,(iw (a+1)))) else some (aK.done (b,c)))
def xw(N:Nat)(l:(List aB)):Option aB:=(bH (CG N l) N (false,[],0)).bind fun ss=>match ss with
  |(a,b)=>some (aB.mk a b)
def zK(N:Nat)(l:(List aB)):((List aB)×Int)->Option (aK ((List aB)×Int) (List aB))
 |(b,a)=>(if(a:Int)<(List.length l:Int)then (idx l a).bind fun c=>(jr N c).bind fun d=>(idx b a).bind fun f=>(dh b a d).bind fun e=>some (aK.next (e,(iw (a+1)))) else some (aK.done b))
def mM(N:Nat)(l:(List aB)):Option (List aB):=(fX (α:=aB) 32 (aB.mk false []) (List.length l:Int)).bind fun x2=>(bH (zK N l) N (x2,0)).bind fun ss=>match ss with
  |a=>some a
def DK(N:Nat)(g:(List aB)):((List (List UInt8))×Int)->Option (aK ((List (List UInt8))×Int) (List (List UInt8)))
 |(b,a)=>(if(a:Int)<(List.length g:Int)then (idx g a).bind fun c=>(uM N c).bind fun d=>(cN 16 b [d]).bind fun e=>some (aK.next (e,(iw (a+1)))) else some (aK.done b))
def tY(N:Nat)(g:(List aB)):Option (List UInt8):=(bH (DK N g) N (([]:(List (List UInt8))),0)).bind fun ss=>match ss with
  |a=>(pW N a ([32]:List UInt8)).bind fun b=>some b
def Cs(N:Nat)(pa:Int)(bR:(List aX)):(aB×Int)->Option (aK (aB×Int) aB)
 |(b,a)=>(if(a:Int)<(List.length bR:Int)then (idx bR a).bind fun c=>(idx c.g pa).bind fun d=>(iJ N d b).bind fun e=>(if(e:Int)>0 then (idx c.g pa).bind fun f=>some (aK.next (f,(iw (a+1)))) else some (aK.next (b,(iw (a+1))))) else some (aK.done b))
def o5(N:Nat)(pa:Int)(low:aX)(bR:(List aX)):Option aB:=(idx bR 0).bind fun c=>(idx c.g pa).bind fun d=>(bH (Cs N pa bR) N (d,0)).bind fun ss=>match ss with
  |a=>(idx low.g pa).bind fun e=>(jr N e).bind fun b=>(km N a b).bind fun f=>(jb N f a).bind fun i=>(jb N i b).bind fun j=>(kz N j a).bind fun k=>some k.1
def Fb(N:Nat)(x:aX):(Int×Int×Int)->Option (aK (Int×Int×Int) (Int×Int))
 |(c,b,a)=>(if(a:Int)<(List.length x.g:Int)then (idx x.g a).bind fun d=>(gG N d).bind fun e=>(if(e:Int)≠0 then some (aK.next (a,(iw (b+1)),(iw (a+1)))) else some (aK.next (c,b,(iw (a+1))))) else some (aK.done (c,b)))
def uH(N:Nat)(x:aX):Option (Int×Bool):=(bH (Fb N x) N (0,0,0)).bind fun ss=>match ss with
  |(a,b)=>some (a,(decide ((b:Int)=1)))
def Bu(N:Nat)(pb:Int)(pc:Int)(r1:(List aX)):((List aX)×Int)->Option (aK ((List aX)×Int) (List aX))
 |(b,a)=>(if(a:Int)<(List.length r1:Int)then (idx b a).bind fun c=>(if(c.pos:Int)=pb then (idx b a).bind fun d=>(dh b a (aX.mk pc d.g)).bind fun e=>some (aK.next (e,(iw (a+1)))) else some (aK.next (b,(iw (a+1))))) else some (aK.done b))
def tM(N:Nat)(l:(List aX))(pb:Int)(pc:Int):Option (List aX):=(pV N l).bind fun r1=>(bH (Bu N pb pc r1) N (r1,0)).bind fun ss=>match ss with
  |a=>some a
def Bp(N:Nat)(n:Int)(pb:Int)(sign:Int)(bound:aB):Option bA:=(fX (α:=aB) 32 (aB.mk false []) n).bind fun a=>(fM N sign).bind fun b=>(idx a pb).bind fun d=>(dh a pb b).bind fun c=>some (bA.mk c bound)
def qB(N:Nat)(a:aB)(b:aB):Option Bool:=(iJ N a b).bind fun c=>some (decide ((c:Int)=0))
def p5(N:Nat)(x:aB):Option aB:= some (aB.mk false x.aP)
def uF(N:Nat)(x:aX)(ca:Int)(cb:(List aX)):Option Bool:=(o5 N ca x cb).bind fun r8=>(gG N r8).bind fun a=>some (decide ((a:Int)≥0))
def uA(N:Nat)(x:aX)(ca:Int):Option Bool:=(idx x.g ca).bind fun x7=>(gG N x7).bind fun a=>some (decide ((a:Int)≠0))
open Go Go.X
def dec(n:Nat):List UInt8:=if h:n=0 then[]else dec (n/10)++[UInt8.ofNat (48+n%10)]
termination_by n
decreasing_by omega
def qf(c:UInt8):Prop:=48<=c.toNat/\c.toNat<=57
instance (c:UInt8):Decidable (qf c):=inferInstanceAs (Decidable (_/\_))
def sS(s:List UInt8):Nat:=s.foldl (fun v c=>10*v+(c.toNat-48)) 0
theorem Pf(s:List UInt8)(c:UInt8):sS (s++[c])=10*sS s+(c.toNat-48):=by simp[sS,Nb]
theorem JY{r:Nat}(h:r<10):(UInt8.ofNat (48+r)).toNat=48+r:=by
 rw[UInt8.toNat_ofNat'];omega
theorem R9{r:Nat}(h:r<10):qf (UInt8.ofNat (48+r)):=by
 unfold qf;rw[JY h];omega
theorem ud:dec 0=[]:=by rw[dec];simp
theorem ue{n:Nat}(h:0<n):dec n=dec (n/10)++[UInt8.ofNat (48+n%10)]:=by
 rw[dec,dif_neg (by omega)]
theorem Ok{n:Nat}(h:0<n):dec n≠[]:=by rw[ue h];simp
theorem P3(n:Nat):sS (dec n)=n:=by
 induction n using Nat.strongRecOn with
 |ind n ih=>
  rcases gw n with rfl|h
  . rw[ud];rfl
  . rw[ue h,Pf,ih (n/10) (by omega),JY (by omega)];omega
theorem yN(n:Nat):∀c∈dec n,qf c:=by
 induction n using Nat.strongRecOn with
 |ind n ih=>
  rcases gw n with rfl|h
  . rw[ud];simp
  . rw[ue h];intro c hc;rcases fb.1 hc with hc|hc
    . exact ih (n/10) (by omega) c hc
    . rw[cI.1 hc];exact R9 (by omega)
theorem th{n:Nat}(h:0<n):Go.Lib.decDigits n=dec n:=by
 induction n using Nat.strongRecOn with
 |ind n ih=>
  rw[Go.Lib.decDigits];split
  . rename_i h10;rw[ue h,show n/10=0 by omega,ud,show n%10=n by omega];rfl
  . rw[ih (n/10) (by omega) (by omega),ue h]
theorem yW:Go.Lib.decDigits 0=[48]:=by rw[Go.Lib.decDigits,dif_pos (by omega)];rfl
def pad:Nat->Nat->List UInt8
 |0,_=>[]
 |k+1,r=>pad k (r/10)++[UInt8.ofNat (48+r%10)]
theorem Ll:∀{k q r:Nat},0<q->r<10^k->dec (q*10^k+r)=dec q++pad k r
 |0,q,r,h,hr=>by
  have:r=0:=by simpa using hr
  rw[this,pad];simp
 |k+1,q,r,h,hr=>by
  have hm:0<10^k:=Nat.pow_pos (by omega);have hq:0<q*10^k:=Nat.mul_pos h hm;have hpow:10^(k+1)=10*10^k:=by rw[Nat.pow_succ,Nat.mul_comm]
  have e:q*10^(k+1)=10*(q*10^k):=by rw[hpow,Nat.mul_left_comm]
  rw[e]at*;rw[ue (by omega),show(10*(q*10^k)+r)/10=q*10^k+r/10 by omega,show(10*(q*10^k)+r)%10=r%10 by omega,Ll h (by omega),pad,iq]
theorem Mz:∀{k:Nat},pad k 0=List.replicate k 48
 |0=>rfl
 |k+1=>by rw[pad,Mz,Gv];rfl
theorem Ec:∀{k r:Nat},0<k->r<10^k->(Go.Lib.decDigits r).length<=k
 |0,_,h,_=>by omega
 |k+1,r,_,hr=>by
  rw[Go.Lib.decDigits];split
  . simp
  . have hk:0<k:=by
     rcases gw k with rfl|h
     . simp at hr;omega
     . exact h
    have:=Ec (k:=k) (r:=r/10) hk (by rw[Nat.pow_succ]at hr;omega);simp;omega
theorem Ir:∀{k r:Nat},0<k->r<10^k->pad k r=List.replicate (k-(Go.Lib.decDigits r).length) 48++Go.Lib.decDigits r
 |0,_,h,_=>by omega
 |k+1,r,_,hr=>by
  rw[Go.Lib.decDigits,pad];split
  . rw[show r/10=0 by omega,Mz,show r%10=r by omega];simp
  . have hk:0<k:=by
     rcases gw k with rfl|h
     . simp at hr;omega
     . exact h
    rw[Ir (k:=k) hk (by rw[Nat.pow_succ]at hr;omega)];rw[cM,<-iq];congr 2;congr 1;show _=k+1-(_+1);omega
theorem repeatL_one:∀{c:Nat},Go.Lib.repeatL [48] c=List.replicate c (48:UInt8)
 |0=>rfl
 |c+1=>by rw[Go.Lib.repeatL,repeatL_one,qU];rfl
theorem PD:∀{xs:List (List UInt8)},Go.Lib.join xs []=xs.flatten
 |[]=>rfl
 |x::xs=>by
  rw[Go.Lib.join_cons,Go.Lib.joinTail];simp
def fk(v:Int):List UInt8:=if v<0 then 45::dec v.natAbs else Go.Lib.decDigits v.toNat
theorem va{v:Int}(h:v<0):fk v=45::dec v.natAbs:=by rw[fk,if_pos h]
theorem uG{v:Int}(h:0<v):fk v=dec v.toNat:=by rw[fk,if_neg (by omega),th (by omega)]
theorem xI:fk 0=[48]:=by rw[fk,if_neg (by omega)];exact yW
def body(s:List UInt8):List UInt8:=Go.Lib.trimPrefix s [45]
theorem Du{c:UInt8}{s:List UInt8}:body (c::s)=if c=45 then s else c::s:=by
 unfold body Go.Lib.trimPrefix Go.Lib.hasPrefix;by_cases h:c=45
 . subst h;rw[if_pos rfl,if_pos (by rfl)];rfl
 . rw[if_neg h,if_neg];intro e;have e1:([45]:List UInt8).isPrefixOf (c::s)=true:=e;rw[List.isPrefixOf_cons_cons]at e1;simp only[fG,beq_iff_eq]at e1;exact h e1.1.symm
theorem NB:body []=[]:=by
 unfold body Go.Lib.trimPrefix Go.Lib.hasPrefix;simp
theorem IA{c:UInt8}(h:qf c):c≠45:=by
 intro e;subst e;unfold qf at h;simp at h
theorem Pp(v:Int):body (fk v)=Go.Lib.decDigits v.natAbs:=by
 rcases tC v 0 with h|rfl|h
 . rw[va h,Du,if_pos rfl,th (by omega)]
 . rw[xI,Du,if_neg (by decide)];exact yW.symm
 . rw[uG h,th (by omega),show v.natAbs=v.toNat by omega];cases hd:dec v.toNat with
   |nil=>exact NB
   |cons c t=>rw[Du,if_neg (IA (yN v.toNat c (by rw[hd];exact cK)))]
theorem MC(n:Nat):Go.Lib.decDigits n≠[]:=by
 rcases gw n with rfl|h
 . rw[yW];simp
 . rw[th h];exact Ok h
theorem QZ(n:Nat):sS (Go.Lib.decDigits n)=n:=by
 rcases gw n with rfl|h
 . rw[yW];rfl
 . rw[th h];exact P3 n
def sval(s:List UInt8):Int:=if s.head?=some 45 then-(sS (body s):Int)else sS (body s)
theorem HY(v:Int):sval (fk v)=v:=by
 unfold sval;rw[Pp,QZ];rcases tC v 0 with h|rfl|h
 . rw[if_pos (by rw[va h];rfl)];omega
 . rw[if_neg (by rw[xI];decide)];rfl
 . rw[if_neg]
   . omega
   . rw[uG h];intro e;have:=yN v.toNat 45 (List.mem_of_head? e);exact IA this rfl
theorem Ee{B:Int}(hB:0<B){l:List Int}{v:Int}(h:Dg B l v):(List.length l:Int)>0↔v≠0:=by
 have:=h.zero hB;cases l with
 |nil=>
  have h0:=this.1 rfl;simp[h0]
 |cons x l=>
  have h0:v≠0:=fun e=>by have:=this.2 e;cases this
  simp only[cz];exact⟨fun _=>h0,fun _=>by omega⟩
theorem JR:aC^10<=(10:Int)^97:=by decide+kernel
theorem AV{n:Nat}(h:n<10^97):(dec n).length<=97:=by
 rcases gw n with rfl|h0
 . rw[ud];simp
 . rw[<-th h0];exact Ec (by omega) h
theorem Eb:∀{xs:List (List UInt8)},(∀p∈xs,p≠[])->xs.length<=xs.flatten.length
 |[],_=>by simp
 |x::xs,h=>by
  have h1:=Eb (xs:=xs) (fun p hp=>h p (cG _ hp));have h2:=h x cK;have:0<x.length:=qX.2 h2;simp at h1⊢;omega
theorem Ss{i:Int}{n:Nat}(h:i=(n:Int))(hn:n<18446744073709551616):Tm (fun N=>wg N i 10) (fun r=>r=Go.Lib.decDigits n):=
 ⟨_,0,rfl,fun N _=>by subst h;unfold wg;rw[if_pos ⟨by omega,by omega,rfl⟩,lJ]⟩
theorem Pb{i:Int}{n:Nat}(h:i=(n:Int))(hn:n<1000):Tm (fun N=>wh N [48] i) (fun r=>r=List.replicate n 48):=
 ⟨_,0,rfl,fun N _=>by subst h;unfold wh;rw[if_pos ⟨by omega,by omega,by simp only[cz,dM];omega⟩,lJ,repeatL_one]⟩
theorem Ti{xs:List (List UInt8)}(h:xs.length<=1000)(h':xs.flatten.length<=1000):Tm (fun N=>pW N xs []) (fun r=>r=xs.flatten):=
 ⟨_,0,rfl,fun N _=>by unfold pW;rw[PD,if_pos ⟨by omega,by omega⟩]⟩
theorem Rb{x:aB}(hd:bB aC x.aP)(hl:x.aP.length<=10):Tm (fun N=>uM N x) (fun r=>r=fk (bv x)):=by
 unfold uM;refine Tm.bind (o6 hd (by omega)) ?_;rintro y ⟨hy,hyl⟩;have hz:=hy.dg.zero (by decide);refine aY (fun h=>aS ?_) (fun h=>?_)
 . have:y.aP=[]:=mo.1 (by omega);have h0:bv x=0:=by have:=hz.1 this;omega
   rw[h0,xI]
 . have hne:y.aP≠[]:=fun e=>h (by rw[e];rfl);have h0:bv x≠0:=fun e=>hne (hz.2 (by omega));generalize hV:(bv x).natAbs=V at*;have hVlt:V<10^97:=by
    have h1:=ig (B:=aC) (by decide) hy.dg.bL;have h2:=j4 (B:=aC) (by decide) (show y.aP.length<=10 by omega);have h3:=JR;rw[hy.dg.val]at h1;have:(V:Int)<((10^97:Nat):Int):=by rw[Gz];omega
    exact Int.ofNat_lt.1 this
   refine Tm.bind (Q:=fun parts:List (List UInt8)=>parts.reverse.flatten=dec V/\∀p∈parts,p≠[])
    (Tm.loop (fun t:List (List UInt8)×List Int=>∃n:Nat,Dg aC t.2 n/\t.2.length<=10/\dec n++t.1.reverse.flatten=dec V/\∀p∈t.1,p≠[]) (fun t=>(val aC t.2).toNat)
     ⟨V,by rw[<-hV];exact hy.dg,by show y.aP.length<=10;omega,by simp,by simp⟩ ?_) ?_
   . rintro⟨parts,d⟩ ⟨n,hdn,hdl,hf,hp⟩;dsimp only[DL]at*;have hpl:parts.length<=97:=by
      have h1:=Eb (xs:=parts.reverse) (fun p hp'=>hp p (List.mem_reverse.1 hp'));have h2:=congrArg List.length hf;have h3:=AV hVlt;rw[cM]at h2;rw[Nl]at h1;omega
     refine aY (fun h=>?_) (fun h=>aS ?_)
     . have hn0:(n:Int)≠0:=(Ee (by decide) hdn).1 h;refine Tm.bind (I6 hdn.bL (by decide) (by decide) (by omega)) ?_;rintro⟨q,r⟩ ⟨hq1,hq2,hq3,hq4⟩;dsimp only at*;rw[hdn.val]at hq2 hq3;have hq2':val aC q=((n/1000000000:Nat):Int):=by rw[hq2];omega
       have hr':r=((n%1000000000:Nat):Int):=by rw[hq3];omega
       refine Tm.bind (oV hq1 (by omega)) ?_;rintro d' ⟨hd',hdl'⟩;rw[hq2']at hd';have hpos:=Ee (by decide) hd';have hlt:n%1000000000<10^9:=by omega
       have hdl9:=Ec (k:=9) (by omega) hlt;have huw:uw r=((n%1000000000:Nat):Int):=by rw[hr'];exact gJ (by omega) (by omega)
       refine Tm.bind (Ss huw (by omega)) ?_;rintro _ rfl;have hμ:(val aC d').toNat<(val aC d).toNat:=by rw[hd'.val,hdn.val];omega
       refine Tm.bind (Q:=fun s=>s≠[]/\dec n=dec (n/1000000000)++s) (aY (fun h=>?_) (fun h=>aS ?_)) ?_
       . have hc:iw (9-((Go.Lib.decDigits (n%1000000000)).length:Int))=((9-(Go.Lib.decDigits (n%1000000000)).length:Nat):Int):=by rw[bJ]<;>omega
         refine Tm.bind (Pb hc (by omega)) ?_;rintro _ rfl;refine aN (xn (by rw[gZ];omega)) (aS ⟨?_,?_⟩)
         . intro e;exact MC _ (Gc.1 e).2
         . rw[<-Ir (by omega) hlt,<-Ll (by have:=hpos.1 h;omega) hlt];congr 1;omega
       . have hq0:n/1000000000=0:=by
          rcases gw (n/1000000000)with h1|h1
          . exact h1
          . exact absurd (hpos.2 (by omega)) h
         refine⟨MC _,?_⟩;rw[hq0,ud,show n%1000000000=n by omega,th (by omega)];rfl
       . rintro s ⟨hs1,hs2⟩;refine aN (dP (by simp only[cz,dM];omega) (by decide)) (aS ⟨⟨n/1000000000,hd',by show d'.length<=10;omega,?_,?_⟩,hμ⟩)
         . rw[<-hf,hs2];simp
         . intro p hp';rcases fb.1 hp' with h1|h1
           . exact hp p h1
           . rw[cI.1 h1];exact hs1
     . have hn0:n=0:=by
        rcases gw n with h1|h1
        . exact h1
        . exact absurd ((Ee (by decide) hdn).2 (by omega)) h
       rw[hn0,ud]at hf;exact⟨by simpa using hf,hp⟩
   . rintro parts ⟨hf,hp⟩;have hlen:parts.length<=97:=by
      have h1:=Eb (xs:=parts.reverse) (fun p hp'=>hp p (List.mem_reverse.1 hp'));have h3:=AV hVlt;rw[hf,Nl]at h1;omega
     refine Tm.bind (Q:=fun ps:List (List UInt8)=>ps.reverse.flatten=fk (bv x)/\ps.length<=98) (aY (fun h=>?_) (fun h=>aS ?_)) ?_
     . refine aN (dP (by simp only[cz,dM];omega) (by decide)) (aS ⟨?_,by simp;omega⟩);have:bv x<0:=by rw[hy.neg]at h;simpa using h
       rw[va this,Nn,hV,<-hf];rfl
     . have:¬bv x<0:=by rw[hy.neg]at h;simpa using h
       rw[uG (by omega),hf,show(bv x).toNat=V by omega];exact⟨rfl,by omega⟩
     . rintro ps ⟨h1,h2⟩;have h3:(fk (bv x)).length<=98:=by
        have h3:=AV hVlt;rcases tC (bv x) 0 with h|h|h
        . rw[va h,cz,hV];omega
        . exact absurd h h0
        . rw[uG h,show(bv x).toNat=V by omega];omega
       refine aT (a:=ps.reverse) ⟨_,0,rfl,fun N _=>by unfold xt;rw[if_pos (by omega)]⟩ ?_;refine Tm.bind (Ti (by rw[Nl];omega) (by rw[h1];omega)) ?_;rintro _ rfl;exact aS h1
theorem L0{v w:Int}(h:fk v=fk w):v=w:=by rw[<-HY v,h,HY]
theorem zI(v:Int):∀c∈fk v,c≠32:=by
 intro c hc e;subst e;have key:∀{l:List UInt8},(∀c∈l,qf c)->(32:UInt8)∈l->False:=fun h h'=>by have:=h _ h';unfold qf at this;simp at this
 rcases tC v 0 with h|rfl|h
 . rw[va h]at hc;rcases dT.1 hc with h1|h1
   . cases h1
   . exact key (yN _) h1
 . rw[xI]at hc;simp at hc
 . rw[uG h]at hc;exact key (yN _) hc
theorem Ka{v:Int}(h:dl v<=10):(fk v).length<=98:=by
 have h1:=tE v;have h2:=Fy h;have h3:=JR;have hV:v.natAbs<10^97:=by
  have:(v.natAbs:Int)<((10^97:Nat):Int):=by rw[Gz];omega
  exact Int.ofNat_lt.1 this
 have h4:=AV hV;rcases tC v 0 with h|rfl|h
 . rw[va h,cz];omega
 . rw[xI];decide
 . rw[uG h,show v.toNat=v.natAbs by omega];omega
theorem Tp{v:Int}(h:dl v<=10):Tm (fun N=>uM N (B v)) (·=fk v):=(Rb (bL v) h).mono fun r h=>by rw[gz]at h;exact h
def keyOf(g:List Int):List UInt8:=Go.Lib.join (g.map fk) [32]
theorem AZ:∀{x y T U:List UInt8},(∀c∈x,c≠32)->(∀c∈y,c≠32)->(∀c,T.head?=some c->c=32)->(∀c,U.head?=some c->c=32)->x++T=y++U->x=y/\T=U
 |[],[],T,U,_,_,_,_,h=>⟨rfl,h⟩
 |[],d::y,T,U,_,hy,hT,_,h=>by
  have:T.head?=some d:=by rw[show T=d::y++U from h];rfl
  exact absurd (hT d this) (hy d cK)
 |c::x,[],T,U,hx,_,_,hU,h=>by
  have:U.head?=some c:=by rw[show U=c::x++T from h.symm];rfl
  exact absurd (hU c this) (hx c cK)
 |c::x,d::y,T,U,hx,hy,hT,hU,h=>by
  have h:c::(x++T)=d::(y++U):=h;obtain⟨e1,e2⟩:=vT h;subst e1;obtain⟨rfl,h2⟩:=AZ (fun c hc=>hx c (cG _ hc)) (fun c hc=>hy c (cG _ hc)) hT hU e2;exact⟨rfl,h2⟩
theorem BE{r:List (List UInt8)}:∀c,(Go.Lib.joinTail [32] r).head?=some c->c=32:=by
 intro c h;cases r with
 |nil=>cases h
 |cons x r=>simp[Go.Lib.joinTail]at h;exact h.symm
theorem MM:∀{g h:List Int},g.length=h.length->Go.Lib.joinTail [32] (g.map fk)=Go.Lib.joinTail [32] (h.map fk)->g=h
 |[],[],_,_=>rfl
 |v::g,w::h,hl,e=>by
  have e:(32:UInt8)::(fk v++Go.Lib.joinTail [32] (g.map fk))=32::(fk w++Go.Lib.joinTail [32] (h.map fk)):=by simpa[Go.Lib.joinTail]using e
  obtain⟨h1,h2⟩:=AZ (zI v) (zI w) BE BE (vT e).2;rw[L0 h1,MM (by simpa using hl) h2]
theorem IJ{g h:List Int}(hl:g.length=h.length)(e:keyOf g=keyOf h):g=h:=by
 cases g with
 |nil=>cases h with
  |nil=>rfl
  |cons w h=>cases hl
 |cons v g=>
  cases h with
  |nil=>cases hl
  |cons w h=>
   unfold keyOf at e;rw[jY,jY,Go.Lib.join_cons,Go.Lib.join_cons]at e;obtain⟨h1,h2⟩:=AZ (zI v) (zI w) BE BE e;rw[L0 h1,MM (by simpa using hl) h2]
theorem LC:∀{g:List Int},(∀v∈g,dl v<=10)->(Go.Lib.joinTail [32] (g.map fk)).length<=99*g.length
 |[],_=>by simp[Go.Lib.joinTail]
 |v::g,h=>by
  have h1:=LC (g:=g) fun w hw=>h w (cG _ hw);have h2:=Ka (h v cK);have e:Go.Lib.joinTail [32] ((v::g).map fk)=(32:UInt8)::(fk v++Go.Lib.joinTail [32] (g.map fk)):=by simp[Go.Lib.joinTail]
  rw[e,cz,cM,cz];omega
theorem N5{g:List Int}(h:∀v∈g,dl v<=10):(keyOf g).length<=99*g.length:=by
 cases g with
 |nil=>simp[keyOf,Go.Lib.join_nil]
 |cons v g=>
  have h1:=LC (g:=g) fun w hw=>h w (cG _ hw);have h2:=Ka (h v cK);unfold keyOf;rw[jY,Go.Lib.join_cons,cM,cz];omega
theorem Ig{g:List Int}(hl:g.length<=1000)(h:∀v∈g,dl v<=10):Tm (fun N=>tY N (g.map B)) (·=keyOf g):=by
 unfold tY;refine aT (a:=g.map fk) (eG g.length (fun k s=>s.2=(k:Int)/\s.1=(g.take k).map fk) ⟨rfl,rfl⟩ ?_) ?_
 . rintro k hk ⟨l,i⟩ ⟨rfl,rfl⟩;dsimp only[DK];rw[cP];refine aY (fun hlt=>?_) (fun hge=>aL ?_)
   . have hlt:k<g.length:=by omega
     refine aN (dd (by rw[cP];exact hlt)) ?_;rw[kO];refine aT (Tp (h _ (dt hlt))) (aN (dP (by simp only[cz,dM,cP,e9];omega) (by decide)) (aL ⟨hlt,dW (by omega),?_⟩));show _=(g.take (k+1)).map fk;rw[<-jt hlt,jJ];rfl
   . show _=_;rw[eV (by omega)]
 . have:=N5 h;refine aT (a:=keyOf g) ⟨_,0,rfl,fun N _=>?_⟩ (aL rfl);show pW N (g.map fk) [32]=some (keyOf g);unfold pW;rw[if_pos ⟨by rw[cP];omega,by show(keyOf g).length<=_;omega⟩];rfl
open Go Go.X
def lV(N:Nat)(s:aR)(x:aX):Option aB:=(idx s.known x.pos).bind fun x1=>some x1.dz
def yn(N:Nat)(s:aR)(x:aX):Option aB:=(idx s.known x.pos).bind fun x1=>some x1.dz
def xa(N:Nat)(Coefs138:(List aB))(b:bA)(c:dQ):((List aB)×Int)->Option (aK ((List aB)×Int) (List aB))
 |(Coefs375,a)=>(if(a:Int)<(List.length Coefs138:Int)then (idx Coefs375 a).bind fun d=>(idx b.aZ a).bind fun e=>(km N c.N e).bind fun f=>(ja N d f).bind fun g=>(idx Coefs375 a).bind fun j=>(dh Coefs375 a g).bind fun i=>some (aK.next (i,(iw (a+1)))) else some (aK.done Coefs375))
def y7(N:Nat)(s:aR)(cE:(List dQ)):((List aB)×aB×Int)->Option (aK ((List aB)×aB×Int) ((List aB)×aB))
 |(Coefs138,Bound139,a)=>(if(a:Int)<(List.length cE:Int)then (idx cE a).bind fun b=>(idx s.known b.Index).bind fun c=>(bH (xa N Coefs138 c b) N (Coefs138,0)).bind fun ss=>match ss with
    |Coefs397=>(km N b.N c.dz).bind fun d=>(ja N Bound139 d).bind fun e=>some (aK.next (Coefs397,e,(iw (a+1)))) else some (aK.done (Coefs138,Bound139)))
def xM(N:Nat)(d:aB)(Coefs280:(List aB)):((List aB)×Int)->Option (aK ((List aB)×Int) (List aB))
 |(Coefs434,a)=>(if(a:Int)<(List.length Coefs280:Int)then (idx Coefs434 a).bind fun b=>(kz N b d).bind fun c=>(idx Coefs434 a).bind fun f=>(dh Coefs434 a c.1).bind fun e=>some (aK.next (e,(iw (a+1)))) else some (aK.done Coefs434))
def qu(N:Nat)(s:aR)(cE:(List dQ))(d:aB):Option bA:=(fX (α:=aB) 32 (aB.mk false ([]:(List Int))) s.n).bind fun x1=>(bH (y7 N s cE) N (x1,(aB.mk false ([]:(List Int))),0)).bind fun ss=>match ss with
  |(Coefs280,Bound281)=>(bH (xM N d Coefs280) N (Coefs280,0)).bind fun ss=>match ss with
    |Coefs452=>(kz N Bound281 d).bind fun a=>some (bA.mk Coefs452 a.1)
def xT(N:Nat)(g:(List aB))(d6:aB):((List aB)×Int)->Option (aK ((List aB)×Int) (List aB))
 |(b,a)=>(if(a:Int)<(List.length g:Int)then (idx g a).bind fun c=>(kz N c d6).bind fun d=>(idx b a).bind fun f=>(dh b a d.1).bind fun e=>some (aK.next (e,(iw (a+1)))) else some (aK.done b))
def rU(N:Nat)(s:aR)(g:(List aB))(cE:(List dQ)):Option (aX×Bool×Bool×aR):=(xw N g).bind fun r1=>(gG N r1).bind fun r2=>((((if¬((r2:Int)≠0)then (fM N 1).bind fun j=>some j else some r1)):Option aB)).bind fun ss=>match ss with
  |d6=>(fM N 1).bind fun a=>((((if((List.length cE:Int):Int)>1 then some true else (idx cE 0).bind fun k=>(iJ N k.N a).bind fun l=>(if(l:Int)≠0 then some true else (iJ N d6 a).bind fun m=>some (decide ((m:Int)≠0))))):Option Bool)).bind fun ss=>match ss with
    |o=>((((if o=true then (cN 56 s.steps [(Step.mk cE d6)]).bind fun f=>(qu N (aR.mk s.n s.known f s.u s.status s.value s.items s.stack) cE d6).bind fun p=>(cN 56 s.known [p]).bind fun i=>some (i,f,[(dQ.mk (iw ((List.length i:Int)-1)) a)]) else some (s.known,s.steps,cE))):Option ((List bA)×(List Step)×(List dQ)))).bind fun ss=>match ss with
      |(b,c,v)=>(idx v 0).bind fun d=>(fX (α:=aB) 32 (aB.mk false ([]:(List Int))) s.n).bind fun y=>(bH (xT N g d6) N (y,0)).bind fun ss=>match ss with
        |e=>(if(r2:Int)≠0 then some ((aX.mk d.Index e),(decide ((r2:Int)≠0)),true,(aR.mk s.n b c s.u s.status s.value s.items s.stack)) else (lV N (aR.mk s.n b c s.u s.status s.value s.items s.stack) (aX.mk d.Index e)).bind fun a0=>(gG N a0).bind fun a1=>some ((aX.mk d.Index e),(decide ((r2:Int)≠0)),(decide ((a1:Int)≥0)),(aR.mk s.n b c s.u s.status s.value s.items s.stack)))
def Af(N:Nat)(s:aR)(x:aX):Int->Option (aK Int (Sum Unit aR))
 |a=>(if(a:Int)<(List.length s.items:Int)then (idx s.items a).bind fun b=>(xi N x.g b.g (fun y0 y1=>qB N y0 y1)).bind fun c=>(if c=true then (lV N s x).bind fun d=>(lV N s b).bind fun e=>(iJ N d e).bind fun f=>(if(f:Int)<0 then (idx s.items a).bind fun j=>(dh s.items a x).bind fun i=>some (aK.done (Sum.inr (aR.mk s.n s.known s.steps s.u s.status s.value i s.stack))) else some (aK.done (Sum.inr s))) else some (aK.next (iw (a+1)))) else some (aK.done (Sum.inl ())))
def kR(N:Nat)(s:aR)(x:aX):Option aR:=(bH (Af N s x) N 0).bind fun ss=>match ss with
  |(Sum.inl _)=>(cN 32 s.items [x]).bind fun a=>some (aR.mk s.n s.known s.steps s.u s.status s.value a s.stack)
  |(Sum.inr z)=>some z
def mK(N:Nat)(s:aR)(g:(List aB))(cE:(List dQ)):Option (Bool×aR):=(rU N s g cE).bind fun r1=>((((if r1.2.1=true then (kR N (aR.mk s.n r1.2.2.2.known r1.2.2.2.steps r1.2.2.2.u r1.2.2.2.status r1.2.2.2.value r1.2.2.2.items r1.2.2.2.stack) r1.1).bind fun a=>some (a.known,a.steps,a.u,a.status,a.value,a.items,a.stack) else some (r1.2.2.2.known,r1.2.2.2.steps,r1.2.2.2.u,r1.2.2.2.status,r1.2.2.2.value,r1.2.2.2.items,r1.2.2.2.stack))):Option ((List bA)×(List Step)×(List (List aB))×(List Int)×(List aB)×(List aX)×(List dJ)))).bind fun ss=>match ss with
  |(known5,steps6,u7,status8,value9,b,c)=>some (r1.2.2.1,(aR.mk s.n known5 steps6 u7 status8 value9 b c))
def F8(N:Nat)(s:aR):((List bA)×(List Step)×(List (List aB))×(List Int)×(List aB)×(List aX)×(List dJ)×Int)->Option (aK ((List bA)×(List Step)×(List (List aB))×(List Int)×(List aB)×(List aX)×(List dJ)×Int) (Sum ((List bA)×(List Step)×(List (List aB))×(List Int)×(List aB)×(List aX)×(List dJ)) (Bool×aR)))
 |(c,d,e,f,g,i,j,b)=>(if(b:Int)<(List.length s.known:Int)then (idx c b).bind fun k=>(nF N k.aZ).bind fun l=>(fM N 1).bind fun m=>(mK N (aR.mk s.n c d e f g i j) l [(dQ.mk b m)]).bind fun a=>(if(!a.1)=true then some (aK.done (Sum.inr (false,(aR.mk s.n a.2.known a.2.steps a.2.u a.2.status a.2.value a.2.items a.2.stack)))) else some (aK.next (a.2.known,a.2.steps,a.2.u,a.2.status,a.2.value,a.2.items,a.2.stack,(iw (b+1))))) else some (aK.done (Sum.inl (c,d,e,f,g,i,j))))
def vm(N:Nat)(s:aR):Option (Bool×aR):=(bH (F8 N s) N (s.known,s.steps,s.u,s.status,s.value,s.items,s.stack,0)).bind fun ss=>match ss with
  |(Sum.inl (a,b,c,d,e,f,g))=>some (true,(aR.mk s.n a b c d e f g))
  |(Sum.inr z)=>some z
def EF(N:Nat)(s:aR):((List ((List UInt8)×Int))×Int)->Option (aK ((List ((List UInt8)×Int))×Int) (List ((List UInt8)×Int)))
 |(b,a)=>(if(a:Int)<(List.length s.items:Int)then (idx s.items a).bind fun c=>(tY N c.g).bind fun d=>some (aK.next ((j1 b d a),(iw (a+1)))) else some (aK.done b))
def DI(N:Nat)(s:aR)(b:(List ((List UInt8)×Int))):Int->Option (aK Int (Sum Unit (Int×Int×Bool×Bool×aR)))
 |c=>(if(c:Int)<(List.length s.items:Int)then ((((idx s.items c).bind fun e=>(mM N e.g).bind fun i=>(tY N i).bind fun d=>((((if(!(fy b d 0).2)=true then some true else some (decide ((((fy b d 0).1):Int)<c)))):Option Bool)).bind fun ss=>match ss with
    |j=>(if j=true then some (Sum.inl ()) else (lV N s e).bind fun k=>(idx s.items ((fy b d 0).1)).bind fun l=>(lV N s l).bind fun m=>(ja N k m).bind fun o=>(gG N o).bind fun f=>(if(f:Int)=(-1)then (fX (α:=aB) 32 (aB.mk false ([]:(List Int))) s.n).bind fun p=>(fM N 1).bind fun v=>(idx s.items ((fy b d 0).1)).bind fun y=>(fM N 1).bind fun a0=>(mK N s p [(dQ.mk e.pos v),(dQ.mk y.pos a0)]).bind fun a=>some (Sum.inr (0,0,false,false,(aR.mk s.n a.2.known a.2.steps a.2.u a.2.status a.2.value a.2.items a.2.stack))) else (if(f:Int)=0 then some (Sum.inr (c,(fy b d 0).1,true,true,s)) else some (Sum.inl ()))))):Option (Sum Unit (Int×Int×Bool×Bool×aR)))).bind fun ss=>match ss with
    |(Sum.inl _)=>some (aK.next (iw (c+1)))
    |(Sum.inr z)=>some (aK.done (Sum.inr z)) else some (aK.done (Sum.inl ())))
def uo(N:Nat)(s:aR):Option (Int×Int×Bool×Bool×aR):=(bH (EF N s) N (([]:(List ((List UInt8)×Int))),0)).bind fun ss=>match ss with
  |a=>(bH (DI N s a) N 0).bind fun ss=>match ss with
    |(Sum.inl _)=>some (0,0,false,true,s)
    |(Sum.inr z)=>some z
def ma(N:Nat)(l:(List aB))(c0:Int)(c1:aB)(c2:Int):Option (List aB):=(nF N l).bind fun r1=>(idx r1 c0).bind fun x2=>(idx r1 c2).bind fun x3=>(km N c1 x3).bind fun r4=>(jb N x2 r4).bind fun r5=>(idx r1 c0).bind fun x6=>(dh r1 c0 r5).bind fun x7=>some x7
def l7(N:Nat)(l:(List aB))(c0:Int):Option (List aB):=(nF N l).bind fun r1=>(idx r1 c0).bind fun x2=>(jr N x2).bind fun r3=>(idx r1 c0).bind fun x4=>(dh r1 c0 r3).bind fun x5=>some x5
def zx(N:Nat)(s:aR)(j:Int)(p:Int)(q:aB):((List (List aB))×Int)->Option (aK ((List (List aB))×Int) (List (List aB)))
 |(b,a)=>(if(a:Int)<(List.length s.u:Int)then (idx b a).bind fun c=>((fun y0=>ma N y0 j q p) c).bind fun d=>(idx b a).bind fun f=>(dh b a d).bind fun e=>some (aK.next (e,(iw (a+1)))) else some (aK.done b))
def zy(N:Nat)(s:aR)(j:Int)(p:Int)(q:aB):((List aX)×Int)->Option (aK ((List aX)×Int) (List aX))
 |(b,a)=>(if(a:Int)<(List.length s.items:Int)then (idx b a).bind fun c=>((fun y0=>ma N y0 j q p) c.g).bind fun d=>(idx b a).bind fun e=>(dh b a (aX.mk e.pos d)).bind fun f=>some (aK.next (f,(iw (a+1)))) else some (aK.done b))
def wj(N:Nat)(s:aR)(j:Int)(p:Int)(q:aB):Option aR:=(bH (zx N s j p q) N (s.u,0)).bind fun ss=>match ss with
  |a=>(bH (zy N s j p q) N (s.items,0)).bind fun ss=>match ss with
    |b=>some (aR.mk s.n s.known s.steps a s.status s.value b s.stack)
def zA(N:Nat)(s:aR)(p:Int):((List (List aB))×Int)->Option (aK ((List (List aB))×Int) (List (List aB)))
 |(b,a)=>(if(a:Int)<(List.length s.u:Int)then (idx b a).bind fun c=>((fun y0=>l7 N y0 p) c).bind fun d=>(idx b a).bind fun f=>(dh b a d).bind fun e=>some (aK.next (e,(iw (a+1)))) else some (aK.done b))
def zg(N:Nat)(s:aR)(p:Int):((List aX)×Int)->Option (aK ((List aX)×Int) (List aX))
 |(b,a)=>(if(a:Int)<(List.length s.items:Int)then (idx b a).bind fun c=>((fun y0=>l7 N y0 p) c.g).bind fun d=>(idx b a).bind fun e=>(dh b a (aX.mk e.pos d)).bind fun f=>some (aK.next (f,(iw (a+1)))) else some (aK.done b))
def wP(N:Nat)(s:aR)(p:Int):Option aR:=(bH (zA N s p) N (s.u,0)).bind fun ss=>match ss with
  |a=>(bH (zg N s p) N (s.items,0)).bind fun ss=>match ss with
    |b=>some (aR.mk s.n s.known s.steps a s.status s.value b s.stack)
def zp(N:Nat)(b:aX):(Int×Int)->Option (aK (Int×Int) Int)
 |(c,a)=>(if(a:Int)<(List.length b.g:Int)then (((((((idx b.g a).bind fun d=>(gG N d).bind fun e=>(if(e:Int)≠0 then (if(c:Int)<0 then some true else (idx b.g a).bind fun f=>((fun y0=>p5 N y0) f).bind fun i=>(idx b.g c).bind fun j=>((fun y0=>p5 N y0) j).bind fun k=>(iJ N i k).bind fun l=>some (decide ((l:Int)<0))) else some false)):Option Bool)).bind fun ss=>match ss with
    |m=>(if m=true then some a else some c)):Option Int)).bind fun ss=>match ss with
    |n=>some (aK.next (n,(iw (a+1)))) else some (aK.done c))
def zn(N:Nat)(s:aR)(i:Int)(d:aX)(e:Int):((List bA)×(List Step)×(List (List aB))×(List Int)×(List aB)×(List aX)×(List dJ)×Bool×Int)->Option (aK ((List bA)×(List Step)×(List (List aB))×(List Int)×(List aB)×(List aX)×(List dJ)×Bool×Int) ((List bA)×(List Step)×(List (List aB))×(List Int)×(List aB)×(List aX)×(List dJ)×Bool))
 |(f,j,k,l,m,c,o,p,b)=>(if(b:Int)<(List.length d.g:Int)then (((((((if(b:Int)≠e then (idx c i).bind fun v=>(idx v.g b).bind fun y=>(gG N y).bind fun a0=>some (decide ((a0:Int)≠0)) else some false)):Option Bool)).bind fun ss=>match ss with
    |a1=>(if a1=true then (idx d.g b).bind fun a2=>(idx d.g e).bind fun a3=>(kz N a2 a3).bind fun a4=>(wj N (aR.mk s.n f j k l m c o) b e a4.1).bind fun a=>some (a.known,a.steps,a.u,a.status,a.value,a.items,a.stack,false) else some (f,j,k,l,m,c,o,p))):Option ((List bA)×(List Step)×(List (List aB))×(List Int)×(List aB)×(List aX)×(List dJ)×Bool))).bind fun ss=>match ss with
    |(a5,a6,a7,a8,a9,aa,ab,ac)=>some (aK.next (a5,a6,a7,a8,a9,aa,ab,ac,(iw (b+1)))) else some (aK.done (f,j,k,l,m,c,o,p)))
def zv(N:Nat)(s:aR)(i:Int):((List bA)×(List Step)×(List (List aB))×(List Int)×(List aB)×(List aX)×(List dJ))->Option (aK ((List bA)×(List Step)×(List (List aB))×(List Int)×(List aB)×(List aX)×(List dJ)) (Int×aR))
 |(p,v,y,a0,a1,o,a2)=>(idx o i).bind fun c=>(bH (zp N c) N ((-1),0)).bind fun ss=>match ss with
   |b=>(bH (zn N s i c b) N (p,v,y,a0,a1,o,a2,true,0)).bind fun ss=>match ss with
     |(d,e,f,j,k,l,m,a3)=>(if a3=true then (idx c.g b).bind fun a4=>(gG N a4).bind fun a5=>((((if(a5:Int)<0 then (wP N (aR.mk s.n d e f j k l m) b).bind fun a=>some (a.known,a.steps,a.u,a.status,a.value,a.items,a.stack) else some (d,e,f,j,k,l,m))):Option ((List bA)×(List Step)×(List (List aB))×(List Int)×(List aB)×(List aX)×(List dJ)))).bind fun ss=>match ss with
        |(a6,a7,a8,a9,aa,ab,ac)=>some (aK.done (b,(aR.mk s.n a6 a7 a8 a9 aa ab ac))) else some (aK.next (d,e,f,j,k,l,m)))
def xK(N:Nat)(s:aR)(i:Int):Option (Int×aR):=(bH (zv N s i) N (s.known,s.steps,s.u,s.status,s.value,s.items,s.stack)).bind fun ss=>match ss with
  |z=>some z
def D3(N:Nat)(s:aR)(i:Int)(j:Int)(r1:(Int×aR))(x2:aX)(x3:aX):((List bA)×(List Step)×(List (List aB))×(List Int)×(List aB)×(List aX)×(List dJ)×Int)->Option (aK ((List bA)×(List Step)×(List (List aB))×(List Int)×(List aB)×(List aX)×(List dJ)×Int) (Sum ((List bA)×(List Step)×(List (List aB))×(List Int)×(List aB)×(List aX)×(List dJ)) (Bool×aR)))
 |(d,e,f,k,l,m,o,c)=>(if(c:Int)<(List.length r1.2.items:Int)then ((((idx r1.2.items c).bind fun p=>((((if(c:Int)=i then some true else some (decide ((c:Int)=j)))):Option Bool)).bind fun ss=>match ss with
    |a0=>(if a0=true then some (Sum.inl (d,e,f,k,l,m,o)) else (idx p.g r1.1).bind fun v=>(gG N v).bind fun a1=>(if(a1:Int)=0 then (kR N (aR.mk s.n d e f k l m o) p).bind fun b=>some (Sum.inl (b.known,b.steps,b.u,b.status,b.value,b.items,b.stack)) else (nF N p.g).bind fun y=>(idx y r1.1).bind fun ae=>(dh y r1.1 (aB.mk false ([]:(List Int)))).bind fun a2=>(gG N v).bind fun a3=>((((if(a3:Int)<0 then (jr N v).bind fun a4=>some (dQ.mk x2.pos a4) else some (dQ.mk x3.pos v))):Option dQ)).bind fun ss=>match ss with
        |a5=>(fM N 1).bind fun a6=>(mK N (aR.mk s.n d e f k l m o) a2 [(dQ.mk p.pos a6),a5]).bind fun a=>(if(!a.1)=true then some (Sum.inr (false,(aR.mk s.n a.2.known a.2.steps a.2.u a.2.status a.2.value a.2.items a.2.stack))) else some (Sum.inl (a.2.known,a.2.steps,a.2.u,a.2.status,a.2.value,a.2.items,a.2.stack)))))):Option (Sum ((List bA)×(List Step)×(List (List aB))×(List Int)×(List aB)×(List aX)×(List dJ)) (Bool×aR)))).bind fun ss=>match ss with
    |(Sum.inl (a7,a8,a9,aa,ab,ac,ad))=>some (aK.next (a7,a8,a9,aa,ab,ac,ad,(iw (c+1))))
    |(Sum.inr z)=>some (aK.done (Sum.inr z)) else some (aK.done (Sum.inl (d,e,f,k,l,m,o))))
def rG(N:Nat)(s:aR)(i:Int)(j:Int):Option (Bool×aR):=(xK N s i).bind fun r1=>(idx r1.2.items i).bind fun x2=>(idx r1.2.items j).bind fun x3=>(lV N (aR.mk s.n r1.2.known r1.2.steps r1.2.u r1.2.status r1.2.value r1.2.items r1.2.stack) x2).bind fun r4=>(idx r1.2.status r1.1).bind fun x5=>(dh r1.2.status r1.1 1).bind fun x6=>(idx r1.2.value r1.1).bind fun x7=>(dh r1.2.value r1.1 r4).bind fun x8=>(bH (D3 N s i j r1 x2 x3) N (r1.2.known,r1.2.steps,r1.2.u,x6,x8,([]:(List aX)),r1.2.stack,0)).bind fun ss=>match ss with
  |(Sum.inl (a,b,c,d,e,f,g))=>some (true,(aR.mk s.n a b c d e f g))
  |(Sum.inr z)=>some z
def Fa(N:Nat)(s:aR)(y:(List aB))(a:Int):((List aB)×Int)->Option (aK ((List aB)×Int) (List aB))
 |(b,c)=>(if(c:Int)<(List.length y:Int)then (idx b a).bind fun d=>(idx s.u a).bind fun e=>(idx e c).bind fun f=>(idx y c).bind fun g=>(km N f g).bind fun i=>(ja N d i).bind fun j=>(idx b a).bind fun l=>(dh b a j).bind fun k=>some (aK.next (k,(iw (c+1)))) else some (aK.done b))
def zX(N:Nat)(s:aR)(y:(List aB))(x1:(List aB)):((List aB)×Int)->Option (aK ((List aB)×Int) (List aB))
 |(b,a)=>(if(a:Int)<(List.length x1:Int)then (bH (Fa N s y a) N (b,0)).bind fun ss=>match ss with
    |c=>some (aK.next (c,(iw (a+1)))) else some (aK.done b))
def qP(N:Nat)(s:aR)(y:(List aB)):Option (List aB):=(fX (α:=aB) 32 (aB.mk false ([]:(List Int))) s.n).bind fun x1=>(bH (zX N s y x1) N (x1,0)).bind fun ss=>match ss with
  |a=>some a
open Go Go.X
structure AQ where
 c:List Int
 b:Int
structure AI where
 pos:Nat
 g:List Int
structure AU where
 ix:Nat
 n:Int
structure AS where
 cE:List AU
 d:Int
structure AE where
 v:Nat
 items:List Nat
 dA:Bool
structure St where
 n:Nat
 known:List AQ
 steps:List AS
 u:List (List Int)
 status:List Int
 value:List Int
 items:List AI
 stack:List AE
def mB(l:List Int):List aB:=l.map B
def AQ.to(q:AQ):bA:=⟨mB q.c,B q.b⟩
def AI.to(x:AI):aX:=⟨x.pos,mB x.g⟩
def AU.to(u:AU):dQ:=⟨u.ix,B u.n⟩
def AS.to(s:AS):Step:=⟨s.cE.map AU.to,B s.d⟩
def AE.to(e:AE):dJ:=⟨e.v,e.items.map Int.ofNat,e.dA⟩
def St.to(s:St):aR:=⟨s.n,s.known.map AQ.to,s.steps.map AS.to,s.u.map mB,s.status,mB s.value,s.items.map AI.to,s.stack.map AE.to⟩
theorem iL{x:aR}{n:Int}(h:n=x.n):aR.mk n x.known x.steps x.u x.status x.value x.items x.stack=x:=by subst h;rfl
theorem dE(l:List Int):(mB l).length=l.length:=cP ..
theorem Cr{l:List Int}{k:Nat}(h:k<(mB l).length):(mB l)[k]=B (l[k]'(by rwa[dE]at h)):=kO ..
theorem LN{l:List Int}{k:Nat}(h:k<l.length):idx (mB l) (k:Int)=some (B l[k]):=by
 rw[dd (by rw[dE];exact h),Cr]
theorem uz{l:List Int}{k:Nat}{v:Int}:(mB l).set k (B v)=mB (l.set k v):=by unfold mB;rw[Ce]
theorem o8{n:Nat}:mB (List.replicate n 0)=List.replicate n ⟨false,[]⟩:=by unfold mB;rw[List.map_replicate,B0]
def vf(l:List Int)(j:Nat):Int:=l.getD j 0
theorem kB{l:List Int}{j:Nat}(h:j<l.length):vf l j=l[j]:=by unfold vf;rw[cy,bV h];rfl
theorem mL{l:List Int}{j:Nat}(h:l.length<=j):vf l j=0:=by unfold vf;rw[cy,fP h];rfl
theorem ej{l:List Int}{k:Nat}(h:k<l.length):idx (mB l) (k:Int)=some (B (vf l k)):=by rw[LN h,kB h]
def vec(n:Nat)(f:Nat->Int):List Int:=(List.range n).map f
theorem fh{n:Nat}{f:Nat->Int}:(vec n f).length=n:=by simp[vec]
theorem dK{n j:Nat}{f:Nat->Int}(h:j<n):vf (vec n f) j=f j:=by rw[kB (by rw[fh];exact h)];simp[vec]
theorem Jf{n:Nat}{f g:Nat->Int}(h:∀j,j<n->f j=g j):vec n f=vec n g:=Ci fun j hj=>h j (pP.1 hj)
theorem l8{a b:List Int}(hl:a.length=b.length)(h:∀j,j<a.length->vf a j=vf b j):a=b:=by
 apply pR hl;intro i h1 h2;rw[<-kB h1,<-kB h2];exact h i h1
theorem gm{l:List Int}{v:Int}(h:v∈l):∃j,j<l.length/\vf l j=v:=by
 obtain⟨j,hj,rfl⟩:=nk h;exact⟨j,hj,kB hj⟩
theorem fU{l:List Int}{j:Nat}(h:j<l.length):vf l j∈l:=by rw[kB h];exact dt h
theorem jR{l:List Int}{k j:Nat}{v:Int}(h:k<l.length):vf (l.set k v) j=if k=j then v else vf l j:=by
 unfold vf;rw[cy,cy,qS];by_cases e:k=j
 . subst e;simp[h]
 . simp[e]
theorem Tm.fill{α ρ:Type}{n:Nat}(hn:n<=9223372036854775806){c0:List α}(F:Nat->α)(h0:c0.length=n){body:Nat->List α×Int->Option (aK (List α×Int) ρ)}{fin:List α->ρ}
 (step:∀k,k<n->∀c:List α,c.length=n->c[k]?=c0[k]?->Tm (fun N=>body N (c,(k:Int))) (·=.next (c.set k (F k),iw ((k:Int)+1))))
 (stop:∀c:List α,c.length=n->Tm (fun N=>body N (c,(n:Int))) (·=.done (fin c))):
 Tm (fun N=>bH (body N) N (c0,0)) (·=fin ((List.range n).map F)):=by
 refine eG n (fun k s=>s.2=(k:Int)/\s.1.length=n/\(∀j,j<k->s.1[j]?=some (F j))/\∀j,k<=j->s.1[j]?=c0[j]?) ⟨rfl,h0,fun j hj=>by omega,fun j _=>rfl⟩ ?_;rintro k hk ⟨c,i⟩ ⟨rfl,hc,h1,h2⟩;dsimp only at hc h1 h2;rcases cw k n with hlt|hge
 . refine(step k hlt c hc (h2 k (bK _))).mono fun t ht=>?_;subst ht;refine⟨hlt,dW (by omega),by rw[iS];exact hc,fun j hj=>?_,fun j hj=>?_⟩
   . show(c.set k (F k))[j]?=_;rw[qS];by_cases e:k=j
     . subst e;simp[hc,hlt]
     . rw[if_neg e];exact h1 j (by omega)
   . show(c.set k (F k))[j]?=_;rw[qS,if_neg (by omega)];exact h2 j (by omega)
 . obtain rfl:k=n:=by omega
   refine(stop c hc).mono fun t ht=>?_;subst ht;show fin c=_;congr 1;apply pN;intro j;rcases cw j k with hj|hj
   . rw[h1 j hj];simp[hj]
   . rw[fP (by omega),fP (by simp;omega)]
theorem Tm.rA{ρ:Type}{n:Nat}(hn:n<=9223372036854775806){c0:List Int}(F:Nat->Int)(h0:c0.length=n){body:Nat->List aB×Int->Option (aK (List aB×Int) ρ)}{fin:List aB->ρ}
 (step:∀k,k<n->∀c:List aB,c.length=n->idx c (k:Int)=some (B (vf c0 k))->Tm (fun N=>body N (c,(k:Int))) (·=.next (c.set k (B (F k)),iw ((k:Int)+1))))
 (stop:∀c:List aB,c.length=n->Tm (fun N=>body N (c,(n:Int))) (·=.done (fin c))):
 Tm (fun N=>bH (body N) N (mB c0,0)) (·=fin (mB (vec n F))):=by
 have:=Tm.fill hn (c0:=mB c0) (fun j=>B (F j)) (by rw[dE,h0]) (body:=body) (fin:=fin) (fun k hk c hc h=>step k hk c hc (by rw[CS,h,<-CS];exact ej (by omega))) stop;refine this.mono fun r hr=>?_;rw[hr];unfold mB vec;rw[mq];rfl
def df:List Int->Nat
 |[]=>0
 |x::l=>Int.gcd x (df l)
theorem rE:∀{l:List Int} {x:Int},x∈l->((df l:Nat):Int)∣x
 |y::l,x,h=>by
  rcases dT.1 h with rfl|h
  . exact Int.gcd_dvd_left ..
  . exact Int.dvd_trans (Int.gcd_dvd_right ..) (rE h)
theorem pF:∀{l:List Int} {d:Int},(∀x∈l,d∣x)->d∣((df l:Nat):Int)
 |[],d,_=>by simp[df]
 |y::l,d,h=>by
  have h1:=h y cK;have h2:=pF (l:=l) fun x hx=>h x (cG _ hx);exact Int.dvd_coe_gcd h1 h2
theorem Kx{l:List Int}(h:df l=0):∀x∈l,x=0:=fun x hx=>by
 have:=rE hx;rw[h]at this;exact Int.zero_dvd.1 this
theorem Ol{a:Int}{b:Nat}{K:Nat}(h:dl a<=K)(h':dl b<=K):dl (Int.gcd a b:Nat)<=K:=by
 rcases tC a 0 with h1|h1|h1
 . exact bO (rz (by have:=Nat.le_of_dvd (by omega) (Nat.gcd_dvd_left a.natAbs b);show((Int.gcd a b:Nat):Int).natAbs<=_;rw[No];exact this)) h
 . subst h1;rw[Int.zero_gcd];exact h'
 . exact bO (rz (by have:=Nat.le_of_dvd (by omega) (Nat.gcd_dvd_left a.natAbs b);show((Int.gcd a b:Nat):Int).natAbs<=_;rw[No];exact this)) h
theorem ur:∀{l:List Int} {K:Nat},(∀v∈l,dl v<=K)->dl (df l:Nat)<=K
 |[],K,_=>by show dl 0<=K;rw[ie];omega
 |x::l,K,h=>Ol (h x cK) (ur fun v hv=>h v (cG _ hv))
theorem GQ{l:List Int}{k:Nat}(h:k<l.length):Int.gcd (df (l.take k):Nat) l[k]=df (l.take (k+1)):=by
 have key:∀(a:List Int) (x:Int),df (a++[x])=Int.gcd (df a:Nat) x:=by
  intro a x
  induction a with
  |nil=>show Int.gcd x (0:Nat)=Int.gcd (0:Nat) x;rw[Int.gcd_comm]
  |cons y a ih=>
   show Int.gcd y (df (a++[x]):Nat)=Int.gcd (Int.gcd y (df a:Nat):Nat) x;rw[ih,Int.gcd_assoc]
 rw[<-jt h,key]
theorem NX{l:List Int}{K:Nat}(hK:K<=cZ)(hl:l.length<=9223372036854775806)(h:∀v∈l,dl v<=K):Tm (fun N=>xw N (mB l)) (·=B (df l:Nat)):=by
 unfold xw;refine aT (a:=((B (df l:Nat)).bF,(B (df l:Nat)).aP)) (eG l.length (fun k s=>s.2.2=(k:Int)/\s.1=(B (df (l.take k):Nat)).bF/\s.2.1=(B (df (l.take k):Nat)).aP) ⟨rfl,by show false=(B 0).bF;rw[B0],by show[]=(B 0).aP;rw[B0]⟩ ?_) (aL rfl);rintro k hk ⟨a,b,i⟩ ⟨rfl,rfl,rfl⟩;dsimp only[CG];rw[dE];refine aY (fun hlt=>?_) (fun hge=>aL ?_)
 . have hlt:k<l.length:=by omega
   refine aN (LN hlt) (aT (tmGcd (a:=(df (l.take k):Nat)) (b:=l[k]) (bO (ur fun v hv=>h v (tu hv)) hK) (bO (h _ (dt hlt)) hK)) (aL ⟨hlt,dW (by omega),?_,?_⟩))
   . dsimp only;rw[GQ]
   . dsimp only;rw[GQ]
 . show _=_;rw[eV (by omega)]
theorem rM{l:List Int}{K:Nat}(hK:K<=cZ)(hl:l.length<=1073741824)(h:∀v∈l,dl v<=K):Tm (fun N=>mM N (mB l)) (·=mB (vec l.length fun j=>-vf l j)):=by
 unfold mM;refine aN (gN (n:=l.length) (by rw[dE]) (by omega) (by decide)) ?_;rw[show(aB.mk false ([]:List Int))=B 0 from B0.symm,show List.replicate l.length (B 0)=mB (List.replicate l.length 0) by rw[o8,B0]];refine aT (Tm.rA (n:=l.length) (by omega) (fun j=>-vf l j) (by simp) (fin:=id) ?_ ?_) (aL rfl)
 . intro k hk c hc hi;dsimp only[zK];refine db (by rw[dE];omega) (aN (ej hk) (aT (n5 (bO (h _ (fU hk)) hK)) (aN hi (aN (dV rfl (by omega)) (aL rfl)))))
 . intro c hc;dsimp only[zK];exact cA (by rw[dE];omega) (aL rfl)
def bT(l:List Int):List Int:=vec l.length fun j=>-vf l j
theorem iX(l:List Int):(bT l).length=l.length:=fh
theorem ir{l:List Int}{j:Nat}:vf (bT l) j=-vf l j:=by
 rcases cw j l.length with h|h
 . exact dK h
 . rw[mL (by rw[iX];exact h),mL h];rfl
theorem C7{l:List Int}{v:Int}(h:v∈bT l):-v∈l:=by
 obtain⟨j,hj,rfl⟩:=gm h;rw[ir,Int.neg_neg];exact fU (by rwa[iX]at hj)
theorem Fp(l:List Int):bT (bT l)=l:=l8 (by rw[iX,iX]) fun j _=>by rw[ir,ir,Int.neg_neg]
def aI(kn:List AQ)(i:Nat):AQ:=kn.getD i ⟨[],0⟩
theorem tP{kn:List AQ}{i:Nat}(h:i<kn.length):aI kn i=kn[i]:=by unfold aI;rw[cy,bV h];rfl
theorem iF{kn e:List AQ}{i:Nat}(h:i<kn.length):aI (kn++e) i=aI kn i:=by
 unfold aI;rw[cy,cy,jW h]
theorem oL{kn:List AQ}{q:AQ}:aI (kn++[q]) kn.length=q:=by
 unfold aI;rw[cy];simp
theorem eL{kn:List AQ}{i:Nat}(h:i<kn.length):aI kn i∈kn:=by rw[tP h];exact dt h
theorem nt{kn:List AQ}{i:Nat}(h:i<kn.length):idx (kn.map AQ.to) (i:Int)=some (aI kn i).to:=by
 rw[dd (by simpa using h),kO,tP h]
theorem re{s:St}{x:AI}(h:x.pos<s.known.length):Tm (fun N=>lV N s.to x.to) (·=B (aI s.known x.pos).b):=by
 unfold lV;exact aN (nt h) (aL rfl)
theorem Ix{s:St}{x:AI}(h:x.pos<s.known.length):Tm (fun N=>yn N s.to x.to) (·=B (aI s.known x.pos).b):=re h
def eb(kn:List AQ):List AU->Nat->Int
 |[],_=>0
 |u::us,j=>u.n*vf (aI kn u.ix).c j+eb kn us j
def gg(kn:List AQ):List AU->Int
 |[]=>0
 |u::us=>u.n*(aI kn u.ix).b+gg kn us
theorem Hn{kn:List AQ}{u:AU}{j:Nat}:∀{us:List AU},eb kn (us++[u]) j=eb kn us j+u.n*vf (aI kn u.ix).c j
 |[]=>by show u.n*vf (aI kn u.ix).c j+0=0+_;omega
 |v::us=>by show _+eb kn (us++[u]) j=_+_+_;rw[Hn];omega
theorem Ib{kn:List AQ}{u:AU}:∀{us:List AU},gg kn (us++[u])=gg kn us+u.n*(aI kn u.ix).b
 |[]=>by show u.n*(aI kn u.ix).b+0=0+_;omega
 |v::us=>by show _+gg kn (us++[u])=_+_+_;rw[Ib];omega
def fD(K:Nat)(q:AQ):Prop:=(∀v∈q.c,dl v<=K)/\dl q.b<=K
theorem fD.vf{K:Nat}{q:AQ}(h:fD K q)(j:Nat):dl (vf q.c j)<=K:=by
 rcases cw j q.c.length with hj|hj
 . exact h.1 _ (fU hj)
 . rw[mL hj,ie];omega
theorem fD.mono{K K':Nat}{q:AQ}(h:fD K q)(hK:K<=K'):fD K' q:=⟨fun v hv=>bO (h.1 v hv) hK,bO h.2 hK⟩
def lQ(n K:Nat)(kn:List AQ)(u:AU):Prop:=u.ix<kn.length/\0<=u.n/\dl u.n<=4/\fD K (aI kn u.ix)/\(aI kn u.ix).c.length=n
theorem zV{n K:Nat}{kn:List AQ}{j:Nat}:∀{us:List AU},(∀u∈us,lQ n K kn u)->dl (eb kn us j)<=K+4+us.length
 |[],_=>by show dl 0<=_;rw[ie];omega
 |u::us,h=>by
  have h1:=h u cK;have h2:=zV (j:=j) (us:=us) fun v hv=>h v (cG _ hv);have h3:=j6 u.n (vf (aI kn u.ix).c j);have h4:=h1.2.2.2.1.vf j;have h5:=h1.2.2.1;have:=oO (K:=K+4+us.length) (a:=u.n*vf (aI kn u.ix).c j) (b:=eb kn us j) (by omega) h2;show dl (_+_)<=_;rw[cz];omega
theorem A5{n K:Nat}{kn:List AQ}:∀{us:List AU},(∀u∈us,lQ n K kn u)->dl (gg kn us)<=K+4+us.length
 |[],_=>by show dl 0<=_;rw[ie];omega
 |u::us,h=>by
  have h1:=h u cK;have h2:=A5 (us:=us) fun v hv=>h v (cG _ hv);have h3:=j6 u.n (aI kn u.ix).b;have h4:=h1.2.2.2.1.2;have h5:=h1.2.2.1;have:=oO (K:=K+4+us.length) (a:=u.n*(aI kn u.ix).b) (b:=gg kn us) (by omega) h2;show dl (_+_)<=_;rw[cz];omega
def mH(n:Nat)(kn:List AQ)(us:List AU)(d:Int):AQ:=⟨vec n fun j=>eb kn us j/d,gg kn us/d⟩
theorem tmSum{s:St}{K:Nat}(hK:K<=1099511627000){us:List AU}{d:Int}(hn:s.n<=512)(hu:∀u∈us,lQ s.n K s.known u)(hul:us.length<=2)(hd:0<d)(hdl:dl d<=cZ):
 Tm (fun N=>qu N s.to (us.map AU.to) (B d)) (·=(mH s.n s.known us d).to):=by
 have hL:cZ=1099511627776:=rfl;unfold qu;refine aN (gN (n:=s.n) rfl (by omega) (by decide)) ?_;rw[<-o8];refine aT (a:=(mB (vec s.n fun j=>eb s.known us j),B (gg s.known us))) (eG us.length (fun k t=>t.2.2=(k:Int)/\t.1=mB (vec s.n fun j=>eb s.known (us.take k) j)/\t.2.1=B (gg s.known (us.take k))) ⟨rfl,?_,B0.symm⟩ ?_) ?_
 . show mB (List.replicate s.n 0)=mB (vec s.n fun j=>0);congr 1;apply pR (by simp[vec]);intro i h1 h2;simp[vec]
 . rintro k hk ⟨c,b,i⟩ ⟨rfl,rfl,rfl⟩;dsimp only[y7];rw[cP];refine aY (fun hlt=>?_) (fun hge=>aL ?_)
   . have hlt:k<us.length:=by omega
     have hux:=hu _ (dt hlt);have htk:∀u∈us.take k,lQ s.n K s.known u:=fun u hu'=>hu u (tu hu');have htl:(us.take k).length<=2:=by rw[e9];omega
     refine aN (dd (by simpa using hlt)) ?_;rw[kO];generalize hue:us[k]=u at*;refine aN (nt hux.1) ?_;have hm:∀j,dl (u.n*vf (aI s.known u.ix).c j)<=K+4:=fun j=>by
      have:=j6 u.n (vf (aI s.known u.ix).c j);have:=hux.2.2.2.1.vf j;have:=hux.2.2.1;omega
     have hmb:dl (u.n*(aI s.known u.ix).b)<=K+4:=by
      have:=j6 u.n (aI s.known u.ix).b;have:=hux.2.2.2.1.2;have:=hux.2.2.1;omega
     have hun:=hux.2.2.1;refine aT (a:=mB (vec s.n fun j=>eb s.known (us.take (k+1)) j)) ?_ ?_
     . refine(Tm.rA (n:=s.n) (by omega) (fun j=>eb s.known (us.take (k+1)) j) fh (fin:=id) ?_ ?_)
       . intro j hj c hc hi;dsimp only[xa];have h1:=zV (j:=j) htk;have h2:=hux.2.2.2.1.vf j;have h3:=hm j;refine db (by rw[dE,fh];omega) (aN hi (aN (ej (by rw[hux.2.2.2.2];exact hj)) (aT (nT (by omega) (by omega)) (aT (mG (by rw[dK hj];omega) (by omega)) (aN hi (aN (dV rfl (by omega)) (aL ?_)))))));rw[dK hj,<-jt hlt,Hn,hue]
       . intro c hc;dsimp only[xa];exact cA (by rw[dE,fh];omega) (aL rfl)
     . have h1:=A5 htk;have h2:=hux.2.2.2.1.2;refine aT (nT (a:=u.n) (b:=(aI s.known u.ix).b) (by omega) (by omega)) (aT (mG (by omega) (by omega)) (aL ⟨hlt,dW (by omega),rfl,?_⟩));show B _=B _;rw[<-jt hlt,Ib,hue]
   . show _=_;rw[eV (by omega)]
 . dsimp only;have h0:∀j,dl (eb s.known us j)<=K+6:=fun j=>by have:=zV (j:=j) hu;omega
   have hb:dl (gg s.known us)<=K+6:=by have:=A5 hu;omega
   refine aT (a:=mB (vec s.n fun j=>eb s.known us j/d)) ?_ ?_
   . refine(Tm.rA (n:=s.n) (by omega) (fun j=>eb s.known us j/d) fh (fin:=id) ?_ ?_)
     . intro j hj c hc hi;dsimp only[xM];have h1:=h0 j;refine db (by rw[dE,fh];omega) (aN hi (Tm.bind (qj (by rw[dK hj];omega) hdl) ?_));intro r hr;refine aN hi (aN (dV rfl (by omega)) (aL ?_));rw[hr,dK hj,js _ (ee hd)]
     . intro c hc;dsimp only[xM];exact cA (by rw[dE,fh];omega) (aL rfl)
   . refine Tm.bind (qj (by omega) hdl) ?_;intro r hr;refine aL ?_;rw[hr,js _ (ee hd)];rfl
open Go Go.X
structure gv (K:Nat)(s:St):Prop where
 n:s.n<=512
 kl:s.known.length<=1073741824
 sl:s.steps.length<=1073741824
 il:s.items.length<=1073741824
 k:∀q∈s.known,fD K q/\q.c.length=s.n
 i:∀x∈s.items,x.pos<s.known.length/\x.g.length=s.n/\∀v∈x.g,dl v<=8
 K:K<=1099511627000
def dv(g:List Int):Int:=if df g=0 then 1 else(df g:Nat)
theorem qg(g:List Int):0<dv g:=by unfold dv;split<;>omega
def many(g:List Int)(us:List AU):Bool:=decide (1<us.length)||(decide ((us.headD ⟨0,0⟩).n≠1)||decide (dv g≠1))
def iD(s:St)(g:List Int)(us:List AU):Nat:=if many g us then s.known.length else(us.headD ⟨0,0⟩).ix
def dst(s:St)(g:List Int)(us:List AU):St:=if many g us then{s with steps:=s.steps++[⟨us,dv g⟩],known:=s.known++[mH s.n s.known us (dv g)]}else s
def k9(s:St)(g:List Int)(us:List AU):AI:=⟨iD s g us,vec s.n fun j=>vf g j/dv g⟩
def mP(s:St)(g:List Int)(us:List AU):Bool:=decide (df g≠0)||decide (0<=(aI (dst s g us).known (iD s g us)).b)
def eh(kn:List AQ)(x:AI):List AI->List AI
 |[]=>[x]
 |y::r=>if x.g=y.g then(if(aI kn x.pos).b<(aI kn y.pos).b then x::r else y::r)else y::eh kn x r
def add(s:St)(x:AI):St:={s with items:=eh s.known x s.items}
def put(s:St)(g:List Int)(us:List AU):Bool×St:=(mP s g us,if df g≠0 then add (dst s g us) (k9 s g us)else dst s g us)
structure gD (K:Nat)(s:St)(g:List Int)(us:List AU):Prop where
 gl:g.length=s.n
 g:∀v∈g,dl v<=8
 ul:us.length<=2
 u0:us≠[]
 u:∀u∈us,lQ s.n K s.known u
theorem BH{K:Nat}{s:St}{g:List Int}{us:List AU}(h:gD K s g us):iD s g us<(dst s g us).known.length:=by
 unfold iD dst;split
 . simp
 . cases us with
   |nil=>exact absurd rfl h.u0
   |cons u r=>exact(h.u u cK).1
theorem GS(s:St)(g:List Int)(us:List AU):∃e,(dst s g us).known=s.known++e/\e.length<=1:=by
 unfold dst;split
 . exact⟨_,rfl,by simp⟩
 . exact⟨[],by simp,by simp⟩
theorem Dd(s:St)(g:List Int)(us:List AU):(dst s g us).n=s.n:=by unfold dst;split<;>rfl
theorem KI(s:St)(g:List Int)(us:List AU):(dst s g us).items=s.items:=by unfold dst;split<;>rfl
theorem RY{g:List Int}{n K:Nat}{d:Int}(hd:0<=d)(h:∀v∈g,dl v<=K):∀v∈vec n (fun j=>vf g j/d),dl v<=K:=by
 intro v hv;obtain⟨j,hj,rfl⟩:=gm hv;rw[fh]at hj;rw[dK hj];refine bO (Dk hd) ?_;rcases cw j g.length with h1|h1
 . exact h _ (fU h1)
 . rw[mL h1,ie];omega
theorem FF{K:Nat}{s:St}{g:List Int}{us:List AU}(h:gD K s g us):fD (K+6) (mH s.n s.known us (dv g))/\(mH s.n s.known us (dv g)).c.length=s.n:=by
 have hd:=ee (qg g);refine⟨⟨fun v hv=>?_,?_⟩,fh⟩
 . obtain⟨j,hj,rfl⟩:=gm hv;have hj:j<s.n:=by rwa[show(mH s.n s.known us (dv g)).c=vec s.n _ from rfl,fh]at hj
   show dl (vf (vec s.n _) j)<=_;rw[dK hj];have:=zV (j:=j) h.u;have:=h.ul;have:=Dk (a:=eb s.known us j) hd;omega
 . have:=A5 h.u;have:=h.ul;have:=Dk (a:=gg s.known us) hd;show dl (gg s.known us/dv g)<=_;omega
theorem R3{K K':Nat}{s:St}{g:List Int}{us:List AU}(hs:gv K s)(h:gD K' s g us)(hk:K'<=K):Tm (fun N=>rU N s.to (mB g) (us.map AU.to)) (·=((k9 s g us).to,decide (df g≠0),mP s g us,(dst s g us).to)):=by
  have hL:cZ=1099511627776:=rfl;have hK:=hs.K;have hkl:=hs.kl;have hsl:=hs.sl;have hn:=hs.n;have hgd:dl (df g:Nat)<=8:=ur h.g
  have hdd : dl (dv g) <= 8 := by unfold dv; split; · exact bO jw (by decide)
                                  . exact hgd
  have hgl:=h.gl;have hul:=h.ul;obtain⟨u,r,rfl⟩:∃u r,us=u::r:=by
    cases us with
    |nil=>exact absurd rfl h.u0
    |cons u r=>exact⟨u,r,rfl⟩
  have hu0:=h.u u cK;unfold rU;refine aT (NX (K:=8) (by omega) (by omega) h.g) (aT (jk (by omega)) ?_);have hsg:bM (df g:Nat) 0≠0↔df g≠0:=by unfold bM;(repeat' split)<;>omega
  refine aT (a:=B (dv g)) (aY (fun h0=>?_) (fun h0=>aL ?_)) ?_
  . refine aT (jT (by decide) (by decide)) (aL ?_);unfold dv;rw[if_pos (tB.1 fun e=>h0 (hsg.2 e))]
  . unfold dv;rw[if_neg (hsg.1 (tB.1 h0))]
  refine aT (jT (by decide) (by decide)) ?_;refine aT (a:=many g (u::r)) (aY (fun h0=>aL ?_) (fun h0=>?_)) ?_
  . rw[cP]at h0;unfold many;rw[decide_eq_true (by omega)];rfl
  . rw[cP]at h0;refine aN (a:=u.to) rfl (aT (j8 (a:=u.n) (b:=1) (by have:=hu0.2.2.1;omega) (bO jw (by decide))) (aY (fun h1=>aL ?_) (fun h1=>aT (j8 (by omega) (bO jw (by decide))) (aL ?_))))
    . have:u.n≠1:=by rintro e;rw[e]at h1;exact h1 (by decide)
      unfold many;simp[this]
    . have:u.n=1:=by unfold bM at h1;(repeat' split at h1)<;>omega
      have e2:bM (dv g) 1≠0↔dv g≠1:=by unfold bM;(repeat' split)<;>omega
      unfold many;have hr:¬1<(u::r).length:=by omega
      have h3:(((u::r).headD ⟨0,0⟩).n≠1)=False:=by simp[this]
      rw[decide_eq_false hr];simp[this,e2]
  have hmk : ∀ c : Bool, many g (u :: r) = c -> Tm (fun N => ((if c = true then
            (cN 56 s.to.steps [(Step.mk ((u::r).map AU.to) (B (dv g)))]).bind fun x37=>
            (qu N (aR.mk s.to.n s.to.known x37 s.to.u s.to.status s.to.value s.to.items s.to.stack) ((u::r).map AU.to) (B (dv g))).bind fun r38=>
            (cN 56 s.to.known [r38]).bind fun x39=>
            some (x39,x37,[(dQ.mk (iw ((List.length x39:Int)-1)) (B 1))])
          else
            some (s.to.known,s.to.steps,(u::r).map AU.to))):Nat->Option ((List bA)×(List Step)×(List dQ)))
      (fun t=>t.1=(dst s g (u::r)).to.known/\t.2.1=(dst s g (u::r)).to.steps/\∃x,idx t.2.2 0=some x/\x.Index=((iD s g (u::r):Nat):Int)):=by
    intro c hc;cases c with
    |true=>
      refine db rfl ?_;refine aN (dP (by show((s.steps.map AS.to).length+_)*_<=_;simp only[cP,cz,dM];omega) (by decide)) ?_;have e:(aR.mk s.to.n s.to.known (s.to.steps++[Step.mk ((u::r).map AU.to) (B (dv g))]) s.to.u s.to.status s.to.value s.to.items s.to.stack)=St.to {s with steps:=s.steps++[⟨u::r,dv g⟩]}:=by
        unfold St.to;simp[AS.to]
      rw[e];refine aT (a:=(mH s.n s.known (u::r) (dv g)).to) (tmSum (s:={s with steps:=s.steps++[⟨u::r,dv g⟩]}) (K:=K') (by omega) hn h.u (by omega) (qg g) (by omega)) ?_;refine aN (dP (by show((s.known.map AQ.to).length+_)*_<=_;simp only[cP,cz,dM];omega) (by decide)) (aL ?_);unfold dst iD;rw[hc];refine⟨by simp[St.to],by simp[St.to,AS.to],_,rfl,?_⟩;dsimp only;rw[bJ]<;>simp[St.to]<;>omega
    |false=>
      refine cA (by simp) (aL ?_);unfold dst iD;rw[hc];exact⟨rfl,rfl,u.to,rfl,rfl⟩
  refine Tm.bind (hmk _ rfl) ?_;rintro⟨kn,st,us'⟩ ⟨h1,h2,x,hx,hxi⟩;dsimp only at h1 h2 hx;subst h1;subst h2;refine aN hx ?_;refine aN (gN (n:=s.n) rfl (by omega) (by decide)) ?_;rw[<-o8];refine aT (a:=mB (vec s.n fun j=>vf g j/dv g)) ?_ ?_
  . refine(Tm.rA (n:=s.n) (by omega) (fun j=>vf g j/dv g) (by simp) (fin:=id) ?_ ?_)
    . intro j hj c hc hi;dsimp only[xT];refine db (by rw[dE];omega) (aN (ej (by omega)) (Tm.bind (qj (by have:=h.g _ (fU (l:=g) (j:=j) (by omega));omega) (by omega)) ?_));intro r' hr';refine aN hi (aN (dV rfl (by omega)) (aL ?_));rw[hr',js _ (ee (qg g))]
    . intro c hc;dsimp only[xT];exact cA (by rw[dE];omega) (aL rfl)
  have hS:aR.mk s.to.n (dst s g (u::r)).to.known (dst s g (u::r)).to.steps s.to.u s.to.status s.to.value s.to.items s.to.stack=(dst s g (u::r)).to:=by
    unfold dst;split<;>rfl
  have hI:(aX.mk x.Index (mB (vec s.n fun j=>vf g j/dv g)))=(k9 s g (u::r)).to:=by rw[hxi];rfl
  dsimp only;rw[hS,hI];have hps:=BH h;have hbd:dl (aI (dst s g (u::r)).known (iD s g (u::r))).b<=K+6:=by
    have hm:=eL hps;unfold dst at hm⊢;split at hm
    . rcases fb.1 hm with h3|h3
      . rename_i hm';rw[if_pos hm'];exact bO (hs.k _ h3).1.2 (by omega)
      . rename_i hm';rw[if_pos hm'];rw[cI.1 h3];exact bO (FF h).1.2 (by omega)
    . rename_i hm';rw[if_neg hm'];exact bO (hs.k _ hm).1.2 (by omega)
  refine aY (fun h0=>aL ?_) (fun h0=>?_)
  . have h0':=hsg.1 h0;unfold mP;rw[decide_eq_true h0,decide_eq_true h0'];rfl
  . have h0':¬df g≠0:=fun e=>h0 (hsg.2 e);refine aT (re (s:=dst s g (u::r)) (x:=k9 s g (u::r)) hps) (aT (jk (by show dl (aI _ (iD s g (u::r))).b<=_;omega)) (aL ?_));unfold mP;rw[decide_eq_false h0,decide_eq_false h0',Bool.false_or];congr 3;apply decide_eq_decide.2;show bM (aI _ (iD s g (u::r))).b 0≥0↔_;unfold bM;(repeat' split)<;>omega
open Go Go.X
theorem SH{a b:List Int}(hl:a.length<=1000)(hab:a.length=b.length)(ha:∀v∈a,dl v<=cZ)(hb:∀v∈b,dl v<=cZ):Tm (fun N=>xi N (mB a) (mB b) (fun y0 y1=>qB N y0 y1)) (·=decide (a=b)):=by
 unfold xi;refine cA (by rw[dE,dE];omega) ?_;refine Tm.bind (Tm.each (body:=fun N=>xp N (fun y0 y1=>qB N y0 y1) (mB b) (mB a)) ((List.range a.length)) (fun j=>vf a j=vf b j) (Q:=fun r=>(r=.inr false/\a≠b)\/(r=.inl ()/\∀j∈List.range a.length,vf a j=vf b j)) (by simp;omega) ?_ ?_) ?_
 . intro k hk _;have hk:k<a.length:=by simpa using hk
   dsimp only[xp];refine db (by rw[dE];omega) (aN (ej hk) (aN (ej (by omega)) ?_));unfold qB;refine aT (a:=decide (vf a k=vf b k)) (aT (j8 (ha _ (fU hk)) (hb _ (fU (by omega)))) (aL ?_)) (aY (fun h=>aL (.inr ⟨_,rfl,.inl ⟨rfl,fun e=>?_⟩⟩)) (fun h=>aL (.inl ⟨rfl,?_⟩)))
   . apply decide_eq_decide.2;unfold bM;(repeat' split)<;>omega
   . subst e;simp at h
   . simpa using h
 . intro h;dsimp only[xp];rw[List.length_range];exact cA (by rw[dE];omega) (aL ⟨_,rfl,.inr ⟨rfl,h⟩⟩)
 . rintro _ (⟨rfl,h⟩|⟨rfl,h⟩)
   . exact aL (by simp[h])
   . exact aL (by simp;exact l8 hab fun j hj=>h j (pP.2 hj))
theorem CU{kn:List AQ}{x:AI}:∀{a r:List AI},(∀y∈a,x.g≠y.g)->eh kn x (a++r)=a++eh kn x r
 |[],_,_=>rfl
 |y::a,r,h=>by
  show eh kn x (y::(a++r))=y::(a++eh kn x r);rw[eh,if_neg (h y cK),CU fun z hz=>h z (cG _ hz)]
def pH(s:St)(x:AI):Prop:=x.pos<s.known.length/\x.g.length=s.n/\∀v∈x.g,dl v<=8
theorem uS{K:Nat}{s:St}{x:AI}(hs:gv K s)(hx:pH s x):Tm (fun N=>kR N s.to x.to) (·=(add s x).to):=by
 have hL:cZ=1099511627776:=rfl;have hK:=hs.K;have hil:=hs.il;unfold kR;have hmap:(s.items.map AI.to).length=s.items.length:=cP ..;refine Tm.bind (Q:=fun r=>(r=.inl ()/\(∀y∈s.items,x.g≠y.g))\/r=.inr (add s x).to) (eG s.items.length (fun k t=>t=(k:Int)/\∀y∈s.items.take k,x.g≠y.g) ⟨rfl,by simp⟩ ?_) ?_
 . rintro k hk t ⟨rfl,hp⟩;dsimp only[Af];refine aY (fun hlt=>?_) (fun hge=>aL ?_)
   . have hlt:k<s.items.length:=by rw[show s.to.items.length=s.items.length from hmap]at hlt;omega
     obtain⟨y1,y2,y3⟩:=hs.i _ (dt hlt);refine aN (a:=(s.items[k]).to) (by show idx (s.items.map AI.to) _=_;rw[dd (by rw[hmap];exact hlt),kO]) ?_;generalize hy:s.items[k]=y at*;refine aT (SH (a:=x.g) (b:=y.g) (by have:=hx.2.1;have:=hs.n;omega) (hx.2.1.trans y2.symm) (fun v hv=>bO (hx.2.2 v hv) (by decide)) (fun v hv=>bO (y3 v hv) (by decide))) ?_;refine aY (fun he=>?_) (fun he=>aL ⟨hlt,dW (by omega),fun z hz=>?_⟩)
     . have he:x.g=y.g:=by simpa using he
       have hsplit:s.items=s.items.take k++y::s.items.drop (k+1):=by
        rw[<-hy,<-eU hlt,mn]
       have hadd:eh s.known x s.items=if(aI s.known x.pos).b<(aI s.known y.pos).b then s.items.set k x else s.items:=by
        conv=>lhs;rw[hsplit]
        rw[CU hp,eh,if_pos he];split
        . rw[U8,if_pos hlt]
        . exact hsplit.symm
       refine aT (re hx.1) (aT (re y1) (aT (j8 (bO (hs.k _ (eL hx.1)).1.2 (by omega)) (bO (hs.k _ (eL y1)).1.2 (by omega))) ?_));refine aY (fun h1=>?_) (fun h1=>aL ?_)
       . have h1:(aI s.known x.pos).b<(aI s.known y.pos).b:=by unfold bM at h1;(repeat' split at h1)<;>omega
         refine aN (a:=y.to) (by show idx (s.items.map AI.to) _=_;rw[dd (by rw[hmap];exact hlt),kO,hy]) ?_;refine aN (dV rfl (by show _<(s.items.map AI.to).length;rw[hmap];exact hlt)) (aL (.inr ?_));unfold add;rw[hadd,if_pos h1];unfold St.to;dsimp only;rw[Ce]
       . have h1:¬(aI s.known x.pos).b<(aI s.known y.pos).b:=by unfold bM at h1;(repeat' split at h1)<;>omega
         refine .inr ?_;unfold add;rw[hadd,if_neg h1]
     . rw[<-jt hlt,hy]at hz;rcases fb.1 hz with hz|hz
       . exact hp z hz
       . rw[cI.1 hz];intro e;exact he (by simp[e])
   . rw[show s.to.items.length=s.items.length from hmap]at hge;refine .inl ⟨rfl,fun y hy=>hp y ?_⟩;rwa[eV (by omega)]
 . rintro r (⟨rfl,h⟩|rfl)
   . refine aN (dP (by show((s.items.map AI.to).length+_)*_<=_;rw[hmap];simp only[cz,dM];omega) (by decide)) (aL ?_);have:eh s.known x s.items=s.items++[x]:=by
      have:=CU (kn:=s.known) (x:=x) (a:=s.items) (r:=[]) h;rw[lG]at this;rw[this];rfl
     unfold add;rw[this];unfold St.to;simp
   . exact aL rfl
def ji(m:Nat)(s:St):Prop:=s.known.length+m<=1073741824/\s.steps.length+m<=1073741824/\s.items.length+m<=1073741824
theorem vh{kn:List AQ}{x:AI}:∀{l:List AI},l.length<=(eh kn x l).length/\(eh kn x l).length<=l.length+1
 |[]=>by simp[eh]
 |y::l=>by
  have:=vh (kn:=kn) (x:=x) (l:=l);rw[eh];split
  . split<;>simp
  . simp;omega
theorem mi{kn:List AQ}{x z:AI}:∀{l:List AI},z∈eh kn x l->z=x\/z∈l
 |[],h=>by simp[eh]at h;exact .inl h
 |y::l,h=>by
  rw[eh]at h;split at h
  . split at h
    . rcases dT.1 h with h|h
      . exact .inl h
      . exact .inr (cG _ h)
    . exact .inr h
  . rcases dT.1 h with h|h
    . exact .inr (h▸cK)
    . rcases mi h with h|h
      . exact .inl h
      . exact .inr (cG _ h)
theorem Hj{K m:Nat}{s:St}{x:AI}(hs:gv K s)(hx:pH s x)(hr:ji (m+1) s):gv K (add s x)/\ji m (add s x):=by
 have h1:=vh (kn:=s.known) (x:=x) (l:=s.items);obtain⟨r1,r2,r3⟩:=hr;refine⟨⟨hs.n,hs.kl,hs.sl,?_,hs.k,fun z hz=>?_,hs.K⟩,?_,?_,?_⟩
 . show(eh s.known x s.items).length<=_;omega
 . rcases mi hz with rfl|hz
   . exact hx
   . exact hs.i z hz
 . show s.known.length+m<=_;omega
 . show s.steps.length+m<=_;omega
 . show(eh s.known x s.items).length+m<=_;omega
theorem MN{K K' m:Nat}{s:St}{g:List Int}{us:List AU}(hs:gv K s)(h:gD K' s g us)(hk:K'+6<=K)(hr:ji (m+1) s):gv K (dst s g us)/\ji m (dst s g us)/\(dst s g us).items.length+m+1<=1073741824:=by
 obtain⟨r1,r2,r3⟩:=hr;unfold dst;split
 . refine⟨⟨hs.n,by simp;omega,by simp;omega,hs.il,fun q hq=>?_,fun z hz=>?_,hs.K⟩,⟨by simp;omega,by simp;omega,by show s.items.length+m<=_;omega⟩,by show s.items.length+m+1<=_;omega⟩
   . rcases fb.1 hq with hq|hq
     . exact hs.k q hq
     . rw[cI.1 hq];exact⟨(FF h).1.mono hk,(FF h).2⟩
   . obtain⟨z1,z2⟩:=hs.i z hz;exact⟨by simp;omega,z2⟩
 . exact⟨hs,⟨by omega,by omega,by omega⟩,by omega⟩
theorem Mu{K':Nat}{s:St}{g:List Int}{us:List AU}(h:gD K' s g us):pH (dst s g us) (k9 s g us):=
 ⟨BH h,by rw[Dd];exact fh,RY (ee (qg g)) h.g⟩
theorem Li{K K' m:Nat}{s:St}{g:List Int}{us:List AU}(hs:gv K s)(h:gD K' s g us)(hk:K'+6<=K)(hr:ji (m+1) s):gv K (put s g us).2/\ji m (put s g us).2:=by
 obtain⟨h1,h2,h3⟩:=MN hs h hk hr;unfold put;dsimp only;split
 . have:=vh (kn:=(dst s g us).known) (x:=k9 s g us) (l:=(dst s g us).items);refine⟨⟨h1.n,h1.kl,h1.sl,?_,h1.k,fun z hz=>?_,h1.K⟩,h2.1,h2.2.1,?_⟩
   . show(eh _ _ _).length<=_;omega
   . rcases mi hz with rfl|hz
     . exact Mu h
     . exact h1.i z hz
   . show(eh _ _ _).length+m<=_;omega
 . exact⟨h1,h2⟩
theorem JK{K K':Nat}{s:St}{g:List Int}{us:List AU}(hs:gv K s)(h:gD K' s g us)(hk:K'+6<=K)(hr:ji 1 s):Tm (fun N=>mK N s.to (mB g) (us.map AU.to)) (·=((put s g us).1,(put s g us).2.to)):=by
 obtain⟨h1,h2,h3⟩:=MN (m:=0) hs h hk hr;unfold mK;refine aT (R3 hs h (by omega)) ?_;dsimp only;have hn:s.to.n=(dst s g us).to.n:=by show(s.n:Int)=(dst s g us).n;rw[Dd]
 have e1:∀x:aR,s.to.n=x.n->aR.mk s.to.n x.known x.steps x.u x.status x.value x.items x.stack=x:=fun x hx=>iL hx;refine Tm.bind (Q:=fun t=>aR.mk s.to.n t.1 t.2.1 t.2.2.1 t.2.2.2.1 t.2.2.2.2.1 t.2.2.2.2.2.1 t.2.2.2.2.2.2=(put s g us).2.to) (aY (fun h0=>?_) (fun h0=>aL ?_)) ?_
 . rw[e1 _ hn];refine aT (uS h1 (Mu h)) (aL ?_);dsimp only;rw[e1 (D.add (dst s g us) (k9 s g us)).to hn];unfold put;dsimp only;rw[if_pos (by simpa using h0)]
 . dsimp only;rw[e1 _ hn];unfold put;dsimp only;rw[if_neg (by simpa using h0)]
 . rintro⟨a,b,c,d,e,f,g'⟩ ht;refine aL ?_;dsimp only at ht⊢;rw[ht];rfl
inductive Act where
 |add (x:AI)
 |put (g:List Int) (us:List AU)
def bU:St->List Act->Bool×St
 |s,[]=>(true,s)
 |s,.add x::r=>bU (add s x) r
 |s,.put g us::r=>if(put s g us).1=true then bU (put s g us).2 r else(false,(put s g us).2)
def lh(K:Nat)(s:St):Act->Prop
 |.add x=>pH s x
 |.put g us=>gD K s g us
theorem lQ.app{n K:Nat}{kn e:List AQ}{u:AU}(h:lQ n K kn u):lQ n K (kn++e) u:=by
 obtain⟨h1,h2,h3,h4,h5⟩:=h;exact⟨by simp;omega,h2,h3,by rw[iF h1];exact h4,by rw[iF h1];exact h5⟩
theorem lh.app{K:Nat}{s s':St}{a:Act}(h:lh K s a)(hn:s'.n=s.n){e:List AQ}(he:s'.known=s.known++e):lh K s' a:=by
 cases a with
 |add x=>exact⟨by rw[he];have:=h.1;simp;omega,by rw[hn];exact h.2.1,h.2.2⟩
 |put g us=>exact⟨by rw[hn];exact h.gl,h.g,h.ul,h.u0,fun u hu=>by rw[hn,he];exact(h.u u hu).app⟩
theorem zu(s:St)(g:List Int)(us:List AU):∃e,(put s g us).2.known=s.known++e/\e.length<=1:=by
 unfold put;dsimp only;split<;>exact GS s g us
theorem AF(s:St)(g:List Int)(us:List AU):(put s g us).2.n=s.n:=by
 unfold put;dsimp only;split<;>exact Dd s g us
structure iK (K:Nat)(s0:St)(L:List Act)(k:Nat)(s:St):Prop where
 run:bU s0 L=bU s (L.drop k)
 ok:gv K s
 room:ji (L.length-k) s
 pre:∃e,s.known=s0.known++e
 n:s.n=s0.n
theorem iK.first{K:Nat}{s0:St}{L:List Act}(h:gv K s0)(hr:ji L.length s0):iK K s0 L 0 s0:=⟨rfl,h,hr,⟨[],by simp⟩,rfl⟩
theorem iK.add{K K0:Nat}{s0 s:St}{L:List Act}{k:Nat}{x:AI}(h:iK K s0 L k s)(hk:k<L.length)(hL:L[k]=.add x)(hx:lh K0 s0 (.add x)):pH s x/\iK K s0 L (k+1) (add s x):=by
 obtain⟨e,he⟩:=h.pre;have hx':pH s x:=hx.app h.n he;obtain⟨m,hm⟩:∃m,L.length-k=m+1:=⟨L.length-k-1,by omega⟩;have h1:=Hj (m:=m) h.ok hx' (by rw[<-hm];exact h.room);refine⟨hx',?_,h1.1,by rw[show L.length-(k+1)=m by omega];exact h1.2,⟨e,he⟩,h.n⟩;rw[h.run,eU hk,hL];rfl
theorem iK.put{K K0:Nat}{s0 s:St}{L:List Act}{k:Nat}{g:List Int}{us:List AU}(h:iK K s0 L k s)(hk:k<L.length)(hL:L[k]=.put g us)(hx:lh K0 s0 (.put g us))(hK:K0+6<=K):
 Tm (fun N=>mK N s.to (mB g) (us.map AU.to)) (·=((put s g us).1,(put s g us).2.to))/\((put s g us).1=true->iK K s0 L (k+1) (put s g us).2)/\((put s g us).1=false->bU s0 L=(false,(put s g us).2))/\(put s g us).2.n=s0.n:=by
 obtain⟨e,he⟩:=h.pre;have hx':gD K0 s g us:=hx.app h.n he;obtain⟨m,hm⟩:∃m,L.length-k=m+1:=⟨L.length-k-1,by omega⟩;have hr:ji (m+1) s:=by rw[<-hm];exact h.room
 have hr1:ji 1 s:=⟨by have:=hr.1;omega,by have:=hr.2.1;omega,by have:=hr.2.2;omega⟩;have h1:=Li (m:=m) h.ok hx' hK hr;obtain⟨e',he',_⟩:=zu s g us;have hrun:bU s0 L=if(D.put s g us).1=true then bU (D.put s g us).2 (L.drop (k+1))else(false,(D.put s g us).2):=by
  rw[h.run,eU hk,hL];rfl
 refine⟨JK h.ok hx' hK hr1,fun ht=>⟨?_,h1.1,by rw[show L.length-(k+1)=m by omega];exact h1.2,⟨e++e',by rw[he',he,iq]⟩,(AF s g us).trans h.n⟩,fun hf=>?_,(AF s g us).trans h.n⟩
 . rw[hrun,if_pos ht]
 . rw[hrun,if_neg (by rw[hf];simp)]
theorem iK.last{K:Nat}{s0 s:St}{L:List Act}(h:iK K s0 L L.length s):bU s0 L=(true,s):=by
 rw[h.run,Ch];rfl
abbrev Pt:=(List bA)×(List Step)×(List (List aB))×(List Int)×(List aB)×(List aX)×(List dJ)
def iE(s:St):Pt:=(s.to.known,s.to.steps,s.to.u,s.to.status,s.to.value,s.to.items,s.to.stack)
def gu(s:St):List Act:=(List.range s.known.length).map fun i=>.put (aI s.known i).c [⟨i,1⟩]
theorem Pq{K K0:Nat}{s:St}(hs:gv K s)(hr:ji s.known.length s)(hK:K0+6<=K)(h:∀q∈s.known,fD K0 q/\∀v∈q.c,dl v<=8):Tm (fun N=>vm N s.to) (·=((bU s (gu s)).1,(bU s (gu s)).2.to)):=by
 have hl:(gu s).length=s.known.length:=by simp[gu]
 have hmap:s.to.known.length=s.known.length:=cP ..;have hkl:=hs.kl;unfold vm;refine Tm.bind (Q:=fun r=>(∃s',r=.inl (iE s')/\bU s (gu s)=(true,s')/\s'.n=s.n)\/(r=.inr ((bU s (gu s)).1,(bU s (gu s)).2.to))) (eG s.known.length (fun k t=>∃s',iK K s (gu s) k s'/\t=(s'.to.known,s'.to.steps,s'.to.u,s'.to.status,s'.to.value,s'.to.items,s'.to.stack,(k:Int))) ⟨s,iK.first hs (by rw[hl];exact hr),rfl⟩ ?_) ?_
 . rintro k hk _ ⟨s',hi,rfl⟩;dsimp only[F8];refine aY (fun hlt=>?_) (fun hge=>aL (.inl ⟨s',rfl,?_,hi.n⟩))
   . have hlt:k<s.known.length:=by omega
     obtain⟨e,he⟩:=hi.pre;have hq:=h _ (eL hlt);have hql:=(hs.k _ (eL hlt)).2;refine aN (a:=(aI s.known k).to) (by show idx (s'.known.map AQ.to) _=_;rw[nt (by rw[he];simp;omega),he,iF hlt]) ?_;refine aT (a:=mB (aI s.known k).c) ?_ ?_
     . unfold nF;refine aN (dP (by show(_+(mB _).length)*_<=_;rw[dE,hql];have:=hs.n;simp only[dM];omega) (by decide)) (aL rfl)
     have hLk:(gu s)[k]'(by rw[hl];exact hlt)=.put (aI s.known k).c [⟨k,1⟩]:=by simp[gu]
     have hact:lh K0 s (.put (aI s.known k).c [⟨k,1⟩]):=⟨hql,hq.2,by simp,by simp,fun u hu=>by
      rw[cI.1 hu];exact⟨hlt,GI 1,bO jw (by decide),hq.1,hql⟩⟩
     obtain⟨p1,p2,p3,p4⟩:=hi.put (by rw[hl];exact hlt) hLk hact hK;refine aT (jT (by decide) (by decide)) ?_;rw[iL (x:=s'.to) (by show(s.n:Int)=s'.n;rw[hi.n])];refine aT p1 (aY (fun hf=>aL ?_) (fun ht=>aL ⟨hlt,_,p2 (by simpa using ht),?_⟩))
     . dsimp only;rw[iL (by show(s.n:Int)=_;rw[show(D.put s' (aI s.known k).c [⟨k,1⟩]).2.to.n=((D.put s' (aI s.known k).c [⟨k,1⟩]).2.n:Int) from rfl,p4])];rw[p3 (by simpa using hf)];exact .inr rfl
     . dsimp only;rw[dW (by omega)]
   . have:k=s.known.length:=by omega
     subst this;exact iK.last (by rw[hl];exact hi)
 . rintro r (⟨s',rfl,h1,h2⟩|rfl)
   . refine aL ?_;show(true,aR.mk s.to.n s'.to.known s'.to.steps s'.to.u s'.to.status s'.to.value s'.to.items s'.to.stack)=_;rw[iL (x:=s'.to) (by show(s.n:Int)=s'.n;rw[h2]),h1]
   . exact aL rfl
open Go Go.X
def jQ(n K:Nat)(l:List Int):Prop:=l.length=n/\∀v∈l,dl v<=K
theorem jQ.vf{n K:Nat}{l:List Int}(h:jQ n K l)(j:Nat):dl (vf l j)<=K:=by
 rcases cw j l.length with hj|hj
 . exact h.2 _ (fU hj)
 . rw[mL hj,ie];omega
structure SU (K:Nat)(s:St):Prop where
 u:s.u.length=s.n/\∀r∈s.u,jQ s.n K r
 st:s.status.length=s.n
 v:jQ s.n K s.value
def kV(j p:Nat)(q:Int)(l:List Int):List Int:=l.set j (vf l j-q*vf l p)
def kI(s:St)(j p:Nat)(q:Int):St:={s with u:=s.u.map (kV j p q),items:=s.items.map fun x=>{x with g:=kV j p q x.g}}
theorem BV{l:List Int}(h:l.length<=1000):Tm (fun N=>nF N (mB l)) (·=mB l):=by
 unfold nF;exact aN (dP (by rw[dE];simp only[dM];omega) (by decide)) (aL rfl)
theorem L4{n K:Nat}{l:List Int}{j p:Nat}{q:Int}(hn:n<=512)(hl:jQ n K l)(hj:j<n)(hp:p<n)(hK:K+dl q<=cZ):Tm (fun N=>ma N (mB l) (j:Int) (B q) (p:Int)) (·=mB (kV j p q l)):=by
 have hll:=hl.1;have h1:=hl.vf j;have h2:=hl.vf p;have h3:=j6 q (vf l p);unfold ma;refine aT (BV (by omega)) (aN (ej (by omega)) (aN (ej (by omega)) (aT (nT (by omega) (by omega)) (aT (mh (by omega) (by omega)) (aN (ej (by omega)) (aN (dV rfl (by rw[dE];omega)) (aL ?_)))))));rw[uz];rfl
theorem Ki{n K:Nat}{l:List Int}{p:Nat}(hn:n<=512)(hl:jQ n K l)(hp:p<n)(hK:K<=cZ):Tm (fun N=>l7 N (mB l) (p:Int)) (·=mB (l.set p (-vf l p))):=by
 have hll:=hl.1;have h1:=hl.vf p;unfold l7;refine aT (BV (by omega)) (aN (ej (by omega)) (aT (n5 (by omega)) (aN (ej (by omega)) (aN (dV rfl (by rw[dE];omega)) (aL ?_)))));rw[uz]
theorem wc{α β:Type}{l:List α}{f:α->β}{d:α}:(List.range l.length).map (fun k=>f (l.getD k d))=l.map f:=by
 apply pR (by simp);intro i h1 h2;simp at h2;simp[cy,bV h2]
theorem OK{K:Nat}{s:St}{j p:Nat}{q:Int}(hu:SU K s)(hn:s.n<=512)(hil:s.items.length<=1073741824)(hi:∀x∈s.items,jQ s.n K x.g)(hj:j<s.n)(hp:p<s.n)(hK:K+dl q<=cZ):
 Tm (fun N=>wj N s.to (j:Int) (p:Int) (B q)) (·=(kI s j p q).to):=by
 unfold wj;have hmu:s.to.u.length=s.u.length:=cP ..;have hmi:s.to.items.length=s.items.length:=cP ..;have hul:=hu.u.1;refine aT (a:=s.u.map fun r=>mB (kV j p q r)) ?_ ?_
 . refine(Tm.fill (n:=s.u.length) (by omega) (c0:=s.to.u) (fun k=>mB (kV j p q (s.u.getD k []))) hmu (fin:=id) ?_ ?_).mono ?_
   . intro k hk c hc hi';have e0:s.to.u[k]?=some (mB s.u[k]):=by show(s.u.map mB)[k]?=_;rw[gM,bV hk];rfl
     rw[e0]at hi';dsimp only[zx];refine db (by rw[hmu];omega) (aN (kJ hi') (aT (L4 hn (hu.u.2 _ (dt hk)) hj hp hK) (aN (kJ hi') (aN (dV rfl (by omega)) (aL ?_)))));rw[cy,bV hk];rfl
   . intro c hc;dsimp only[zx];exact cA (by rw[hmu];omega) (aL rfl)
   . intro r hr;rw[hr,id,wc (f:=fun r=>mB (kV j p q r))]
 . refine aT (a:=s.items.map fun x=>({x with g:=kV j p q x.g}:AI).to) ?_ ?_
   . refine(Tm.fill (n:=s.items.length) (by omega) (c0:=s.to.items) (fun k=>({s.items.getD k ⟨0,[]⟩with g:=kV j p q (s.items.getD k ⟨0,[]⟩).g}:AI).to) hmi (fin:=id) ?_ ?_).mono ?_
     . intro k hk c hc hi';have e0:s.to.items[k]?=some (s.items[k]).to:=by show(s.items.map AI.to)[k]?=_;rw[gM,bV hk];rfl
       rw[e0]at hi';dsimp only[zy];refine db (by rw[hmi];omega) (aN (kJ hi') (aT (L4 hn (hi _ (dt hk)) hj hp hK) (aN (kJ hi') (aN (dV rfl (by omega)) (aL ?_)))));rw[cy,bV hk];rfl
     . intro c hc;dsimp only[zy];exact cA (by rw[hmi];omega) (aL rfl)
     . intro r hr;rw[hr,id,wc (f:=fun x:AI=>({x with g:=kV j p q x.g}:AI).to)]
   . refine aL ?_;unfold kI St.to;dsimp only;rw[mq,mq];rfl
def flS(s:St)(p:Nat):St:={s with u:=s.u.map (fun l=>l.set p (-vf l p)),items:=s.items.map fun x=>{x with g:=x.g.set p (-vf x.g p)}}
theorem Tc{K:Nat}{s:St}{p:Nat}(hu:SU K s)(hn:s.n<=512)(hil:s.items.length<=1073741824)(hi:∀x∈s.items,jQ s.n K x.g)(hp:p<s.n)(hK:K<=cZ):
 Tm (fun N=>wP N s.to (p:Int)) (·=(flS s p).to):=by
 unfold wP;have hmu:s.to.u.length=s.u.length:=cP ..;have hmi:s.to.items.length=s.items.length:=cP ..;have hul:=hu.u.1;refine aT (a:=s.u.map fun r=>mB (r.set p (-vf r p))) ?_ ?_
 . refine(Tm.fill (n:=s.u.length) (by omega) (c0:=s.to.u) (fun k=>mB ((s.u.getD k []).set p (-vf (s.u.getD k []) p))) hmu (fin:=id) ?_ ?_).mono ?_
   . intro k hk c hc hi';have e0:s.to.u[k]?=some (mB s.u[k]):=by show(s.u.map mB)[k]?=_;rw[gM,bV hk];rfl
     rw[e0]at hi';dsimp only[zA];refine db (by rw[hmu];omega) (aN (kJ hi') (aT (Ki hn (hu.u.2 _ (dt hk)) hp hK) (aN (kJ hi') (aN (dV rfl (by omega)) (aL ?_)))));rw[cy,bV hk];rfl
   . intro c hc;dsimp only[zA];exact cA (by rw[hmu];omega) (aL rfl)
   . intro r hr;rw[hr,id,wc (f:=fun r:List Int=>mB (r.set p (-vf r p)))]
 . refine aT (a:=s.items.map fun x=>({x with g:=x.g.set p (-vf x.g p)}:AI).to) ?_ ?_
   . refine(Tm.fill (n:=s.items.length) (by omega) (c0:=s.to.items) (fun k=>({s.items.getD k ⟨0,[]⟩with g:=(s.items.getD k ⟨0,[]⟩).g.set p (-vf (s.items.getD k ⟨0,[]⟩).g p)}:AI).to) hmi (fin:=id) ?_ ?_).mono ?_
     . intro k hk c hc hi';have e0:s.to.items[k]?=some (s.items[k]).to:=by show(s.items.map AI.to)[k]?=_;rw[gM,bV hk];rfl
       rw[e0]at hi';dsimp only[zg];refine db (by rw[hmi];omega) (aN (kJ hi') (aT (Ki hn (hi _ (dt hk)) hp hK) (aN (kJ hi') (aN (dV rfl (by omega)) (aL ?_)))));rw[cy,bV hk];rfl
     . intro c hc;dsimp only[zg];exact cA (by rw[hmi];omega) (aL rfl)
     . intro r hr;rw[hr,id,wc (f:=fun x:AI=>({x with g:=x.g.set p (-vf x.g p)}:AI).to)]
   . refine aL ?_;unfold flS St.to;dsimp only;rw[mq,mq];rfl
def rN(a:List Int)(p:Nat):Prop:=p<a.length/\vf a p≠0/\∀j,j<a.length->vf a j≠0->(vf a p).natAbs<=(vf a j).natAbs
theorem absB(v:Int):aB.mk false (B v).aP=B (v.natAbs:Int):=by
 show aB.mk false (qI v.natAbs)=aB.mk (decide ((v.natAbs:Int)<0)) (qI ((v.natAbs:Int)).natAbs);rw[No,decide_eq_false (by omega)]
theorem Jq(v:Int):dl (v.natAbs:Int)=dl v:=Nat.le_antisymm (rz (by omega)) (rz (by omega))
theorem pz{a:Int}:bM a 0≠0↔a≠0:=by unfold bM;(repeat' split)<;>omega
theorem nL{a b:Int}:bM a b<0↔a<b:=by unfold bM;(repeat' split)<;>omega
theorem TC{x:AI}(hl:x.g.length<=1000)(hd:∀v∈x.g,dl v<=cZ)(h0:∃j,j<x.g.length/\vf x.g j≠0):Tm (fun N=>bH (zp N x.to) N ((-1),0)) (fun r=>∃p:Nat,r=(p:Int)/\rN x.g p):=by
 have hxl:x.to.g.length=x.g.length:=dE _;refine eG x.g.length (fun k t=>t.2=(k:Int)/\((t.1=-1/\∀j,j<k->vf x.g j=0)\/∃p:Nat,t.1=(p:Int)/\p<k/\vf x.g p≠0/\∀j,j<k->vf x.g j≠0->(vf x.g p).natAbs<=(vf x.g j).natAbs)) ⟨rfl,.inl ⟨rfl,fun j hj=>by omega⟩⟩ ?_;rintro k hk ⟨p,i⟩ ⟨rfl,hp⟩;dsimp only at hp;dsimp only[zp];refine aY (fun hlt=>?_) (fun hge=>aL ?_)
 . have hlt:k<x.g.length:=by omega
   have hdk:=hd _ (fU hlt);have hidx:idx x.to.g (k:Int)=some (B (vf x.g k)):=ej hlt;refine Tm.bind (Q:=fun r:Int=>(r=(k:Int)/\vf x.g k≠0/\∀j,j<k->vf x.g j≠0->(vf x.g k).natAbs<=(vf x.g j).natAbs)\/(r=p/\(vf x.g k=0\/∃p':Nat,p=(p':Int)/\(vf x.g p').natAbs<=(vf x.g k).natAbs))) ?_ ?_
   . refine Tm.bind (Q:=fun c=>(c=true/\vf x.g k≠0/\∀j,j<k->vf x.g j≠0->(vf x.g k).natAbs<=(vf x.g j).natAbs)\/(c=false/\(vf x.g k=0\/∃p':Nat,p=(p':Int)/\(vf x.g p').natAbs<=(vf x.g k).natAbs))) ?_ ?_
     . refine aN hidx (aT (jk hdk) (aY (fun h1=>?_) (fun h1=>aL (.inr ⟨rfl,.inl ?_⟩))))
       . have h1:=pz.1 h1;rcases hp with⟨rfl,hz⟩|⟨p',rfl,hpk,hp0,hpm⟩
         . exact db (by decide) (aL (.inl ⟨rfl,h1,fun j hj hj0=>absurd (hz j hj) hj0⟩))
         . refine cA (by omega) ?_;refine aN hidx (aN (a:=B (vf x.g k).natAbs) (congrArg some (absB _)) ?_);refine aN (ej (l:=x.g) (k:=p') (by omega)) (aN (a:=B (vf x.g p').natAbs) (congrArg some (absB _)) ?_);refine aT (j8 (by rw[Jq];exact hdk) (by rw[Jq];exact hd _ (fU (by omega)))) (aL ?_);by_cases hc:(vf x.g k).natAbs<(vf x.g p').natAbs
           . exact .inl ⟨decide_eq_true (nL.2 (by omega)),h1,fun j hj hj0=>by have:=hpm j hj hj0;omega⟩
           . exact .inr ⟨decide_eq_false (fun e=>hc (by have:=nL.1 e;omega)),.inr ⟨p',rfl,by omega⟩⟩
       . exact jH fun e=>h1 (pz.2 e)
     . rintro c (⟨rfl,h1⟩|⟨rfl,h1⟩)
       . exact db rfl (aL (.inl ⟨rfl,h1⟩))
       . exact cA (by simp) (aL (.inr ⟨rfl,h1⟩))
   . rintro r hr;refine aL ⟨hlt,dW (by omega),?_⟩;dsimp only;rcases hr with⟨rfl,h1,h2⟩|⟨rfl,h1⟩
     . refine .inr ⟨k,rfl,by omega,h1,fun j hj hj0=>?_⟩;rcases cw j k with h3|h3
       . exact h2 j h3 hj0
       . obtain rfl:j=k:=by omega
         exact bK _
     . rcases hp with⟨e,hz⟩|⟨p',e,hpk,hp0,hpm⟩
       . rcases h1 with h1|⟨p',e',_⟩
         . refine .inl ⟨e,fun j hj=>?_⟩;rcases cw j k with h3|h3
           . exact hz j h3
           . obtain rfl:j=k:=by omega
             exact h1
         . omega
       . refine .inr ⟨p',e,by omega,hp0,fun j hj hj0=>?_⟩;rcases cw j k with h3|h3
         . exact hpm j h3 hj0
         . obtain rfl:j=k:=by omega
           rcases h1 with h1|⟨p'',e',h4⟩
           . exact absurd h1 hj0
           . obtain rfl:p''=p':=by omega
             exact h4
 . have:k=x.g.length:=by omega
   subst this;rcases hp with⟨rfl,hz⟩|⟨p',rfl,hpk,hp0,hpm⟩
   . obtain⟨j,hj,hj0⟩:=h0;exact absurd (hz j hj) hj0
   . exact⟨p',rfl,hpk,hp0,hpm⟩
def bW(a:List Int)(p k:Nat)(l:List Int):List Int:=vec l.length fun j=>if j<k/\j≠p then vf l j-(vf a j).fdiv (vf a p)*vf l p else vf l j
def fx(s:St)(a:List Int)(p k:Nat):St:={s with u:=s.u.map (bW a p k),items:=s.items.map fun x=>{x with g:=bW a p k x.g}}
theorem pE{a:List Int}{p k:Nat}{l:List Int}:(bW a p k l).length=l.length:=fh
theorem O1{a:List Int}{p:Nat}{l:List Int}:bW a p 0 l=l:=by
 refine l8 fh fun j hj=>?_;rw[show(bW a p 0 l).length=l.length from fh]at hj;unfold bW;rw[dK hj,if_neg (by omega)]
theorem KU{a:List Int}{p k:Nat}{l:List Int}(hp:p<l.length)(hk:k<l.length)(hkp:k≠p):kV k p ((vf a k).fdiv (vf a p)) (bW a p k l)=bW a p (k+1) l:=by
 refine l8 (by unfold kV;rw[iS];exact fh.trans fh.symm) fun j hj=>?_;unfold kV at hj⊢;rw[iS,pE]at hj;have e1:vf (bW a p k l) k=vf l k:=by unfold bW;rw[dK hk,if_neg (by omega)]
 have e2:vf (bW a p k l) p=vf l p:=by unfold bW;rw[dK hp,if_neg (by omega)]
 rw[jR (by rw[pE];exact hk),e1,e2];have e3:vf (bW a p (k+1) l) j=if j<k+1/\j≠p then vf l j-(vf a j).fdiv (vf a p)*vf l p else vf l j:=by unfold bW;rw[dK hj]
 have e4:vf (bW a p k l) j=if j<k/\j≠p then vf l j-(vf a j).fdiv (vf a p)*vf l p else vf l j:=by unfold bW;rw[dK hj]
 rw[e3];by_cases e:k=j
 . subst e;rw[if_pos rfl,if_pos ⟨by omega,hkp⟩]
 . rw[if_neg e,e4];by_cases h2:j<k/\j≠p
   . rw[if_pos h2,if_pos ⟨by omega,h2.2⟩]
   . rw[if_neg h2,if_neg (by omega)]
theorem OD{a:List Int}{p k:Nat}{l:List Int}(h:k=p\/vf a k=0):bW a p (k+1) l=bW a p k l:=by
 unfold bW;refine Jf fun j hj=>?_;by_cases e:j=k
 . subst e;have h2:¬(j<j/\j≠p):=by omega
   rcases h with h|h
   . have h1:¬(j<j+1/\j≠p):=by omega
     rw[if_neg h1,if_neg h2]
   . rw[if_neg h2,h];split
     . rw[yI];omega
     . rfl
 . by_cases h2:j<k/\j≠p
   . rw[if_pos h2,if_pos ⟨by omega,h2.2⟩]
   . rw[if_neg h2,if_neg (by omega)]
theorem Nz(s:St)(a:List Int)(p:Nat):fx s a p 0=s:=by
 unfold fx;rw[show bW a p 0=id from funext fun l=>O1];simp
theorem Uq{s:St}{a:List Int}{p k:Nat}(h:k=p\/vf a k=0):fx s a p (k+1)=fx s a p k:=by
 unfold fx;rw[show bW a p (k+1)=bW a p k from funext fun l=>OD h]
theorem R6{s:St}{a:List Int}{p k:Nat}(hu:∀r∈s.u,r.length=s.n)(hi:∀x∈s.items,x.g.length=s.n)(hp:p<s.n)(hk:k<s.n)(hkp:k≠p):kI (fx s a p k) k p ((vf a k).fdiv (vf a p))=fx s a p (k+1):=by
 unfold kI fx;dsimp only;rw[mq,mq];congr 1
 . apply Ci;intro r hr;exact KU (by rw[hu r hr];exact hp) (by rw[hu r hr];exact hk) hkp
 . apply Ci;intro x hx;show AI.mk _ _=AI.mk _ _;rw[show kV k p ((vf a k).fdiv (vf a p)) (bW a p k x.g)=bW a p (k+1) x.g from KU (by rw[hi x hx];exact hp) (by rw[hi x hx];exact hk) hkp]
theorem ET{n K:Nat}{a:List Int}{p k:Nat}{l:List Int}(hl:jQ n K l)(ha:∀j,dl (vf a j)<=8):jQ n (K+9) (bW a p k l):=by
 refine⟨pE.trans hl.1,fun v hv=>?_⟩;obtain⟨j,hj,rfl⟩:=gm hv;rw[pE]at hj;unfold bW;rw[dK hj];split
 . have h1:=hl.vf j;have h2:=hl.vf p;have h3:=j6 ((vf a j).fdiv (vf a p)) (vf l p);have h4:=rh (vf a j) (vf a p);have h5:=ha j;exact jU (K:=K+8) (by omega) (by omega)
 . have:=hl.vf j;omega
theorem S5{K:Nat}{s0 s:St}{i p:Nat}(hu:SU K s)(hn:s.n<=512)(hn0:s0.n=s.n)(hil:s.items.length<=1073741824)(hi:∀x∈s.items,jQ s.n 8 x.g)(hii:i<s.items.length)(hp:p<s.n)(hK8:8<=K)(hK:K+30<=cZ)(c0:Bool):
 Tm (fun N=>bH (zn N s0.to (i:Int) (s.items[i]).to (p:Int)) N (s.to.known,s.to.steps,s.to.u,s.to.status,s.to.value,s.to.items,s.to.stack,c0,0))
  (fun r=>∃c,r=((fx s (s.items[i]).g p s.n).to.known,(fx s (s.items[i]).g p s.n).to.steps,(fx s (s.items[i]).g p s.n).to.u,(fx s (s.items[i]).g p s.n).to.status,(fx s (s.items[i]).g p s.n).to.value,(fx s (s.items[i]).g p s.n).to.items,(fx s (s.items[i]).g p s.n).to.stack,c)/\(c=true↔c0=true/\∀j,j<s.n->j≠p->vf (s.items[i]).g j=0)):=by
 generalize hx:s.items[i]=x;have hxm:x∈s.items:=hx▸dt hii;obtain⟨xl,xd⟩:=hi x hxm;have hxl:x.to.g.length=s.n:=(dE _).trans xl;have ha:∀j,dl (vf x.g j)<=8:=jQ.vf ⟨xl,xd⟩;refine eG s.n (fun k t=>∃c,t=((fx s x.g p k).to.known,(fx s x.g p k).to.steps,(fx s x.g p k).to.u,(fx s x.g p k).to.status,(fx s x.g p k).to.value,(fx s x.g p k).to.items,(fx s x.g p k).to.stack,c,(k:Int))/\(c=true↔c0=true/\∀j,j<k->j≠p->vf x.g j=0)) ⟨c0,by rw[Nz];rfl,by simp⟩ ?_;rintro k hk _ ⟨c,rfl,hc⟩;dsimp only[zn];refine aY (fun hlt=>?_) (fun hge=>aL ?_)
 . have hlt:k<s.n:=by rw[hxl]at hlt;omega
   have hik:∀z∈(fx s x.g p k).items,jQ s.n (8+9) z.g:=by
    intro z hz;obtain⟨w,hw,rfl⟩:=dL.1 hz;exact ET (hi w hw) ha
   have hgk:(fx s x.g p k).items[i]?=some {x with g:=bW x.g p k x.g}:=by
    show(s.items.map _)[i]?=_;rw[gM,bV hii,hx];rfl
   refine Tm.bind (Q:=fun r=>(r.1,r.2.1,r.2.2.1,r.2.2.2.1,r.2.2.2.2.1,r.2.2.2.2.2.1,r.2.2.2.2.2.2.1)=iE (fx s x.g p (k+1))/\(r.2.2.2.2.2.2.2=true↔c0=true/\∀j,j<k+1->j≠p->vf x.g j=0)) (Tm.bind (Q:=fun b=>b=decide (k≠p/\vf x.g k≠0)) (aY (fun hkp=>?_) (fun hkp=>aL ?_)) ?_) ?_
   . have hkp:k≠p:=by omega
     refine aN (a:=({x with g:=bW x.g p k x.g}:AI).to) (kJ (by show((fx s x.g p k).items.map AI.to)[i]?=_;rw[gM,hgk];rfl)) ?_;refine aN (ej (l:=bW x.g p k x.g) (by rw[pE];omega)) ?_;have e:vf (bW x.g p k x.g) k=vf x.g k:=by unfold bW;rw[dK (by omega),if_neg (by omega)]
     rw[e];refine aT (jk (bO (ha k) (by decide))) (aL ?_);apply decide_eq_decide.2;rw[pz];exact⟨fun h=>⟨hkp,h⟩,fun h=>h.2⟩
   . rw[decide_eq_false];omega
   . rintro _ rfl;refine aY (fun h1=>?_) (fun h1=>aL ?_)
     . obtain⟨hkp,hk0⟩:=of_decide_eq_true h1;refine aN (ej (l:=x.g) (by omega)) (aN (ej (l:=x.g) (k:=p) (by omega)) (Tm.bind (qj (bO (ha k) (by decide)) (bO (ha p) (by decide))) ?_));intro r hr;rw[hr,iL (x:=(fx s x.g p k).to) (by show(s0.n:Int)=s.n;rw[hn0])];have hSUk:SU (K+9) (fx s x.g p k):=⟨⟨by show(s.u.map _).length=_;rw[cP];exact hu.u.1,fun l hl=>by
        obtain⟨w,hw,rfl⟩:=dL.1 hl;exact ET (hu.u.2 w hw) ha⟩,hu.st,⟨hu.v.1,fun v hv=>by have:=hu.v.2 v hv;omega⟩⟩
       have hq:=rh (vf x.g k) (vf x.g p);have hq8:=ha k;refine aT (OK (s:=fx s x.g p k) hSUk hn (by show(s.items.map _).length<=_;rw[cP];exact hil) (fun z hz=>⟨(hik z hz).1,fun v hv=>by have:=(hik z hz).2 v hv;omega⟩) hlt hp (by omega)) (aL ?_);rw[R6 (fun r hr=>(hu.u.2 r hr).1) (fun z hz=>(hi z hz).1) hp hlt hkp];refine⟨rfl,?_⟩;dsimp only;exact⟨fun e=>(by cases e),fun e=>absurd (e.2 k (by omega) hkp) hk0⟩
     . have h2:k=p\/vf x.g k=0:=by
        have:¬(k≠p/\vf x.g k≠0):=fun e=>h1 (decide_eq_true e);omega
       rw[Uq h2];refine⟨rfl,?_⟩;dsimp only;rw[hc];refine and_congr_right fun _=>⟨fun h j hj hjp=>?_,fun h j hj hjp=>h j (by omega) hjp⟩;rcases cw j k with h3|h3
       . exact h j h3 hjp
       . obtain rfl:j=k:=by omega
         rcases h2 with h2|h2
         . exact absurd h2 hjp
         . exact h2
   . rintro⟨r1,r2,r3,r4,r5,r6,r7,r8⟩ ⟨h1,h2⟩;dsimp only at h1 h2⊢;obtain⟨rfl,rfl,rfl,rfl,rfl,rfl,rfl⟩:=by simpa[iE]using h1
     exact aL ⟨hlt,r8,by rw[dW (by omega)],h2⟩
 . have:k=s.n:=by rw[hxl]at hge;omega
   subst this;exact⟨c,rfl,hc⟩
open Go Go.X
def bE(f g:Nat->Int):Nat->Int
 |0=>0
 |n+1=>bE f g n+f n*g n
theorem eD{f f' g g':Nat->Int}:∀{n:Nat},(∀j,j<n->f j=f' j)->(∀j,j<n->g j=g' j)->bE f g n=bE f' g' n
 |0,_,_=>rfl
 |n+1,h,h'=>by simp only[bE];rw[eD (n:=n) (fun j hj=>h j (by omega)) (fun j hj=>h' j (by omega)),h n (by omega),h' n (by omega)]
theorem tV{f h g:Nat->Int}{k:Int}:∀n,bE (fun j=>f j+k*h j) g n=bE f g n+k*bE h g n
 |0=>by simp[bE]
 |n+1=>by simp only[bE,tV n];grind
theorem sf{f g:Nat->Int}{k:Int}:∀n,bE (fun j=>k*f j) g n=k*bE f g n
 |0=>by simp[bE]
 |n+1=>by simp only[bE,sf n];grind
theorem pC{f g:Nat->Int}:∀n,bE f g n=bE g f n
 |0=>rfl
 |n+1=>by simp only[bE,pC n];grind
theorem rb{f g:Nat->Int}:∀{n:Nat},(∀j,j<n->f j=0)->bE f g n=0
 |0,_=>rfl
 |n+1,h=>by simp only[bE];rw[rb (n:=n) fun j hj=>h j (by omega),h n (by omega)];simp
theorem qD{f g:Nat->Int}{p:Nat}:∀{n:Nat},p<n->(∀j,j<n->j≠p->f j=0)->bE f g n=f p*g p
 |n+1,hp,h=>by
  simp only[bE];by_cases e:n=p
  . subst e;rw[rb fun j hj=>h j (by omega) (by omega)];simp
  . rw[qD (n:=n) (by omega) fun j hj=>h j (by omega),h n (by omega) e];simp
def cJ(y:Nat->Int)(v:Nat)(z:Int):Nat->Int:=fun j=>if j=v then z else y j
theorem ug{f y:Nat->Int}{v:Nat}{z:Int}:∀{n:Nat},v<n->bE f (cJ y v z) n=bE f y n+f v*(z-y v)
 |n+1,hv=>by
  simp only[bE];by_cases e:n=v
  . subst e;rw[eD (f:=f) (f':=f) (g:=cJ y n z) (g':=y) (n:=n) (fun _ _=>rfl) fun j hj=>by unfold cJ;rw[if_neg (by omega)]];unfold cJ;rw[if_pos rfl];grind
  . rw[ug (n:=n) (by omega)];unfold cJ;rw[if_neg e];grind
theorem mC{c y:Nat->Int}{U:Nat->Nat->Int}{n:Nat}:∀{m:Nat},bE c (fun i=>bE (U i) y n) m=bE (fun j=>bE c (fun i=>U i j) m) y n
 |0=>by simp only[bE];rw[rb fun _ _=>rfl]
 |m+1=>by
  simp only[bE];rw[mC (m:=m)];have:=tV (f:=fun j=>bE c (fun i=>U i j) m) (h:=fun j=>U m j) (g:=y) (k:=c m) n;exact this.symm
theorem Dt{f g:Nat->Int}{d:Int}:∀{n:Nat},(∀j,j<n->d∣f j)->d∣bE f g n
 |0,_=>yJ d
 |n+1,h=>Int.dvd_add (Dt fun j hj=>h j (by omega)) (Int.dvd_trans (h n (by omega)) (Int.dvd_mul_right ..))
def mx(u:List (List Int))(i j:Nat):Int:=vf (u.getD i []) j
def ux(s:St)(y:Nat->Int)(i:Nat):Int:=bE (mx s.u i) y s.n
def cu(u:List (List Int))(n:Nat)(c:List Int)(j:Nat):Int:=bE (vf c) (fun i=>mx u i j) n
theorem AD(s:St)(c:List Int)(y:Nat->Int):bE (vf c) (ux s y) s.n=bE (cu s.u s.n c) y s.n:=mC
theorem LK{s:St}{y:Nat->Int}{v:Nat}{z:Int}{i:Nat}(hv:v<s.n):ux s (cJ y v z) i=ux s y i+mx s.u i v*(z-y v):=ug hv
def Unim(u:List (List Int))(n:Nat)(w:Nat->Nat->Int):Prop:=(∀i,i<n->∀k,k<n->bE (mx u i) (fun j=>w j k) n=if i=k then 1 else 0)/\∀i,i<n->∀k,k<n->bE (w i) (fun j=>mx u j k) n=if i=k then 1 else 0
theorem oG{c:Nat->Int}{n k:Nat}(hk:k<n):bE c (fun i=>if i=k then 1 else 0) n=c k:=by
 rw[pC,qD hk fun j _ hj=>if_neg hj,if_pos rfl];omega
theorem Bm{u:List (List Int)}{n:Nat}{w:Nat->Nat->Int}(h:Unim u n w){c:List Int}{k:Nat}(hk:k<n):vf c k=bE (cu u n c) (fun j=>w j k) n:=by
 have:bE (cu u n c) (fun j=>w j k) n=bE (vf c) (fun i=>bE (mx u i) (fun j=>w j k) n) n:=mC.symm;rw[this,eD (f':=vf c) (g':=fun i=>if i=k then 1 else 0) (fun _ _=>rfl) (fun i hi=>h.1 i hi k hk),oG hk]
theorem yO{u:List (List Int)}{n:Nat}{a b:List Int}{k:Int}{j:Nat}{c:List Int}(h:∀i,i<n->vf c i=vf a i+k*vf b i):cu u n c j=cu u n a j+k*cu u n b j:=by
 unfold cu;rw[eD (f':=fun i=>vf a i+k*vf b i) (g':=fun i=>mx u i j) h fun _ _=>rfl,tV]
theorem BY{u:List (List Int)}{n:Nat}{a c:List Int}{k:Int}{j:Nat}(h:∀i,i<n->vf c i=k*vf a i):cu u n c j=k*cu u n a j:=by
 unfold cu;rw[eD (f':=fun i=>k*vf a i) (g':=fun i=>mx u i j) h fun _ _=>rfl,sf]
structure Inv (s:St):Prop where
 ul:s.u.length=s.n/\∀r∈s.u,r.length=s.n
 fR:s.status.length=s.n
 vl:s.value.length=s.n
 kl:∀q∈s.known,q.c.length=s.n
 it:∀x∈s.items,x.pos<s.known.length/\x.g.length=s.n
 dp:∀x∈s.items,∀j,j<s.n->vf x.g j=cu s.u s.n (aI s.known x.pos).c j
 nf:∀x∈s.items,∀j,j<s.n->vf s.status j≠0->vf x.g j=0
 gF:∀x∈s.items,df x.g=1
 j2:s.items.Pairwise fun x y=>x.g≠y.g
 kp:∃w,Unim s.u s.n w
 stat:∀j,j<s.n->vf s.status j=0\/vf s.status j=1\/vf s.status j=2
 sv:∀e∈s.stack,e.v<s.n/\vf s.status e.v=2/\∀p∈e.items,p<s.known.length
 s2:∀j,j<s.n->vf s.status j=2->∃e∈s.stack,e.v=j
 sd:s.stack.Pairwise fun e' e=>e'.v≠e.v/\∀p∈e.items,cu s.u s.n (aI s.known p).c e'.v=0
def IH(s:St)(y:Nat->Int)(x:AI):Prop:=bE (vf x.g) y s.n<=(aI s.known x.pos).b
def hx(s:St)(x:Nat->Int)(p:Nat):Prop:=bE (vf (aI s.known p).c) x s.n<=(aI s.known p).b
theorem u6{s:St}(h:Inv s){x:AI}(hx':x∈s.items){y:Nat->Int}:IH s y x↔hx s (ux s y) x.pos:=by
 unfold IH hx;rw[AD,eD (f:=vf x.g) (f':=cu s.u s.n (aI s.known x.pos).c) (g:=y) (g':=y) (h.dp x hx') fun _ _=>rfl]
def Fx(s:St)(y:Nat->Int):Prop:=∀j,j<s.n->vf s.status j=1->y j=vf s.value j
def Hs(s:St)(y:Nat->Int)(k:Nat):Prop:=Fx s y/\(∀x∈s.items,IH s y x)/\∀e∈s.stack.drop k,∀p∈e.items,hx s (ux s y) p
structure gT (s s':St):Prop where
 n:s'.n=s.n
 kn:∃e,s'.known=s.known++e
 dN:∃t,s'.stack=s.stack++t
 col:∀j,j<s.n->vf s.status j≠0->vf s'.status j=vf s.status j/\(vf s.status j=1->vf s'.value j=vf s.value j)/\∀i,i<s.n->mx s'.u i j=mx s.u i j
 tr:∀y',∃y,(∀i,i<s.n->ux s' y' i=ux s y i)/\(∀j,j<s.n->vf s.status j≠0->y j=y' j)/\∀k,k<=s.stack.length->Hs s' y' k->Hs s y k
theorem gT.refl(s:St):gT s s:=⟨rfl,⟨[],by simp⟩,⟨[],by simp⟩,fun j _ _=>⟨rfl,fun _=>rfl,fun _ _=>rfl⟩,fun y=>⟨y,fun _ _=>rfl,fun _ _ _=>rfl,fun _ _ h=>h⟩⟩
theorem gT.trans{a b c:St}(h:gT a b)(h':gT b c):gT a c:=by
 obtain⟨e1,h1⟩:=h.kn;obtain⟨e2,h2⟩:=h'.kn;obtain⟨t1,g1⟩:=h.dN;obtain⟨t2,g2⟩:=h'.dN;refine⟨h'.n.trans h.n,⟨e1++e2,by rw[h2,h1,iq]⟩,⟨t1++t2,by rw[g2,g1,iq]⟩,fun j hj hs=>?_,fun y''=>?_⟩
 . obtain⟨c1,c2,c3⟩:=h.col j hj hs;obtain⟨d1,d2,d3⟩:=h'.col j (by rw[h.n];exact hj) (by rw[c1];exact hs);exact⟨d1.trans c1,fun e=>(d2 (by rw[c1];exact e)).trans (c2 e),fun i hi=>(d3 i (by rw[h.n];exact hi)).trans (c3 i hi)⟩
 . obtain⟨y',p1,p2,p3⟩:=h'.tr y'';obtain⟨y,q1,q2,q3⟩:=h.tr y';refine⟨y,fun i hi=>(p1 i (by rw[h.n];exact hi)).trans (q1 i hi),fun j hj hs=>(q2 j hj hs).trans (p2 j (by rw[h.n];exact hj) (by rw[(h.col j hj hs).1];exact hs)),fun k hk hh=>q3 k hk (p3 k (by rw[g1];simp;omega) hh)⟩
structure RF (sys:List AQ)(s:St):Prop where
 R:∀y,Hs s y 0->∀q∈sys,bE (vf q.c) (ux s y) s.n<=q.b
 F:∀k e,s.stack[k]?=some e->e.dA=false->∀y,Hs s y (k+1)->∃z,∀p∈e.items,hx s (ux s (cJ y e.v z)) p
theorem sc{s s':St}(hn:s'.n=s.n){e:List AQ}(h:s'.known=s.known++e){p:Nat}(hp:p<s.known.length){x x':Nat->Int}(hx':∀i,i<s.n->x' i=x i):hx s' x' p↔hx s x p:=by
 unfold hx;rw[h,iF hp,hn,eD (f:=vf (aI s.known p).c) (f':=vf (aI s.known p).c) (fun _ _=>rfl) hx']
theorem gT.R{sys:List AQ}{s s':St}(h:gT s s')(hr:∀y,Hs s y 0->∀q∈sys,bE (vf q.c) (ux s y) s.n<=q.b):∀y,Hs s' y 0->∀q∈sys,bE (vf q.c) (ux s' y) s'.n<=q.b:=by
 intro y' hy q hq;obtain⟨y,h1,h2,h3⟩:=h.tr y';have:=hr y (h3 0 (fC _) hy) q hq;rw[h.n,eD (f:=vf q.c) (f':=vf q.c) (fun _ _=>rfl) h1];exact this
theorem gT.F{s s':St}(h:gT s s')(hI:Inv s){k:Nat}{e:AE}(hk:s.stack[k]?=some e)(hf:∀y,Hs s y (k+1)->∃z,∀p∈e.items,hx s (ux s (cJ y e.v z)) p):∀y,Hs s' y (k+1)->∃z,∀p∈e.items,hx s' (ux s' (cJ y e.v z)) p:=by
 intro y' hy;obtain⟨y,h1,h2,h3⟩:=h.tr y';have hkl:k<s.stack.length:=(dU.1 hk).1;obtain⟨z,hz⟩:=hf y (h3 (k+1) hkl hy);have hm:e∈s.stack:=ni hk;obtain⟨e1,e2,e3⟩:=hI.sv e hm;obtain⟨ek,hek⟩:=h.kn;refine⟨z,fun p hp=>(sc h.n hek (e3 p hp) fun i hi=>?_).2 (hz p hp)⟩;rw[LK (by rw[h.n];exact e1),LK e1,h1 i hi,h2 e.v e1 (by omega),(h.col e.v e1 (by omega)).2.2 i hi]
def B2(s:St)(us:List AU)(j:Nat):Int:=cu s.u s.n (vec s.n (eb s.known us)) j
structure nQ (s:St)(g:List Int)(us:List AU):Prop where
 dp:∀j,j<s.n->vf g j=B2 s us j
 nf:∀j,j<s.n->vf s.status j≠0->vf g j=0
theorem F5{g:List Int}{n j:Nat}(hl:g.length=n)(hj:j<n):vf (vec n fun j=>vf g j/dv g) j*dv g=vf g j:=by
 rw[dK hj];refine Np ?_;unfold dv;split
 . exact Int.one_dvd _
 . exact rE (fU (by omega))
theorem Mx{s:St}{g:List Int}{us:List AU}(hI:Inv s)(hl:g.length=s.n)(h:nQ s g us){i:Nat}(hi:i<s.n):dv g∣eb s.known us i:=by
 obtain⟨w,hw⟩:=hI.kp;have h1:=Bm hw (c:=vec s.n (eb s.known us)) hi;rw[dK hi]at h1;rw[h1];refine Dt fun j hj=>?_;rw[<-show B2 s us j=cu s.u s.n (vec s.n (eb s.known us)) j from rfl,<-h.dp j hj];unfold dv;split
 . exact Int.one_dvd _
 . exact rE (fU (by omega))
theorem If{K:Nat}{s:St}{g:List Int}{us:List AU}(hI:Inv s)(hp:gD K s g us)(h:nQ s g us):∀j,j<s.n->vf (k9 s g us).g j=cu s.u s.n (aI (dst s g us).known (iD s g us)).c j:=by
 intro j hj;show vf (vec s.n fun j=>vf g j/dv g) j=_;have hd:=qg g;have h1:=F5 (j:=j) hp.gl hj;by_cases hm:many g us=true
 . have e:aI (dst s g us).known (iD s g us)=mH s.n s.known us (dv g):=by
    unfold dst iD;rw[if_pos hm,if_pos hm];exact oL
   rw[e];have h2:cu s.u s.n (vec s.n (eb s.known us)) j=dv g*cu s.u s.n (mH s.n s.known us (dv g)).c j:=BY fun i hi=>by
    rw[dK hi];show _=dv g*vf (vec s.n _) i;rw[dK hi,fH,Np (Mx hI hp.gl h hi)]
   rw[h.dp j hj]at h1;have h3:dv g*vf (vec s.n fun j=>vf g j/dv g) j=dv g*cu s.u s.n (mH s.n s.known us (dv g)).c j:=by
    rw[<-h2,fH,h1];rfl
   exact Gn (by omega) h3
 . have hm':=hm;have e:aI (dst s g us).known (iD s g us)=aI s.known (us.headD ⟨0,0⟩).ix:=by
    unfold dst iD;rw[if_neg hm,if_neg hm]
   rw[e];unfold many at hm;simp only[vR,decide_eq_true_eq,not_or,Nat.not_lt,tB]at hm;obtain⟨m1,m2,m3⟩:=hm;have hu0:=hp.u0
   match us,hu0,m1 with
   |[u],_,_=>
    have m2:u.n=1:=m2;have h1:vf (vec s.n fun j=>vf g j/dv g) j=vf g j:=by
     have h2:=h1;rwa[show∀z:Int,z*dv g=z from fun z=>by rw[m3];omega]at h2
    rw[h1,h.dp j hj];show cu s.u s.n (vec s.n (eb s.known [u])) j=cu s.u s.n (aI s.known u.ix).c j;unfold cu;refine eD (fun i hi=>?_) fun _ _=>rfl;rw[dK hi];show u.n*vf (aI s.known u.ix).c i+0=_;rw[m2];omega
theorem H8{K:Nat}{s:St}{g:List Int}{us:List AU}(hp:gD K s g us):(aI (dst s g us).known (iD s g us)).b=gg s.known us/dv g:=by
 by_cases hm:many g us=true
 . have e:aI (dst s g us).known (iD s g us)=mH s.n s.known us (dv g):=by
    unfold dst iD;rw[if_pos hm,if_pos hm];exact oL
   rw[e];rfl
 . have e:aI (dst s g us).known (iD s g us)=aI s.known (us.headD ⟨0,0⟩).ix:=by
    unfold dst iD;rw[if_neg hm,if_neg hm]
   rw[e];unfold many at hm;simp only[vR,decide_eq_true_eq,not_or,Nat.not_lt,tB]at hm;obtain⟨m1,m2,m3⟩:=hm;have hu0:=hp.u0
   match us,hu0,m1 with
   |[u],_,_=>
    have m2:u.n=1:=m2;show(aI s.known u.ix).b=(u.n*(aI s.known u.ix).b+0)/dv g;rw[m2,m3];omega
theorem UC{g:List Int}{n:Nat}(hl:g.length=n)(h:df g≠0):df (vec n fun j=>vf g j/dv g)=1:=by
 generalize hk:df (vec n fun j=>vf g j/dv g)=k;have hd:dv g=(df g:Nat):=by unfold dv;rw[if_neg h]
 have h1:((k*df g:Nat):Int)∣((df g:Nat):Int):=pF fun x hx=>by
  obtain⟨j,hj,rfl⟩:=gm hx;have h2:=F5 (g:=g) (n:=n) (j:=j) hl (by omega);rw[<-h2,hd,Gi];refine Int.mul_dvd_mul ?_ (Int.dvd_refl _);rw[<-hk];rw[<-hd];exact rE (fU (by rw[fh];omega))
 have h2:k*df g∣df g:=Nq.1 h1;obtain⟨c,hc⟩:=h2;have:0<df g:=by omega
 have h3:df g*(k*c)=df g*1:=by rw[Nat.mul_one,<-Nat.mul_assoc,Nat.mul_comm (df g) k];exact hc.symm
 have h4:=Nat.eq_of_mul_eq_mul_left this h3;exact Nat.eq_one_of_mul_eq_one_right h4
theorem Mk{kn:List AQ}{x:AI}:∀{l:List AI},l.Pairwise (fun x y=>x.g≠y.g)->(eh kn x l).Pairwise fun x y=>x.g≠y.g
 |[],_=>by simp[eh]
 |y::l,h=>by
  obtain⟨h1,h2⟩:=yK.1 h;rw[eh];split
  . rename_i e;split
    . exact yK.2 ⟨fun z hz=>by rw[e];exact h1 z hz,h2⟩
    . exact h
  . rename_i e;refine yK.2 ⟨fun z hz=>?_,Mk h2⟩;rcases mi hz with rfl|hz
    . exact fun e'=>e e'.symm
    . exact h1 z hz
theorem zC{s:St}{x:AI}{y:Nat->Int}:∀{l:List AI},(∀z∈eh s.known x l,IH s y z)->(∀z∈l,IH s y z)/\IH s y x
 |[],h=>⟨fun z hz=>(by cases hz),h x (by simp[eh])⟩
 |w::l,h=>by
  rw[eh]at h;split at h
  . rename_i e;split at h
    . rename_i hb;have hx:=h x cK;refine⟨fun z hz=>?_,hx⟩;rcases dT.1 hz with rfl|hz
      . unfold IH at hx⊢;rw[<-e];omega
      . exact h z (cG _ hz)
    . rename_i hb;refine⟨h,?_⟩;have hw:=h w cK;unfold IH at hw⊢;rw[e];omega
  . have h1:=zC (l:=l) fun z hz=>h z (cG _ hz);refine⟨fun z hz=>?_,h1.2⟩;rcases dT.1 hz with rfl|hz
    . exact h z cK
    . exact h1.1 z hz
structure kA (s:St)(x:AI):Prop where
 pos:x.pos<s.known.length
 gl:x.g.length=s.n
 dp:∀j,j<s.n->vf x.g j=cu s.u s.n (aI s.known x.pos).c j
 nf:∀j,j<s.n->vf s.status j≠0->vf x.g j=0
 gF:df x.g=1
theorem Inv.add{s:St}(h:Inv s){x:AI}(hx:kA s x):Inv (add s x)where
 ul:=h.ul
 fR:=h.fR
 vl:=h.vl
 kl:=h.kl
 it z hz:=(mi hz).elim (fun e=>by subst e;exact⟨hx.pos,hx.gl⟩) (fun hz=>h.it z hz)
 dp z hz:=(mi hz).elim (fun e=>by subst e;exact hx.dp) (fun hz=>h.dp z hz)
 nf z hz:=(mi hz).elim (fun e=>by subst e;exact hx.nf) (fun hz=>h.nf z hz)
 gF z hz:=(mi hz).elim (fun e=>by subst e;exact hx.gF) (fun hz=>h.gF z hz)
 j2:=Mk h.j2
 kp:=h.kp
 stat:=h.stat
 sv:=h.sv
 s2:=h.s2
 sd:=h.sd
theorem Inv.known{s:St}(h:Inv s){kn e:List AQ}{st:List AS}(hk:kn=s.known++e)(he:∀q∈e,q.c.length=s.n):Inv {s with known:=kn,steps:=st}where
 ul:=h.ul
 fR:=h.fR
 vl:=h.vl
 kl q hq:=by
  have hq:q∈kn:=hq;rw[hk]at hq;rcases fb.1 hq with hq|hq
  . exact h.kl q hq
  . exact he q hq
 it z hz:=⟨by have:=(h.it z hz).1;show _<kn.length;rw[hk];simp;omega,(h.it z hz).2⟩
 dp z hz j hj:=by rw[h.dp z hz j hj];show _=cu s.u s.n (aI kn z.pos).c j;rw[hk,iF (h.it z hz).1]
 nf:=h.nf
 gF:=h.gF
 j2:=h.j2
 kp:=h.kp
 stat:=h.stat
 sv e' he':=⟨(h.sv e' he').1,(h.sv e' he').2.1,fun p hp=>by have:=(h.sv e' he').2.2 p hp;show _<kn.length;rw[hk];simp;omega⟩
 s2:=h.s2
 sd:=by
  have hsv:=h.sv;have:∀a b,a∈s.stack->b∈s.stack->(a.v≠b.v/\∀p∈b.items,cu s.u s.n (aI s.known p).c a.v=0)->(a.v≠b.v/\∀p∈b.items,cu s.u s.n (aI kn p).c a.v=0):=fun a b ha hb hab=>⟨hab.1,fun p hp=>by rw[hk,iF ((hsv b hb).2.2 p hp)];exact hab.2 p hp⟩;exact Nr (fun{a b} ha hb hab=>this a b ha hb hab) h.sd
theorem Inv.dst{K:Nat}{s:St}(h:Inv s){g:List Int}{us:List AU}(hp:gD K s g us):Inv (dst s g us):=by
 unfold D.dst;split
 . exact h.known rfl fun q hq=>by rw[cI.1 hq];exact fh
 . exact h
theorem Cy(s:St)(g:List Int)(us:List AU):(dst s g us).u=s.u/\(dst s g us).status=s.status/\(dst s g us).value=s.value/\(dst s g us).stack=s.stack/\(dst s g us).n=s.n/\(dst s g us).items=s.items:=by
 unfold dst;split<;>exact⟨rfl,rfl,rfl,rfl,rfl,rfl⟩
theorem T6(s:St)(g:List Int)(us:List AU):(put s g us).2.u=s.u/\(put s g us).2.status=s.status/\(put s g us).2.value=s.value/\(put s g us).2.stack=s.stack/\(put s g us).2.n=s.n:=by
 obtain⟨h1,h2,h3,h4,h5,_⟩:=Cy s g us;unfold put;dsimp only;split<;>exact⟨h1,h2,h3,h4,h5⟩
theorem Uu{K:Nat}{s:St}(h:Inv s){g:List Int}{us:List AU}(hp:gD K s g us)(hs:nQ s g us)(h0:df g≠0):kA (dst s g us) (k9 s g us):=by
 obtain⟨h1,h2,h3,h4,h5,_⟩:=Cy s g us;refine⟨BH hp,by rw[h5];exact fh,fun j hj=>?_,fun j hj hst=>?_,UC hp.gl h0⟩
 . rw[h5]at hj⊢;rw[h1];exact If h hp hs j hj
 . rw[h5]at hj;rw[h2]at hst;show vf (vec s.n fun j=>vf g j/dv g) j=0;rw[dK hj,hs.nf j hj hst];simp
theorem Inv.put{K:Nat}{s:St}(h:Inv s){g:List Int}{us:List AU}(hp:gD K s g us)(hs:nQ s g us):Inv (put s g us).2:=by
 unfold D.put;dsimp only;split
 . rename_i h0;exact(h.dst hp).add (Uu h hp hs h0)
 . exact h.dst hp
theorem yr{s s':St}(hn:s'.n=s.n){e:List AQ}(he:s'.known=s.known++e){x:AI}(hx:x.pos<s.known.length){y:Nat->Int}:IH s' y x↔IH s y x:=by
 unfold IH;rw[hn,he,iF hx]
theorem Sh{K:Nat}{s:St}(h:Inv s){g:List Int}{us:List AU}(hp:gD K s g us)(hs:nQ s g us)(hok:(put s g us).1=true){y:Nat->Int}(hy:∀z∈(put s g us).2.items,IH (put s g us).2 y z):
 (∀z∈s.items,IH s y z)/\bE (vf g) y s.n<=gg s.known us:=by
 obtain⟨e,he,_⟩:=GS s g us;obtain⟨f1,f2,f3,f4,f5,f6⟩:=Cy s g us;have hd:=qg g;have hb:=H8 hp;by_cases h0:df g≠0
 . have e2:(D.put s g us).2=add (dst s g us) (k9 s g us):=by unfold D.put;dsimp only;rw[if_pos h0]
   rw[e2]at hy;obtain⟨h1,h2⟩:=zC (s:=dst s g us) hy;rw[f6]at h1;refine⟨fun z hz=>(yr f5 he (h.it z hz).1).1 (h1 z hz),?_⟩;unfold IH at h2;rw[f5]at h2;have h3:bE (vf g) y s.n=dv g*bE (vf (k9 s g us).g) y s.n:=by
    rw[<-sf];refine eD (fun j hj=>?_) fun _ _=>rfl;rw[fH];exact(F5 hp.gl hj).symm
   rw[show(aI (dst s g us).known (k9 s g us).pos).b=gg s.known us/dv g from hb]at h2;have h4:=fZ h2 (ee hd);have h5:=Int.mul_ediv_self_le (x:=gg s.known us) (k:=dv g) (by omega);omega
 . have e2:(D.put s g us).2=dst s g us:=by unfold D.put;dsimp only;rw[if_neg h0]
   rw[e2,f6]at hy;refine⟨fun z hz=>(yr f5 he (h.it z hz).1).1 (hy z hz),?_⟩;have h0:=tB.1 h0;have hz:=Kx h0;rw[rb fun j hj=>hz _ (fU (by rw[hp.gl];exact hj))];have:mP s g us=true:=hok;unfold mP at this;rw[hb]at this;have hd1:dv g=1:=by unfold dv;rw[if_pos h0]
   rw[hd1,Int.ediv_one]at this;simpa[h0]using this
theorem NH{K:Nat}{s:St}(h:Inv s){g:List Int}{us:List AU}(hp:gD K s g us)(hs:nQ s g us)(hok:(put s g us).1=false):∃q∈(put s g us).2.known,(∀j,j<s.n->vf q.c j=0)/\q.b<0:=by
 have hk:mP s g us=false:=hok;unfold mP at hk;simp only[Gj,decide_eq_false_iff_not,ne_eq,tB,Int.not_le]at hk;obtain⟨h0,hb⟩:=hk;have e2:(D.put s g us).2=dst s g us:=by unfold D.put;dsimp only;rw[if_neg (by simpa using h0)]
 rw[e2];refine⟨_,eL (BH hp),fun j hj=>?_,hb⟩;obtain⟨w,hw⟩:=h.kp;rw[Bm hw hj];refine rb fun i hi=>?_;rw[<-If h hp hs i hi];show vf (vec s.n fun j=>vf g j/dv g) i=0;rw[dK hi,Kx h0 _ (fU (by rw[hp.gl];exact hi))];simp
open Go Go.X
structure qk (n:Nat)(R:List Int->List Int)(T T':Nat->Nat->Int)(st:Nat->Int):Prop where
 len:∀l,l.length=n->(R l).length=n
 row:∀l,l.length=n->∀j,j<n->vf (R l) j=bE (vf l) (fun k=>T k j) n
 one:∀i,i<n->∀k,k<n->bE (T i) (fun j=>T' j k) n=if i=k then 1 else 0
 two:∀i,i<n->∀k,k<n->bE (T' i) (fun j=>T j k) n=if i=k then 1 else 0
 nf:∀j,j<n->st j≠0->∀k,k<n->T k j=(if k=j then 1 else 0)/\T j k=(if k=j then 1 else 0)
theorem OC{c:Nat->Int}{n k:Nat}(hk:k<n):bE (fun i=>if i=k then 1 else 0) c n=c k:=by
 rw[pC,oG hk]
theorem Ja{c:Nat->Int}{n k:Nat}(hk:k<n):bE c (fun i=>if k=i then 1 else 0) n=c k:=by
 rw[<-oG (c:=c) hk];exact eD (fun _ _=>rfl) fun j _=>by by_cases e:k=j<;>simp[e,eq_comm]
def gP(s:St)(R:List Int->List Int):St:={s with u:=s.u.map R,items:=s.items.map fun x=>{x with g:=R x.g}}
section
variable {s:St} {R:List Int->List Int} {T T':Nat->Nat->Int}
theorem xf(h:Inv s)(b:qk s.n R T T' (vf s.status)){i j:Nat}(hi:i<s.n)(hj:j<s.n):mx (gP s R).u i j=bE (mx s.u i) (fun k=>T k j) s.n:=by
 have hl:i<s.u.length:=by rw[h.ul.1];exact hi
 unfold mx;have e:(gP s R).u.getD i []=R (s.u.getD i []):=by
  show(s.u.map R).getD i []=_;rw[cy,cy,gM,bV hl];rfl
 rw[e];refine b.row _ ?_ j hj;rw[cy,bV hl];exact h.ul.2 _ (dt hl)
theorem Ma(h:Inv s)(b:qk s.n R T T' (vf s.status)){c:List Int}{j:Nat}(hj:j<s.n):cu (gP s R).u s.n c j=bE (cu s.u s.n c) (fun k=>T k j) s.n:=by
 unfold cu;rw[eD (f':=vf c) (g':=fun i=>bE (mx s.u i) (fun k=>T k j) s.n) (fun _ _=>rfl) fun i hi=>xf h b hi hj];exact mC
theorem FP(b:qk s.n R T T' (vf s.status)){f:Nat->Int}{j:Nat}(hj:j<s.n)(hst:vf s.status j≠0):bE f (fun k=>T k j) s.n=f j:=by
 rw[eD (f:=f) (f':=f) (g':=fun k=>if k=j then 1 else 0) (fun _ _=>rfl) fun k hk=>(b.nf j hj hst k hk).1];exact oG hj
theorem Dn(b:qk s.n R T T' (vf s.status)){l:List Int}(hl:l.length=s.n){k:Nat}(hk:k<s.n):vf l k=bE (vf (R l)) (fun j=>T' j k) s.n:=by
 rw[eD (f':=fun j=>bE (vf l) (fun m=>T m j) s.n) (g':=fun j=>T' j k) (fun j hj=>b.row l hl j hj) fun _ _=>rfl];have:bE (fun j=>bE (vf l) (fun m=>T m j) s.n) (fun j=>T' j k) s.n=bE (vf l) (fun m=>bE (T m) (fun j=>T' j k) s.n) s.n:=mC.symm;rw[this,eD (f:=vf l) (f':=vf l) (g':=fun m=>if m=k then 1 else 0) (fun _ _=>rfl) fun m hm=>b.one m hm k hk,oG hk]
theorem Inv.ch(h:Inv s)(b:qk s.n R T T' (vf s.status)):Inv (gP s R)where
 ul:=⟨by show(s.u.map R).length=_;rw[cP];exact h.ul.1,fun r hr=>by
  obtain⟨l,hl,rfl⟩:=dL.1 hr;exact b.len l (h.ul.2 l hl)⟩
 fR:=h.fR
 vl:=h.vl
 kl:=h.kl
 it x hx:=by
  obtain⟨z,hz,rfl⟩:=dL.1 hx;exact⟨(h.it z hz).1,b.len _ (h.it z hz).2⟩
 dp x hx j hj:=by
  obtain⟨z,hz,rfl⟩:=dL.1 hx;show vf (R z.g) j=cu (gP s R).u s.n (aI s.known z.pos).c j;rw[Ma h b hj,b.row z.g (h.it z hz).2 j hj];exact eD (h.dp z hz) fun _ _=>rfl
 nf x hx j hj hst:=by
  obtain⟨z,hz,rfl⟩:=dL.1 hx;show vf (R z.g) j=0;rw[b.row z.g (h.it z hz).2 j hj,FP b hj hst];exact h.nf z hz j hj hst
 gF x hx:=by
  obtain⟨z,hz,rfl⟩:=dL.1 hx;have h1:=h.gF z hz;have hzl:=(h.it z hz).2;have h2:((df (R z.g):Nat):Int)∣((df z.g:Nat):Int):=pF fun v hv=>by
   obtain⟨k,hk,rfl⟩:=gm hv;rw[Dn b hzl (by omega)];exact Dt fun j hj=>rE (fU (by rw[b.len _ hzl];exact hj))
  rw[h1]at h2;exact GJ (Nq.1 h2)
 j2:=by
  show(s.items.map _).Pairwise _;rw[GK];refine Nr (fun{x y} hx hy hne e=>hne ?_) h.j2;have e:R x.g=R y.g:=e;have hxl:=(h.it x hx).2;have hyl:=(h.it y hy).2;refine l8 (hxl.trans hyl.symm) fun k hk=>?_;rw[Dn b hxl (by omega),Dn b hyl (by omega),e]
 kp:=by
  obtain⟨w,hw⟩:=h.kp;refine⟨fun j k=>bE (T' j) (fun m=>w m k) s.n,fun i hi k hk=>?_,fun i hi k hk=>?_⟩
  . show bE (mx (gP s R).u i) (fun j=>bE (T' j) (fun m=>w m k) s.n) s.n=_;rw[mC];rw[eD (f':=mx s.u i) (g':=fun m=>w m k) (fun m hm=>?_) fun _ _=>rfl]
    . exact hw.1 i hi k hk
    . rw[eD (f':=fun j=>bE (mx s.u i) (fun k=>T k j) s.n) (g':=fun j=>T' j m) (fun j hj=>xf h b hi hj) fun _ _=>rfl];have:bE (fun j=>bE (mx s.u i) (fun k=>T k j) s.n) (fun j=>T' j m) s.n=bE (mx s.u i) (fun r=>bE (T r) (fun j=>T' j m) s.n) s.n:=mC.symm;rw[this,eD (f:=mx s.u i) (f':=mx s.u i) (g':=fun r=>if r=m then 1 else 0) (fun _ _=>rfl) fun r hr=>b.one r hr m hm,oG hm]
  . show bE (fun k'=>bE (T' i) (fun m=>w m k') s.n) (fun j=>mx (gP s R).u j k) s.n=_;rw[eD (f:=fun k'=>bE (T' i) (fun m=>w m k') s.n) (f':=fun k'=>bE (T' i) (fun m=>w m k') s.n) (g':=fun j=>bE (mx s.u j) (fun r=>T r k) s.n) (fun _ _=>rfl) fun j hj=>xf h b hj hk];rw[mC];rw[eD (f':=T' i) (g':=fun r=>T r k) (fun r hr=>?_) fun _ _=>rfl]
    . exact b.two i hi k hk
    . have:bE (fun k'=>bE (T' i) (fun m=>w m k') s.n) (fun j=>mx s.u j r) s.n=bE (T' i) (fun m=>bE (w m) (fun j=>mx s.u j r) s.n) s.n:=mC.symm;rw[this,eD (f:=T' i) (f':=T' i) (g':=fun m=>if m=r then 1 else 0) (fun _ _=>rfl) fun m hm=>hw.2 m hm r hr,oG hr]
 stat:=h.stat
 sv:=h.sv
 s2:=h.s2
 sd:=by
  refine Nr (fun{a e} ha he hae=>⟨hae.1,fun p hp=>?_⟩) h.sd;obtain⟨a1,a2,_⟩:=h.sv a ha;show cu (gP s R).u s.n (aI s.known p).c a.v=0;rw[Ma h b a1,FP b a1 (by omega)];exact hae.2 p hp
theorem gT.ch(h:Inv s)(b:qk s.n R T T' (vf s.status)):gT s (gP s R):=by
 refine⟨rfl,⟨[],by simp[gP]⟩,⟨[],by simp[gP]⟩,fun j hj hst=>⟨rfl,fun _=>rfl,fun i hi=>?_⟩,fun y'=>?_⟩
 . rw[xf h b hi hj,FP b hj hst]
 . have hux:∀i,i<s.n->ux (gP s R) y' i=ux s (fun k=>bE (T k) y' s.n) i:=fun i hi=>by
    unfold ux;show bE (mx (gP s R).u i) y' s.n=_;rw[eD (f':=fun j=>bE (mx s.u i) (fun k=>T k j) s.n) (g':=y') (fun j hj=>xf h b hi hj) fun _ _=>rfl];exact mC.symm
   have hnf:∀j,j<s.n->vf s.status j≠0->bE (T j) y' s.n=y' j:=fun j hj hst=>by
    rw[eD (f':=fun k=>if k=j then 1 else 0) (g':=y') (fun k hk=>(b.nf j hj hst k hk).2) fun _ _=>rfl];exact OC hj
   refine⟨fun k=>bE (T k) y' s.n,hux,hnf,fun k hk ⟨h1,h2,h3⟩=>⟨fun j hj hst=>?_,fun x hx=>?_,fun e he p hp=>?_⟩⟩
   . show bE (T j) y' s.n=_;rw[hnf j hj (by omega)];exact h1 j hj hst
   . have:=h2 {x with g:=R x.g} (dL.2 ⟨x,hx,rfl⟩);unfold IH at this⊢;have e:bE (vf (R x.g)) y' s.n=bE (vf x.g) (fun k=>bE (T k) y' s.n) s.n:=by
      rw[eD (f':=fun j=>bE (vf x.g) (fun k=>T k j) s.n) (g':=y') (fun j hj=>b.row x.g (h.it x hx).2 j hj) fun _ _=>rfl];exact mC.symm
     rw[<-e];exact this
   . have:=h3 e he p hp;unfold hx at this⊢;show bE (vf (aI s.known p).c) _ s.n<=_;rw[eD (f:=vf (aI s.known p).c) (f':=vf (aI s.known p).c) (g:=ux s fun k=>bE (T k) y' s.n) (g':=ux (gP s R) y') (fun _ _=>rfl) fun i hi=>(hux i hi).symm];exact this
end
theorem Ny{f g:Nat->Int}{p k n:Nat}(hp:p<n)(hk:k<n)(hne:k≠p)(h:∀j,j<n->j≠p->j≠k->f j=0):bE f g n=f k*g k+f p*g p:=by
 have h1:=tV (f:=fun j=>if j=k then f j else 0) (h:=fun j=>if j=p then f j else 0) (g:=g) (k:=1) n;rw[qD (f:=fun j=>if j=k then f j else 0) hk fun j _ hj=>if_neg hj,qD (f:=fun j=>if j=p then f j else 0) hp fun j _ hj=>if_neg hj]at h1;simp only[if_true]at h1;rw[eD (f':=fun j=>(if j=k then f j else 0)+1*(if j=p then f j else 0)) (g':=g) (fun j hj=>?_) fun _ _=>rfl,h1]
 . omega
 . by_cases e1:j=k
   . subst e1;rw[if_pos rfl,if_neg hne];omega
   . by_cases e2:j=p
     . subst e2;rw[if_neg e1,if_pos rfl];omega
     . rw[if_neg e1,if_neg e2,h j hj e2 e1];omega
def rT(p:Nat)(q:Nat->Int)(k j:Nat):Int:=if k=j then 1 else if k=p then-q j else 0
theorem KO{p:Nat}{q:Nat->Int}{n j:Nat}{f:Nat->Int}(hp:p<n)(hj:j<n):bE f (fun k=>rT p q k j) n=if j=p then f j else f j-q j*f p:=by
 rw[pC];by_cases e:j=p
 . subst e;rw[if_pos rfl,qD hj fun i _ hi=>by unfold rT;rw[if_neg hi,if_neg hi]];unfold rT;rw[if_pos rfl];omega
 . rw[if_neg e,Ny hp hj e fun i _ h1 h2=>by unfold rT;rw[if_neg h2,if_neg h1]];unfold rT;rw[if_pos rfl,if_neg (by omega),if_pos rfl];grind
theorem HL{p:Nat}{q:Nat->Int}{n i k:Nat}(hp:p<n)(hi:i<n)(hk:k<n):bE (rT p q i) (fun j=>rT p (fun j=>-q j) j k) n=if i=k then 1 else 0:=by
 rw[KO hp hk];by_cases e:k=p
 . subst e;rw[if_pos rfl];unfold rT;by_cases e2:i=k
   . rw[if_pos e2,if_pos e2]
   . rw[if_neg e2,if_neg e2,if_neg e2]
 . rw[if_neg e];unfold rT;by_cases e2:i=k
   . subst e2;rw[if_pos rfl,if_neg e,if_neg e];simp
   . rw[if_neg e2];by_cases e3:i=p
     . subst e3;rw[if_pos rfl,if_pos rfl,if_neg e2];omega
     . rw[if_neg e3,if_neg e3,if_neg e3,if_neg e2];simp
theorem PF{s:St}{a:List Int}{p:Nat}(hp:p<s.n)(hps:vf s.status p=0)(ha:∀j,j<s.n->vf s.status j≠0->vf a j=0):
 qk s.n (bW a p s.n) (rT p fun j=>(vf a j).fdiv (vf a p)) (rT p fun j=>-(vf a j).fdiv (vf a p)) (vf s.status)where
 len l hl:=pE.trans hl
 row l hl j hj:=by
  rw[KO hp hj];unfold bW;rw[dK (by omega)];by_cases e:j=p
  . rw[if_neg (by omega),if_pos e]
  . rw[if_pos ⟨hj,e⟩,if_neg e]
 one i hi k hk:=HL hp hi hk
 two i hi k hk:=by
  have:=HL (q:=fun j=>-(vf a j).fdiv (vf a p)) hp hi hk;rw[<-this];refine eD (fun _ _=>rfl) fun j _=>?_;unfold rT;simp
 nf j hj hst k hk:=by
  have hjp:j≠p:=fun e=>hst (e▸hps);have h0:=ha j hj hst;unfold rT;constructor
  . by_cases e:k=j
    . rw[if_pos e,if_pos e]
    . rw[if_neg e,if_neg e];dsimp only;rw[h0,yI];simp
  . by_cases e:k=j
    . rw[if_pos e.symm,if_pos e]
    . rw[if_neg (fun h=>e h.symm),if_neg hjp,if_neg e]
theorem Qw(s:St)(a:List Int)(p:Nat):fx s a p s.n=gP s (bW a p s.n):=rfl
def fT(p k j:Nat):Int:=if k=j then(if k=p then-1 else 1)else 0
theorem Io{p n j:Nat}{f:Nat->Int}(hj:j<n):bE f (fun k=>fT p k j) n=if j=p then-f j else f j:=by
 rw[pC,qD hj fun i _ hi=>by unfold fT;rw[if_neg hi]];unfold fT;rw[if_pos rfl];split<;>omega
theorem ME{p n i k:Nat}(hi:i<n)(hk:k<n):bE (fT p i) (fun j=>fT p j k) n=if i=k then 1 else 0:=by
 rw[Io hk];unfold fT;by_cases e:i=k
 . subst e;by_cases e2:i=p
   . simp[e2]
   . simp[e2]
 . simp[e]
theorem SK{s:St}{p:Nat}(hp:p<s.n)(hps:vf s.status p=0):qk s.n (fun l=>l.set p (-vf l p)) (fT p) (fT p) (vf s.status)where
 len l hl:=by rw[iS];exact hl
 row l hl j hj:=by
  rw[Io hj,jR (by omega)];by_cases e:p=j
  . subst e;simp
  . rw[if_neg e,if_neg fun h=>e h.symm]
 one i hi k hk:=ME hi hk
 two i hi k hk:=ME hi hk
 nf j hj hst k hk:=by
  have hjp:j≠p:=fun e=>hst (e▸hps);unfold fT;constructor
  . by_cases e:k=j
    . subst e;rw[if_pos rfl,if_neg hjp,if_pos rfl]
    . rw[if_neg e,if_neg e]
  . by_cases e:k=j
    . rw[if_pos e.symm,if_neg hjp,if_pos e]
    . rw[if_neg (fun h=>e h.symm),if_neg e]
theorem Pj(s:St)(p:Nat):flS s p=gP s fun l=>l.set p (-vf l p):=rfl
open Go Go.X
theorem xP{p m M:Int}(hp:0<p)(h1:p*m<=p*M)(h2:-(p*M)<=p*m):-M<=m/\m<=M:=by
 refine⟨?_,GL h1 hp⟩;refine GL (a:=p) ?_ hp;rw[nr];exact h2
theorem Hb{p m m' u v U V A B M:Int}(hp:0<p)(e':p*m'=u*A-v*B)(e:p*m=U*A-V*B)(u0:0<=u)(uU:u<=U)(v0:0<=v)(vV:v<=V)(up:u<=p)(vp:v<=p)
 (hA:-M<=A/\A<=M)(hB:-M<=B/\B<=M)(hm:-M<=m/\m<=M):-M<=m'/\m'<=M:=by
 have M0:0<=M:=by omega
 have hpm1:=fZ hm.2 (ee hp);have hpm2:=fZ hm.1 (ee hp);rw[nr]at hpm2;have upM:u*M<=p*M:=fm up M0;have vpM:v*M<=p*M:=fm vp M0;rcases vU 0 A with a|a<;>rcases vU 0 B with b|b
 . have h1:=fZ hA.2 u0;have h2:=fZ hB.2 v0;have h3:=eH u0 a;have h4:=eH v0 b;exact xP hp (by omega) (by omega)
 . have h1:=fm uU a;have h2:=fm vV (show 0≤-B by omega);have h3:=eH u0 a;have h4:=eH v0 (show 0≤-B by omega);rw[nr]at h2 h4;rw[nr]at h2;exact xP hp (by omega) (by omega)
 . have h1:=fm uU (show 0≤-A by omega);have h2:=fm vV b;have h3:=eH u0 (show 0≤-A by omega);have h4:=eH v0 b;rw[nr]at h1 h3;rw[nr]at h1;exact xP hp (by omega) (by omega)
 . have h1:=fZ (show-A<=M by omega) u0;have h2:=fZ (show-B<=M by omega) v0;have h3:=eH u0 (show 0≤-A by omega);have h4:=eH v0 (show 0≤-B by omega);rw[nr]at h1 h2 h3 h4;exact xP hp (by omega) (by omega)
theorem Jw{p m' u v A B M:Int}(hp:0<p)(e':p*m'=u*A-v*B)(hu:-p<=u/\u<=p)(hv:-p<=v/\v<=p)(hA:-M<=A/\A<=M)(hB:-M<=B/\B<=M):-(2*M)<=m'/\m'<=2*M:=by
 have key:∀{x y:Int},-p<=x->x<=p→-M<=y->y<=M→-(p*M)<=x*y/\x*y<=p*M:=by
  intro x y h1 h2 h3 h4;have M0:0<=M:=by omega
  rcases vU 0 x with a|a<;>rcases vU 0 y with b|b
  . have g1:=nq h2 h4 b (by omega);have g2:=eH a b;have g3:=eH (ee hp) M0;omega
  . have g1:=nq h2 (show-y<=M by omega) (by omega) (by omega);have g2:=eH a (show 0≤-y by omega);rw[nr]at g1 g2;have g3:=eH (ee hp) M0;omega
  . have g1:=nq (show-x<=p by omega) h4 b (by omega);have g2:=eH (show 0≤-x by omega) b;rw[lL]at g1 g2;have g3:=eH (ee hp) M0;omega
  . have g1:=nq (show-x<=p by omega) (show-y<=M by omega) (by omega) (by omega);have g2:=eH (show 0≤-x by omega) (show 0≤-y by omega);rw[Int.neg_mul_neg]at g1 g2;have g3:=eH (ee hp) M0;omega
 have h1:=key hu.1 hu.2 hA.1 hA.2;have h2:=key hv.1 hv.2 hB.1 hB.2;have e3:p*(2*M)=2*(p*M):=by grind
 exact xP hp (by omega) (by omega)
def Mi(a x:List Int)(j k:Nat):Int:=vf a j*vf x k-vf a k*vf x j
def MB(n:Nat)(a x:List Int)(M:Int):Prop:=∀j,j<n->∀k,k<n→-M<=Mi a x j k/\Mi a x j k<=M
def SG(n:Nat)(a:List Int):Prop:=(∀j,j<n->0<=vf a j)\/∀j,j<n->vf a j<=0
theorem qz{a p:Int}(hp:0<p):0<=a-a.fdiv p*p/\a-a.fdiv p*p<p:=by
 have h1:=GG a p;have h2:=Int.fmod_nonneg_of_pos a hp;have h3:=Int.fmod_lt_of_pos a hp;rw[fH]at h1;omega
theorem U4{a p:Int}(hp:p<0):a-a.fdiv p*p<=0/\p<a-a.fdiv p*p:=by
 have h:=qz (a:=-a) (p:=-p) (by omega);rw[GF,nr]at h;omega
section
variable {n p:Nat} {a x:List Int}
theorem nh(hp:p<n)(hl:x.length=n):vf (bW a p n x) p=vf x p:=by unfold bW;rw[dK (by omega),if_neg (by omega)]
theorem ns{j:Nat}(hj:j<n)(hl:x.length=n)(hjp:j≠p):vf (bW a p n x) j=vf x j-(vf a j).fdiv (vf a p)*vf x p:=by unfold bW;rw[dK (by omega),if_pos ⟨hj,hjp⟩]
theorem nU(hp:rN a p)(hl:a.length=n){j:Nat}(hj:j<n)(hjp:j≠p):(vf (bW a p n a) j).natAbs<(vf a p).natAbs/\(0<vf a p->0<=vf (bW a p n a) j)/\(vf a p<0->vf (bW a p n a) j<=0):=by
 rw[ns hj hl hjp];have h0:=hp.2.1;rcases tD h0 with h|h
 . have:=U4 (a:=vf a j) h;omega
 . have:=qz (a:=vf a j) h;omega
theorem LM{j k:Nat}(hp:p<n)(ha:a.length=n)(hx:x.length=n)(hj:j<n)(hk:k<n)(hjp:j≠p)(hkp:k≠p):
 vf a p*Mi (bW a p n a) (bW a p n x) j k=vf (bW a p n a) j*Mi a x p k-vf (bW a p n a) k*Mi a x p j:=by
 unfold Mi;rw[ns hj ha hjp,ns hk ha hkp,ns hj hx hjp,ns hk hx hkp];generalize(vf a j).fdiv (vf a p)=q;generalize(vf a k).fdiv (vf a p)=r;grind
theorem O0{j k:Nat}:vf a p*Mi a x j k=vf a j*Mi a x p k-vf a k*Mi a x p j:=by unfold Mi;grind
theorem xu{k:Nat}(hp:p<n)(ha:a.length=n)(hx:x.length=n)(hk:k<n):Mi (bW a p n a) (bW a p n x) p k=Mi a x p k:=by
 unfold Mi;rw[nh hp ha,nh hp hx];by_cases e:k=p
 . subst e;rw[nh hk ha,nh hk hx]
 . rw[ns hk ha e,ns hk hx e];grind
theorem IE{j k:Nat}:Mi a x j k=-Mi a x k j:=by unfold Mi;omega
theorem Ov{M:Int}(hM:0<=M)(hp:rN a p)(ha:a.length=n)(hx:x.length=n)(h:MB n a x M):MB n (bW a p n a) (bW a p n x) (2*M):=by
 have hpn:p<n:=by have:=hp.1;omega
 intro j hj k hk;by_cases e:j=p
 . subst e;rw[xu hj ha hx hk];have:=h j hj k hk;omega
 by_cases e2:k=p
 . subst e2;rw[IE,xu hk ha hx hj];have:=h k hk j hj;omega
 have h1:=LM hpn ha hx hj hk e e2;have hA:=h p hpn k hk;have hB:=h p hpn j hj;have sj:=(nU hp ha hj e).1;have sk:=(nU hp ha hk e2).1;rcases tD hp.2.1 with h0|h0
 . refine Jw (p:=-vf a p) (u:=-vf (bW a p n a) j) (v:=-vf (bW a p n a) k) (A:=Mi a x p k) (B:=Mi a x p j) (by omega) ?_ (by omega) (by omega) hA hB;rw[lL,lL,lL,h1];omega
 . exact Jw (p:=vf a p) h0 h1 (by omega) (by omega) hA hB
theorem T1{M:Int}(hp:rN a p)(hs:SG n a)(ha:a.length=n)(hx:x.length=n)(h:MB n a x M):MB n (bW a p n a) (bW a p n x) M:=by
 have hpn:p<n:=by have:=hp.1;omega
 intro j hj k hk;by_cases e:j=p
 . subst e;rw[xu hj ha hx hk];exact h j hj k hk
 by_cases e2:k=p
 . subst e2;rw[IE,xu hk ha hx hj];have:=h k hk j hj;omega
 have h1:=LM hpn ha hx hj hk e e2;have h2:=O0 (a:=a) (x:=x) (p:=p) (j:=j) (k:=k);have hA:=h p hpn k hk;have hB:=h p hpn j hj;have hm:=h j hj k hk;obtain⟨sj,sj1,sj2⟩:=nU hp ha hj e;obtain⟨sk,sk1,sk2⟩:=nU hp ha hk e2;have pj:=hp.2.2 j (by omega);have pk:=hp.2.2 k (by omega);have zj:vf a j=0->vf (bW a p n a) j=0:=fun z=>by rw[ns hj ha e,z,yI];omega
 have zk:vf a k=0->vf (bW a p n a) k=0:=fun z=>by rw[ns hk ha e2,z,yI];omega
 rcases tD hp.2.1 with h0|h0
 . have hs':∀j,j<n->vf a j<=0:=by
    rcases hs with hs|hs
    . have:=hs p hpn;omega
    . exact hs
   have hj':=hs' j hj;have hk':=hs' k hk;refine Hb (p:=-vf a p) (m:=Mi a x j k) (u:=-vf (bW a p n a) j) (v:=-vf (bW a p n a) k) (U:=-vf a j) (V:=-vf a k) (A:=Mi a x p k) (B:=Mi a x p j) (by omega) ?_ ?_ ?_ ?_ ?_ ?_ ?_ ?_ hA hB hm
   . rw[lL,lL,lL,h1];omega
   . rw[lL,lL,lL,h2];omega
   . have:=sj2 h0;omega
   . by_cases z:vf a j=0
     . have:=zj z;omega
     . have:=pj z;omega
   . have:=sk2 h0;omega
   . by_cases z:vf a k=0
     . have:=zk z;omega
     . have:=pk z;omega
   . omega
   . omega
 . have hs':∀j,j<n->0<=vf a j:=by
    rcases hs with hs|hs
    . exact hs
    . have:=hs p hpn;omega
   have hj':=hs' j hj;have hk':=hs' k hk;refine Hb (p:=vf a p) (m:=Mi a x j k) (u:=vf (bW a p n a) j) (v:=vf (bW a p n a) k) (U:=vf a j) (V:=vf a k) (A:=Mi a x p k) (B:=Mi a x p j) h0 h1 h2 (sj1 h0) ?_ (sk1 h0) ?_ ?_ ?_ hA hB hm
   . by_cases z:vf a j=0
     . have:=zj z;omega
     . have:=pj z;omega
   . by_cases z:vf a k=0
     . have:=zk z;omega
     . have:=pk z;omega
   . omega
   . omega
theorem RS(hp:rN a p)(ha:a.length=n):SG n (bW a p n a):=by
 have hpn:p<n:=by have:=hp.1;omega
 rcases tD hp.2.1 with h0|h0
 . refine .inr fun j hj=>?_;by_cases e:j=p
   . subst e;rw[nh hj ha];omega
   . exact(nU hp ha hj e).2.2 h0
 . refine .inl fun j hj=>?_;by_cases e:j=p
   . subst e;rw[nh hj ha];omega
   . exact(nU hp ha hj e).2.1 h0
theorem NT{M X:Nat}(hp:rN a p)(ha:a.length=n)(hx:x.length=n)(h:MB n a x M)(hX:∀j,j<n->(vf x j).natAbs<=X):∀j,j<n->(vf (bW a p n x) j).natAbs<=M+X:=by
 have hpn:p<n:=by have:=hp.1;omega
 intro j hj;by_cases e:j=p
 . subst e;rw[nh hj hx];have:=hX j hj;omega
 have h1:=xu (k:=j) hpn ha hx hj;have h2:=h p hpn j hj;have hs:=(nU hp ha hj e).1;have hxp:=hX p hpn;unfold Mi at h1;rw[nh hpn ha,nh hpn hx]at h1;have h3:vf a p*vf (bW a p n x) j=Mi a x p j+vf (bW a p n a) j*vf x p:=by unfold Mi;omega
 have h4:(vf a p).natAbs*(vf (bW a p n x) j).natAbs<=M+(vf a p).natAbs*X:=by
  rw[<-yH,h3];have g1:(vf (bW a p n a) j*vf x p).natAbs<=(vf a p).natAbs*X:=by
   rw[yH];exact iR (by omega) hxp
  omega
 have hpos:0<(vf a p).natAbs:=by have:=hp.2.1;omega
 have h5:(vf a p).natAbs*(vf (bW a p n x) j).natAbs<=(vf a p).natAbs*(M+X):=by
  rw[Nat.mul_add];have:1*M<=(vf a p).natAbs*M:=tm _ hpos;omega
 exact Nat.le_of_mul_le_mul_left h5 hpos
end
def jO(a:List Int):Nat->Nat
 |0=>0
 |n+1=>jO a n+(vf a n).natAbs
theorem Mw{a b:List Int}:∀{n:Nat},(∀j,j<n->(vf a j).natAbs<=(vf b j).natAbs)->jO a n<=jO b n
 |0,_=>bK _
 |n+1,h=>by
  have:=Mw (n:=n) fun j hj=>h j (by omega);have:=h n (by omega);simp only[jO];omega
theorem KV{a b:List Int}{k:Nat}:∀{n:Nat},k<n->(∀j,j<n->(vf a j).natAbs<=(vf b j).natAbs)->(vf a k).natAbs<(vf b k).natAbs->jO a n<jO b n
 |n+1,hk,h,hlt=>by
  simp only[jO];by_cases e:k=n
  . subst e;have:=Mw (n:=k) fun j hj=>h j (by omega);omega
  . have:=KV (n:=n) (by omega) (fun j hj=>h j (by omega)) hlt;have:=h n (by omega);omega
theorem Lv{a:List Int}{C:Nat}:∀{n:Nat},(∀j,j<n->(vf a j).natAbs<=C)->jO a n<=n*C
 |0,_=>by simp[jO]
 |n+1,h=>by
  have:=Lv (n:=n) fun j hj=>h j (by omega);have:=h n (by omega);simp only[jO];rw[gL];omega
theorem Sf{a:List Int}{n p:Nat}(hp:rN a p)(ha:a.length=n){k:Nat}(hk:k<n)(hkp:k≠p)(hk0:vf a k≠0):jO (bW a p n a) n<jO a n:=by
 have hpn:p<n:=by have:=hp.1;omega
 have key:∀j,j<n->(vf (bW a p n a) j).natAbs<=(vf a j).natAbs:=fun j hj=>by
  by_cases e:j=p
  . subst e;rw[nh hj ha];exact bK _
  . by_cases z:vf a j=0
    . rw[ns hj ha e,z,yI];simp
    . have:=(nU hp ha hj e).1;have:=hp.2.2 j (by omega) z;omega
 exact KV hk key (by have:=(nU hp ha hk hkp).1;have:=hp.2.2 k (by omega) hk0;omega)
open Go Go.X
structure lR (K C:Nat)(s:St)(i p:Nat)(s':St):Prop where
 sim:gT s s'
 inv:Inv s'
 kn:s'.known=s.known
 st:s'.steps=s.steps
 status:s'.status=s.status
 value:s'.value=s.value
 dN:s'.stack=s.stack
 n:s'.n=s.n
 pos:s'.items.map AI.pos=s.items.map AI.pos
 pn:p<s.n
 free:vf s.status p=0
 unit:∀x,s'.items[i]?=some x->∀j,j<s.n->vf x.g j=if j=p then 1 else 0
 co:∀x∈s'.items,∀j,j<s.n->j≠p->(vf x.g j).natAbs<=4*(C*C)
 big:∀x∈s'.items,∀j,j<s.n->(vf x.g j).natAbs<=C+s.n*C*(4*(C*C))
 su:SU (K+9*(s.n*C)) s'
theorem RN{n C:Nat}{a x:List Int}(ha:∀j,j<n->(vf a j).natAbs<=C)(hx:∀j,j<n->(vf x j).natAbs<=C):MB n a x ((2*(C*C):Nat):Int):=by
 intro j hj k hk;have key:∀{y z:Int},y.natAbs<=C->z.natAbs<=C->(y*z).natAbs<=C*C:=fun h1 h2=>by rw[yH];exact iR h1 h2
 have h1:=key (ha j hj) (hx k hk);have h2:=key (ha k hk) (hx j hj);unfold Mi;omega
structure IsoI (K C:Nat)(s:St)(i:Nat)(μ0:Nat)(g:St):Prop where
 sim:gT s g
 inv:Inv g
 kn:g.known=s.known
 st:g.steps=s.steps
 status:g.status=s.status
 value:g.value=s.value
 dN:g.stack=s.stack
 n:g.n=s.n
 pos:g.items.map AI.pos=s.items.map AI.pos
 t:∃t a,(g.items[i]?).map AI.g=some a/\a.length=s.n/\t+jO a s.n<=μ0/\SU (K+9*t) g/\(∀j,j<s.n->(vf a j).natAbs<=C)/\
  (∀x∈g.items,∀j,j<s.n->(vf x.g j).natAbs<=C+t*(4*(C*C)))/\
  ((t=0/\∀x∈g.items,MB s.n a x.g ((2*(C*C):Nat):Int))\/(SG s.n a/\∀x∈g.items,MB s.n a x.g ((4*(C*C):Nat):Int)))
theorem tR{s0 s:St}(h:s0.n=s.n):aR.mk s0.to.n s.to.known s.to.steps s.to.u s.to.status s.to.value s.to.items s.to.stack=s.to:=iL (x:=s.to) (by show(s0.n:Int)=s.n;rw[h])
theorem Qv{K C:Nat}{s:St}{i:Nat}(hI:Inv s)(hu:SU K s)(hn:s.n<=4)(hil:s.items.length<=1073741824)(hi:i<s.items.length)(hC:∀x∈s.items,∀j,j<s.n->(vf x.g j).natAbs<=C)(hCb:C<=4294967296)(hK8:8<=K)(hK:K+9*(s.n*C)+40<=cZ):
 Tm (fun N=>xK N s.to (i:Int)) (fun r=>∃(p:Nat) (s':St),r=((p:Int),s'.to)/\lR K C s i p s'):=by
 have hL:cZ=1099511627776:=rfl;unfold xK;have hC2:C*C<=4294967296*4294967296:=iR hCb hCb;have hnC:s.n*C<=4*4294967296:=iR hn hCb;have hbig:s.n*C*(4*(C*C))<=4*4294967296*(4*(4294967296*4294967296)):=iR hnC (by omega);have ha0:s.items[i]∈s.items:=dt hi;refine Tm.bind (Q:=fun r=>∃(p:Nat) (s':St),r=((p:Int),s'.to)/\lR K C s i p s')
  (Tm.uv (fun(g:St) t=>t=iE g/\IsoI K C s i (s.n*C) g) (fun g=>jO (((g.items[i]?).map AI.g).getD []) s.n) s ⟨rfl,gT.refl s,hI,rfl,rfl,rfl,rfl,rfl,rfl,rfl,?_⟩ ?_) fun r hr=>aL hr
 . refine⟨0,(s.items[i]).g,by rw[bV hi];rfl,(hI.it _ ha0).2,?_,hu,hC _ ha0,fun x hx j hj=>by have:=hC x hx j hj;omega,.inl ⟨rfl,fun x hx=>RN (hC _ ha0) (hC x hx)⟩⟩;have:=Lv (a:=(s.items[i]).g) (n:=s.n) (C:=C) (hC _ ha0);omega
 . rintro g _ ⟨rfl,hg⟩;obtain⟨t,a,ea,al,hμ,hsu,hac,hX,hM⟩:=hg.t;have hgl:g.items.length=s.items.length:=by have:=congrArg List.length hg.pos;simpa using this
   have hig:i<g.items.length:=by omega
   have eai:(g.items[i]).g=a:=by rw[bV hig]at ea;exact gY ea
   have hxm:g.items[i]∈g.items:=dt hig;have ht:t*(4*(C*C))<=s.n*C*(4*(C*C)):=tm _ (by omega);have hfit:∀x∈g.items,jQ g.n 8 x.g:=fun x hx=>⟨(hg.inv.it x hx).2,fun v hv=>by
    obtain⟨j,hj,rfl⟩:=gm hv;have h1:=hX x hx j (by rw[(hg.inv.it x hx).2,hg.n]at hj;exact hj);refine bO (rV (k:=4) ?_) (by decide);have:aC^4=340282366920938463463374607431768211456:=by decide
    omega⟩
   have hnz:∃j,j<(g.items[i]).g.length/\vf (g.items[i]).g j≠0:=by
    refine jH fun h=>?_;have h1:=hg.inv.gF _ hxm;have h2:(2:Int)∣((df (g.items[i]).g:Nat):Int):=pF fun v hv=>by
     obtain⟨j,hj,rfl⟩:=gm hv;have:vf (g.items[i]).g j=0:=jH fun e=>h ⟨j,hj,e⟩;rw[this];exact yJ 2
    rw[h1]at h2;omega
   show Tm (fun N=>zv N s.to (i:Int) (g.to.known,g.to.steps,g.to.u,g.to.status,g.to.value,g.to.items,g.to.stack)) _;unfold zv;refine aN (a:=(g.items[i]).to) (by show idx (g.items.map AI.to) _=_;rw[dd (by simpa using hig),kO]) ?_;refine Tm.bind (TC (x:=g.items[i]) (by rw[(hg.inv.it _ hxm).2,hg.n];omega) (fun v hv=>bO ((hfit _ hxm).2 v hv) (by decide)) hnz) ?_;rintro _ ⟨p,rfl,hp⟩;rw[eai]at hp hnz;have hpn:p<s.n:=by have:=hp.1;omega
   have hpg:p<g.n:=by rw[hg.n];exact hpn
   have hfree:vf g.status p=0:=by
    refine jH fun e=>hp.2.1 ?_;rw[<-eai];exact hg.inv.nf _ hxm p hpg e
   have hanf:∀j,j<g.n->vf g.status j≠0->vf a j=0:=fun j hj hst=>by rw[<-eai];exact hg.inv.nf _ hxm j hj hst
   have hr:=S5 (s0:=s) (s:=g) (i:=i) (p:=p) hsu (by rw[hg.n];omega) hg.n.symm (by omega) hfit hig hpg (by omega) (by omega) true;rw[eai]at hr;refine Tm.bind hr ?_;rintro _ ⟨c,rfl,hc⟩;dsimp only;rw[Qw]at*;have hb:=PF (s:=g) (a:=a) hpg hfree hanf;have hsim2:=gT.ch hg.inv hb;have hinv2:=Inv.ch hg.inv hb;have hsu2:SU (K+9*(t+1)) (gP g (bW a p g.n)):=by
    refine⟨⟨by show(g.u.map _).length=_;rw[cP];exact hsu.u.1,fun l hl=>?_⟩,hsu.st,⟨hsu.v.1,fun v hv=>by have:=hsu.v.2 v hv;omega⟩⟩;obtain⟨w,hw,rfl⟩:=dL.1 hl;have:=ET (a:=a) (p:=p) (k:=g.n) (hsu.u.2 w hw) (fun j=>by rw[<-eai];exact(hfit _ hxm).vf j);exact⟨this.1,fun v hv=>by have:=this.2 v hv;omega⟩
   cases c with
   |true=>
    refine db rfl ?_;have hz:=(hc.1 rfl).2;rw[hg.n]at hz;have hzero:∀j,j<s.n->j≠p->vf a j=0:=hz;have hrow:∀l:List Int,bW a p g.n l=l:=fun l=>by
     refine l8 pE fun j hj=>?_;rw[pE]at hj;unfold bW;rw[dK hj];split
     . rename_i h;rw[hzero j (by have:=h.1;rw[hg.n]at this;exact this) h.2,yI];omega
     . rfl
    have hsame:gP g (bW a p g.n)=g:=by
     unfold gP;rw[show bW a p g.n=id from funext hrow];simp
    rw[hsame];have hap:(vf a p).natAbs=1:=by
     have h1:=hg.inv.gF _ hxm;rw[eai]at h1;have h2:vf a p∣((df a:Nat):Int):=pF fun v hv=>by
      obtain⟨j,hj,rfl⟩:=gm hv;by_cases e:j=p
      . subst e;exact Int.dvd_refl _
      . rw[hzero j (by omega) e];exact yJ _
     rw[h1]at h2;have:=Int.natAbs_dvd_natAbs.2 h2;exact GJ this
    have hco:∀x∈g.items,∀j,j<s.n->j≠p->(vf x.g j).natAbs<=4*(C*C):=fun x hx j hj hjp=>by
     have hm:-((4*(C*C):Nat):Int)<=Mi a x.g p j/\Mi a x.g p j<=((4*(C*C):Nat):Int):=by
      rcases hM with⟨_,hM⟩|⟨_,hM⟩
      . have:=hM x hx p hpn j hj;omega
      . exact hM x hx p hpn j hj
     unfold Mi at hm;rw[hzero j hj hjp,Int.zero_mul,GM]at hm;have:(vf a p*vf x.g j).natAbs=(vf x.g j).natAbs:=by rw[yH,hap,yy]
     omega
    have hbg:∀x∈g.items,∀j,j<s.n->(vf x.g j).natAbs<=C+s.n*C*(4*(C*C)):=fun x hx j hj=>by have:=hX x hx j hj;omega
    have hgi:idx (mB (g.items[i]).g) (p:Int)=some (B (vf a p)):=by rw[eai];exact ej (by omega)
    refine aN hgi (aT (jk (bO (jP (by omega)) (by decide))) ?_);have hsu3:SU (K+9*(s.n*C)) g:=⟨⟨hsu.u.1,fun r hr=>⟨(hsu.u.2 r hr).1,fun v hv=>by have:=(hsu.u.2 r hr).2 v hv;omega⟩⟩,hsu.st,⟨hsu.v.1,fun v hv=>by have:=hsu.v.2 v hv;omega⟩⟩;refine Tm.bind (Q:=fun r=>∃s',r=iE s'/\lR K C s i p s') (aY (fun h0=>?_) (fun h0=>aL ⟨g,rfl,?_⟩)) ?_
    . have hneg:vf a p<0:=nL.1 h0;rw[tR hg.n.symm];have hbf:=SK (s:=g) hpg hfree;refine aT (Tc (K:=K+9*(s.n*C)) hsu3 (by rw[hg.n];omega) (by omega) (fun x hx=>⟨(hfit x hx).1,fun v hv=>by have:=(hfit x hx).2 v hv;omega⟩) hpg (by omega)) (aL ⟨flS g p,rfl,?_⟩);rw[Pj];have hvs:∀x∈g.items,∀j,vf (x.g.set p (-vf x.g p)) j=if p=j then-vf x.g p else vf x.g j:=fun x hx j=>jR (by rw[(hg.inv.it x hx).2];exact hpg);refine⟨hg.sim.trans (gT.ch hg.inv hbf),Inv.ch hg.inv hbf,hg.kn,hg.st,hg.status,hg.value,hg.dN,hg.n,?_,hpn,by rw[<-hg.status];exact hfree,fun x hx j hj=>?_,fun x hx j hj hjp=>?_,fun x hx j hj=>?_,?_⟩
      . show(g.items.map _).map AI.pos=_;rw[mq,<-hg.pos];rfl
      . have hx':(g.items[i]?).map (fun x:AI=>({x with g:=x.g.set p (-vf x.g p)}:AI))=some x:=by rw[<-gM];exact hx
        rw[bV hig]at hx';obtain rfl:=gY hx';show vf ((g.items[i]).g.set p _) j=_;rw[hvs _ hxm j,eai];by_cases e:p=j
        . subst e;rw[if_pos rfl,if_pos rfl];omega
        . rw[if_neg e,if_neg fun h=>e h.symm];exact hzero j hj fun h=>e h.symm
      . obtain⟨z,hz',rfl⟩:=dL.1 hx;show(vf (z.g.set p _) j).natAbs<=_;rw[hvs z hz' j,if_neg fun h=>hjp h.symm];exact hco z hz' j hj hjp
      . obtain⟨z,hz',rfl⟩:=dL.1 hx;show(vf (z.g.set p _) j).natAbs<=_;rw[hvs z hz' j];split
        . have:=hbg z hz' p hpn;omega
        . exact hbg z hz' j hj
      . refine⟨⟨by show(g.u.map _).length=_;rw[cP];exact hsu3.u.1,fun l hl=>?_⟩,hsu3.st,hsu3.v⟩;obtain⟨w,hw,rfl⟩:=dL.1 hl;have hw':=hsu3.u.2 w hw;refine⟨by rw[iS];exact hw'.1,fun v hv=>?_⟩;rcases pO hv with hv|rfl
        . exact hw'.2 v hv
        . rw[fV];exact hw'.vf p
    . have hpos:¬vf a p<0:=fun e=>h0 (nL.2 e);refine⟨hg.sim,hg.inv,hg.kn,hg.st,hg.status,hg.value,hg.dN,hg.n,hg.pos,hpn,by rw[<-hg.status];exact hfree,fun x hx j hj=>?_,hco,hbg,hsu3⟩;rw[bV hig]at hx;obtain rfl:=gY hx;rw[eai];by_cases e:j=p
      . subst e;rw[if_pos rfl];omega
      . rw[if_neg e];exact hzero j hj e
    . rintro⟨r1,r2,r3,r4,r5,r6,r7⟩ ⟨s',hs',hP⟩;obtain⟨rfl,rfl,rfl,rfl,rfl,rfl,rfl⟩:=by simpa[iE]using hs'
      refine aL ⟨p,s',?_,hP⟩;dsimp only;rw[tR hP.n.symm]
   |false=>
    refine cA (by simp) (aL ?_);have hex:∃k,k<s.n/\k≠p/\vf a k≠0:=jH fun h=>by
     have:=hc.2 ⟨rfl,fun j hj hjp=>jH fun e=>h ⟨j,by rw[<-hg.n];exact hj,hjp,e⟩⟩;cases this
    obtain⟨k,hk,hkp,hk0⟩:=hex;have hlt:=Sf hp al hk hkp hk0;have hgn:=hg.n;have e1:(((gP g (bW a p g.n)).items[i]?).map AI.g)=some (bW a p s.n a):=by
     show((g.items.map _)[i]?).map AI.g=_;rw[gM,bV hig];show some (bW a p g.n (g.items[i]).g)=_;rw[eai,hgn]
    have e0:((g.items[i]?).map AI.g)=some a:=ea;refine⟨gP g (bW a p g.n),⟨rfl,hg.sim.trans hsim2,hinv2,hg.kn,hg.st,hg.status,hg.value,hg.dN,hg.n,?_,t+1,bW a p s.n a,e1,pE.trans al,by omega,hsu2,fun j hj=>?_,fun x hx j hj=>?_,.inr ⟨RS hp al,fun x hx=>?_⟩⟩,?_⟩
    . show(g.items.map _).map AI.pos=_;rw[mq,<-hg.pos];rfl
    . by_cases e:j=p
      . subst e;rw[nh hj al];exact hac j hj
      . have:=(nU hp al hj e).1;have:=hac p hpn;omega
    . obtain⟨z,hz',rfl⟩:=dL.1 hx;show(vf (bW a p g.n z.g) j).natAbs<=_;rw[hgn];have hzl:z.g.length=s.n:=(hg.inv.it z hz').2.trans hgn;have hMz:MB s.n a z.g ((4*(C*C):Nat):Int):=by
       rcases hM with⟨_,hM⟩|⟨_,hM⟩
       . intro j hj k hk;have:=hM z hz' j hj k hk;omega
       . exact hM z hz'
      have:=NT hp al hzl hMz (hX z hz') j hj;rw[gL];omega
    . obtain⟨z,hz',rfl⟩:=dL.1 hx;show MB s.n (bW a p s.n a) (bW a p g.n z.g) _;rw[hgn];have hzl:z.g.length=s.n:=(hg.inv.it z hz').2.trans hgn;rcases hM with⟨_,hM⟩|⟨hS,hM⟩
      . have:=Ov (M:=((2*(C*C):Nat):Int)) (by omega) hp al hzl (hM z hz');intro j hj k hk;have:=this j hj k hk;omega
      . exact T1 hp hS al hzl (hM z hz')
    . show jO ((((gP g (bW a p g.n)).items[i]?).map AI.g).getD []) s.n<jO (((g.items[i]?).map AI.g).getD []) s.n;rw[e1,e0];exact hlt
open Go Go.X
structure Ax (n:Nat)(l:List AQ)(s:AS)(q:AQ):Prop where
 d:0<s.d
 dl:dl s.d<=4
 len:s.cE.length<=2
 cE:∀u∈s.cE,u.ix<l.length/\0<=u.n/\D.dl u.n<=4
 dvd:∀j,j<n->s.d∣eb l s.cE j
 q:q=mH n l s.cE s.d
inductive gX (n:Nat)(base:List AQ):List AS->List AQ->Prop where
 |nil:gX n base [] base
 |snoc {ss:List AS} {l:List AQ} {s:AS} {q:AQ} (h:gX n base ss l) (hs:Ax n l s q):gX n base (ss++[s]) (l++[q])
structure Kept (s s':St):Prop where
 u:s'.u=s.u
 status:s'.status=s.status
 value:s'.value=s.value
 dN:s'.stack=s.stack
 n:s'.n=s.n
 kn:∃e,s'.known=s.known++e
theorem Kept.refl(s:St):Kept s s:=⟨rfl,rfl,rfl,rfl,rfl,[],by simp⟩
theorem Kept.trans{a b c:St}(h:Kept a b)(h':Kept b c):Kept a c:=by
 obtain⟨e,he⟩:=h.kn;obtain⟨e',he'⟩:=h'.kn;exact⟨h'.u.trans h.u,h'.status.trans h.status,h'.value.trans h.value,h'.dN.trans h.dN,h'.n.trans h.n,e++e',by rw[he',he,iq]⟩
theorem Dl(s:St)(g:List Int)(us:List AU):Kept s (put s g us).2:=by
 obtain⟨h1,h2,h3,h4,h5⟩:=T6 s g us;obtain⟨e,he,_⟩:=zu s g us;exact⟨h1,h2,h3,h4,h5,e,he⟩
theorem C3(s:St)(x:AI):Kept s (add s x):=⟨rfl,rfl,rfl,rfl,rfl,[],by simp[add]⟩
theorem Bg:∀(L:List Act) (s:St),Kept s (bU s L).2
 |[],s=>Kept.refl s
 |.add x::r,s=>(C3 s x).trans (Bg r _)
 |.put g us::r,s=>by
  unfold bU;split
  . exact(Dl s g us).trans (Bg r _)
  . exact Dl s g us
def mY(K:Nat)(s:St):Act->Prop
 |.add x=>kA s x
 |.put g us=>gD K s g us/\nQ s g us/\dl (dv g)<=4
def Cl(s:St)(y:Nat->Int):Act->Prop
 |.add x=>IH s y x
 |.put g us=>bE (vf g) y s.n<=gg s.known us
theorem Ha{kn e:List AQ}{j:Nat}:∀{us:List AU},(∀u∈us,u.ix<kn.length)->eb (kn++e) us j=eb kn us j
 |[],_=>rfl
 |u::us,h=>by
  show _+eb (kn++e) us j=_;rw[Ha fun v hv=>h v (cG _ hv),iF (h u cK)];rfl
theorem Lk{kn e:List AQ}:∀{us:List AU},(∀u∈us,u.ix<kn.length)->gg (kn++e) us=gg kn us
 |[],_=>rfl
 |u::us,h=>by
  show _+gg (kn++e) us=_;rw[Lk fun v hv=>h v (cG _ hv),iF (h u cK)];rfl
theorem kA.kept{s s':St}{x:AI}(h:kA s x)(k:Kept s s'):kA s' x:=by
 obtain⟨e,he⟩:=k.kn;exact⟨by rw[he];have:=h.pos;simp;omega,by rw[k.n];exact h.gl,fun j hj=>by rw[k.n]at hj⊢;rw[k.u,he,iF h.pos];exact h.dp j hj,fun j hj hst=>by rw[k.n]at hj;rw[k.status]at hst;exact h.nf j hj hst,h.gF⟩
theorem mY.kept{K:Nat}{s s':St}{a:Act}(h:mY K s a)(k:Kept s s'):mY K s' a:=by
 obtain⟨e,he⟩:=k.kn;cases a with
 |add x=>exact kA.kept h k
 |put g us=>
  obtain⟨h1,h2,h3⟩:=h;have hix:∀u∈us,u.ix<s.known.length:=fun u hu=>(h1.u u hu).1;refine⟨lh.app (a:=.put g us) h1 k.n he,⟨fun j hj=>?_,fun j hj hst=>?_⟩,h3⟩
  . rw[k.n]at hj;rw[h2.dp j hj];unfold B2;rw[k.u,k.n,he];congr 1;exact Jf fun i _=>(Ha hix).symm
  . rw[k.n]at hj;rw[k.status]at hst;exact h2.nf j hj hst
theorem Cl.kept{K:Nat}{s s':St}{a:Act}{y:Nat->Int}(hs:mY K s a)(k:Kept s s'):Cl s' y a↔Cl s y a:=by
 obtain⟨e,he⟩:=k.kn;cases a with
 |add x=>exact yr k.n he (kA.pos hs)
 |put g us=>
  show bE (vf g) y s'.n<=gg s'.known us↔_;rw[k.n,he,Lk fun u hu=>(hs.1.u u hu).1];rfl
theorem IS{K n:Nat}{base:List AQ}{s:St}(h:Inv s){g:List Int}{us:List AU}(hn:n=s.n)(hp:gD K s g us)(hs:nQ s g us)(hd:dl (dv g)<=4)(hD:gX n base s.steps s.known):gX n base (put s g us).2.steps (put s g us).2.known:=by
 have e:(put s g us).2.steps=(dst s g us).steps/\(put s g us).2.known=(dst s g us).known:=by
  unfold put;dsimp only;split<;>exact⟨rfl,rfl⟩
 rw[e.1,e.2];unfold dst;split
 . refine hD.snoc ⟨qg g,hd,hp.ul,fun u hu=>⟨(hp.u u hu).1,(hp.u u hu).2.1,(hp.u u hu).2.2.1⟩,fun j hj=>Mx h hp.gl hs (by omega),by rw[hn]⟩
 . exact hD
def GB(M:Nat)(g:List Int):Prop:=∀v∈g,v.natAbs<=M
def wB(M:Nat):Act->Prop
 |.add x=>GB M x.g
 |.put g _=>GB M g
theorem PG{M n:Nat}{g:List Int}{d:Int}(hd:0<=d)(h:GB M g):GB M (vec n fun j=>vf g j/d):=fun v hv=>by
 obtain⟨j,hj,rfl⟩:=gm hv;rw[fh]at hj;rw[dK hj];have:=K5 (a:=vf g j) (b:=d);rw[js _ hd]at this;have h2:(vf g j).natAbs<=M:=by
  rcases cw j g.length with h1|h1
  . exact h _ (fU h1)
  . rw[mL h1];omega
 omega
structure xo (K M:Nat)(s:St)(L:List Act)(ok:Bool)(s':St):Prop where
 kept:Kept s s'
 inv:Inv s'
 imp:ok=true->∀y,(∀z∈s'.items,IH s' y z)->(∀z∈s.items,IH s y z)/\∀a∈L,Cl s y a
 bad:ok=false->∃q∈s'.known,(∀j,j<s.n->vf q.c j=0)/\q.b<0
 il:s'.items.length<=s.items.length+L.length
 kl:s'.known.length<=s.known.length+L.length
 sl:s'.steps.length<=s.steps.length+L.length
 gb:∀z∈s'.items,GB M z.g
 jf:∀base,gX s.n base s.steps s.known->gX s.n base s'.steps s'.known
theorem vJ{K M:Nat}:∀(L:List Act) (s:St),Inv s->(∀a∈L,mY K s a)->(∀z∈s.items,GB M z.g)->(∀a∈L,wB M a)->xo K M s L (bU s L).1 (bU s L).2
 |[],s,hI,_,hg,_=>⟨Kept.refl s,hI,fun _ y hy=>⟨hy,fun a ha=>(by cases ha)⟩,fun h=>(by cases h),bK _,bK _,bK _,hg,fun _ h=>h⟩
 |.add x::r,s,hI,hA,hg,hB=>by
  have hx:kA s x:=hA _ cK;have k:=C3 s x;have hg':∀z∈(add s x).items,GB M z.g:=fun z hz=>(mi hz).elim (fun e=>by subst e;exact hB _ cK) (hg z);have h:=vJ r (add s x) (hI.add hx) (fun a ha=>(hA a (cG _ ha)).kept k) hg' fun a ha=>hB a (cG _ ha);have hl:=vh (kn:=s.known) (x:=x) (l:=s.items);refine⟨k.trans h.kept,h.inv,fun hok y hy=>?_,h.bad,?_,?_,?_,h.gb,h.jf⟩
  . obtain⟨h1,h2⟩:=h.imp hok y hy;obtain⟨g1,g2⟩:=zC (s:=s) (x:=x) (y:=y) (l:=s.items) h1;refine⟨g1,fun a ha=>?_⟩;rcases dT.1 ha with rfl|ha
    . exact g2
    . exact(Cl.kept (hA a (cG _ ha)) k).1 (h2 a ha)
  . have:=h.il;have:(add s x).items.length<=s.items.length+1:=hl.2;simp only[cz];show(bU (add s x) r).2.items.length<=_;omega
  . have:=h.kl;have:(add s x).known.length=s.known.length:=rfl;simp only[cz];show(bU (add s x) r).2.known.length<=_;omega
  . have:=h.sl;have:(add s x).steps.length=s.steps.length:=rfl;simp only[cz];show(bU (add s x) r).2.steps.length<=_;omega
 |.put g us::r,s,hI,hA,hg,hB=>by
  obtain⟨hp,hs,hd⟩:gD K s g us/\nQ s g us/\dl (dv g)<=4:=hA _ cK;have k:=Dl s g us;have hgb:GB M g:=hB (.put g us) cK;have hg':∀z∈(put s g us).2.items,GB M z.g:=fun z hz=>by
   have hi:=KI s g us;unfold put at hz;dsimp only at hz;split at hz
   . rcases mi hz with e|hz
     . subst e;exact PG (ee (qg g)) hgb
     . rw[hi]at hz;exact hg z hz
   . rw[hi]at hz;exact hg z hz
  have hkl:(put s g us).2.known.length<=s.known.length+1:=by
   obtain⟨e,he,hel⟩:=zu s g us;rw[he];simp;omega
  have hsl:(put s g us).2.steps.length<=s.steps.length+1:=by
   have:(put s g us).2.steps=(dst s g us).steps:=by unfold put;dsimp only;split<;>rfl
   rw[this];unfold dst;split<;>simp
  have hil:(put s g us).2.items.length<=s.items.length+1:=by
   have hi:=KI s g us;unfold put;dsimp only;split
   . have:=vh (kn:=(dst s g us).known) (x:=k9 s g us) (l:=(dst s g us).items);show(eh _ _ _).length<=_;rw[hi]at this⊢;exact this.2
   . rw[hi];omega
  by_cases hok:(put s g us).1=true
  . have h:=vJ r (put s g us).2 (hI.put hp hs) (fun a ha=>(hA a (cG _ ha)).kept k) hg' fun a ha=>hB a (cG _ ha);have e:bU s (.put g us::r)=bU (put s g us).2 r:=by show(if _ then _ else _)=_;rw[if_pos hok]
    rw[e];refine⟨k.trans h.kept,h.inv,fun hok' y hy=>?_,fun hb=>by have:=h.bad hb;rwa[k.n]at this,?_,?_,?_,h.gb,fun base hD=>?_⟩
    . obtain⟨h1,h2⟩:=h.imp hok' y hy;obtain⟨g1,g2⟩:=Sh hI hp hs hok h1;refine⟨g1,fun a ha=>?_⟩;rcases dT.1 ha with rfl|ha
      . exact g2
      . exact(Cl.kept (hA a (cG _ ha)) k).1 (h2 a ha)
    . have:=h.il;simp only[cz];omega
    . have:=h.kl;simp only[cz];omega
    . have:=h.sl;simp only[cz];omega
    . have:=h.jf base (by rw[k.n];exact IS hI rfl hp hs hd hD);rwa[k.n]at this
  . have e:bU s (.put g us::r)=(false,(put s g us).2):=by show(if _ then _ else _)=_;rw[if_neg hok]
    rw[e];refine⟨k,hI.put hp hs,fun h=>(by cases h),fun _=>NH hI hp hs (by simpa using hok),?_,?_,?_,hg',fun base hD=>IS hI rfl hp hs hd hD⟩
    . simp only[cz];omega
    . simp only[cz];omega
    . simp only[cz];omega
open Go Go.X
def bD(s:St)(k:Nat):AI:=s.items.getD k ⟨0,[]⟩
theorem l6{s:St}{k:Nat}(h:k<s.items.length):bD s k=s.items[k]:=by unfold bD;rw[cy,bV h];rfl
theorem gQ{s:St}{k:Nat}(h:k<s.items.length):bD s k∈s.items:=by rw[l6 h];exact dt h
theorem rS{s:St}{k:Nat}(h:k<s.items.length):idx s.to.items (k:Int)=some (bD s k).to:=by
 show idx (s.items.map AI.to) _=_;rw[dd (by simpa using h),kO,l6 h]
def ez(s:St)(i p:Nat):St:={s with status:=s.status.set p 1,value:=s.value.set p (aI s.known (bD s i).pos).b,items:=[]}
def jz(s:St)(i j p k:Nat):List Act:= if k=i\/k=j then[]else if vf (bD s k).g p=0 then[.add (bD s k)] else[.put ((bD s k).g.set p 0) [⟨(bD s k).pos,1⟩,if vf (bD s k).g p<0 then⟨(bD s i).pos,-vf (bD s k).g p⟩else⟨(bD s j).pos,vf (bD s k).g p⟩]]
def ed(s:St)(i j p k:Nat):List Act:=((List.range s.items.length).drop k).flatMap (jz s i j p)
theorem JM{s:St}{i j p k:Nat}(h:k<s.items.length):ed s i j p k=jz s i j p k++ed s i j p (k+1):=by
 unfold ed;rw[eU (by simpa using h),Cj,List.getElem_range]
theorem KE{s:St}{i j p:Nat}:ed s i j p s.items.length=[]:=by unfold ed;rw[Cf (by simp)];rfl
theorem IT{s:St}{i j p k:Nat}:(jz s i j p k).length<=1:=by unfold jz;(repeat' split)<;>simp
theorem DT{s:St}{i j p:Nat}:∀(m k:Nat),k+m=s.items.length->(ed s i j p k).length<=m
  | 0, k, h => by obtain rfl : k = s.items.length := by omega
                  rw[KE];simp
  |m+1,k,h=>by
    rw[JM (s:=s) (by omega),cM];have:=DT (s:=s) (i:=i) (j:=j) (p:=p) m (k+1) (by omega);have:=IT (s:=s) (i:=i) (j:=j) (p:=p) (k:=k);omega
theorem RT{s:St}{i j p:Nat}{a:Act}(h:a∈ed s i j p 0):∃k,k<s.items.length/\k≠i/\k≠j/\jz s i j p k=[a]:=by
 unfold ed at h;rw[lH,vW]at h;obtain⟨k,hk,ha⟩:=h;have hk:k<s.items.length:=by simpa using hk
 have hl:=IT (s:=s) (i:=i) (j:=j) (p:=p) (k:=k);refine⟨k,hk,?_,?_,?_⟩
 . rintro rfl;unfold jz at ha;simp at ha
 . rintro rfl;unfold jz at ha;simp at ha
 . match he:jz s i j p k,hl,ha with
   |[b],_,ha=>rw[cI.1 ha]
   |[],_,ha=>cases ha
theorem Ak{s:St}{i j p k:Nat}(hk:k<s.items.length){a:Act}(h:a∈jz s i j p k):a∈ed s i j p 0:=by
 unfold ed;rw[lH,vW];exact⟨k,by simpa using hk,h⟩
theorem P4{l:List Int}{p n:Nat}{y:Nat->Int}(hl:l.length=n)(hp:p<n):bE (vf (l.set p 0)) y n=bE (vf l) y n-vf l p*y p:=by
  have h:=ug (f:=y) (y:=vf l) (z:=0) (v:=p) hp;rw[pC (f:=vf l),pC (f:=vf (l.set p 0))]
  rw [eD (f := y) (f' := y) (g := vf (l.set p 0)) (g' := cJ (vf l) p 0) (fun _ _ => rfl) (fun j hj => by rw [jR (by omega)]; unfold cJ; by_cases e : p = j
                                                                                                         . rw[if_pos e,if_pos e.symm]
                                                                                                         . rw[if_neg e,if_neg fun h=>e h.symm]),h]
  grind
section
variable {K C Kk:Nat} {s s1:St} {i j p:Nat}
structure sU (s:St)(i j:Nat):Prop where
 il:i<s.items.length
 jl:j<s.items.length
 ne:i≠j
 g:∀k,k<s.n->vf (bD s j).g k=-vf (bD s i).g k
 b:(aI s.known (bD s i).pos).b+(aI s.known (bD s j).pos).b=0
theorem nP(h:lR K C s i p s1)(k:Nat)(hk:k<s.items.length):k<s1.items.length/\(bD s1 k).pos=(bD s k).pos:=by
 have hl:s1.items.length=s.items.length:=by have:=congrArg List.length h.pos;simpa using this
 have hk1:k<s1.items.length:=by omega
 refine⟨hk1,?_⟩;rw[l6 hk1,l6 hk];have:=congrArg (fun l:List Nat=>l[k]?) h.pos;simp only[gM,bV hk1,bV hk,oy,tx]at this;exact this
theorem Ke(h:lR K C s i p s1):s1.items.length=s.items.length:=by have:=congrArg List.length h.pos;simpa using this
theorem Au(h:lR K C s i p s1)(he:sU s i j):∀k,k<s.n->vf (bD s1 i).g k=if k=p then 1 else 0:=by
 have hi:=(nP h i he.il).1;exact h.unit _ (by rw[bV hi,l6 hi])
theorem CC(hI:Inv s)(h:lR K C s i p s1)(he:sU s i j):∀k,k<s.n->vf (bD s1 j).g k=if k=p then-1 else 0:=by
 intro k hk;obtain⟨hj,hjp⟩:=nP h j he.jl;obtain⟨hi,hip⟩:=nP h i he.il;obtain⟨w,hw⟩:=hI.kp;have hc:∀m,m<s.n->vf (aI s.known (bD s j).pos).c m=0+-1*vf (aI s.known (bD s i).pos).c m:=fun m hm=>by
  rw[Bm hw hm,Bm hw hm,<-sf,Cg];refine eD (fun r hr=>?_) fun _ _=>rfl;rw[<-hI.dp _ (gQ he.jl) r hr,<-hI.dp _ (gQ he.il) r hr,he.g r hr];omega
 have h1:=h.inv.dp _ (gQ hj) k (by rw[h.n];exact hk);have h2:=h.inv.dp _ (gQ hi) k (by rw[h.n];exact hk);rw[hjp,h.kn,h.n]at h1;rw[hip,h.kn,h.n]at h2;have h3:cu s1.u s.n (aI s.known (bD s j).pos).c k=-1*cu s1.u s.n (aI s.known (bD s i).pos).c k:=BY fun m hm=>by rw[hc m hm];omega
 rw[h1,h3,<-h2,Au h he k hk];split<;>omega
theorem Uf{n C:Nat}(hn:n<=4)(hC:C<=4294967296):C+n*C*(4*(C*C))<340282366920938463463374607431768211456:=by
 have h1:C*C<=4294967296*4294967296:=iR hC hC;have h2:n*C<=4*4294967296:=iR hn hC;have h3:n*C*(4*(C*C))<=4*4294967296*(4*(4294967296*4294967296)):=iR h2 (by omega);omega
theorem zL{v:Int}(h:v.natAbs<340282366920938463463374607431768211456):dl v<=4:=rV (by
 have:aC^4=340282366920938463463374607431768211456:=by decide
 omega)
theorem Bh(hn:s.n<=4)(hC:C<=4294967296)(h:lR K C s i p s1){x:AI}(hx:x∈s1.items):∀v∈x.g,dl v<=4:=fun v hv=>by
 obtain⟨k,hk,rfl⟩:=gm hv;have:=h.big x hx k (by rw[(h.inv.it x hx).2,h.n]at hk;exact hk);exact zL (Cb this (Uf hn hC))
theorem HJ(hI:Inv s)(hs:gv Kk s)(hn:s.n<=4)(hC:C<=4294967296)(h:lR K C s i p s1)(he:sU s i j):
 ∀a∈ed s1 i j p 0,(lh Kk (ez s1 i p) a/\wB (4*(C*C)) a)/\mY Kk (ez s1 i p) a:=by
 intro a ha;obtain⟨k,hk,hki,hkj,hke⟩:=RT ha;have hkm:=gQ hk;obtain⟨k1,k2⟩:=h.inv.it _ hkm;have hp1:p<s1.n:=by rw[h.n];exact h.pn
 have hn1:=h.n;have hvs:∀m,vf ((bD s1 k).g.set p 0) m=if p=m then 0 else vf (bD s1 k).g m:=fun m=>jR (by omega);have hstat:∀m,m<s1.n->vf (s1.status.set p 1) m≠0->m=p\/vf s1.status m≠0:=fun m hm hst=>by
  rw[jR (by rw[h.inv.fR];exact hp1)]at hst;by_cases e:p=m
  . exact .inl e.symm
  . rw[if_neg e]at hst;exact .inr hst
 unfold jz at hke;rw[if_neg (by omega)]at hke;split at hke
 . rename_i hc;obtain rfl:=(vT hke).1;refine⟨⟨⟨k1,k2,fun v hv=>bO (Bh hn hC h hkm v hv) (by decide)⟩,fun v hv=>?_⟩,⟨k1,k2,h.inv.dp _ hkm,fun m hm hst=>?_,h.inv.gF _ hkm⟩⟩
   . obtain⟨m,hm,rfl⟩:=gm hv;by_cases e:m=p
     . subst e;rw[hc];simp
     . exact h.co _ hkm m (by omega) e
   . rcases hstat m hm hst with rfl|hst
     . exact hc
     . exact h.inv.nf _ hkm m hm hst
 . rename_i hc;obtain rfl:=(vT hke).1;obtain⟨hi,hip⟩:=nP h i he.il;obtain⟨hj,hjp⟩:=nP h j he.jl;have hkn:(ez s1 i p).known=s.known:=h.kn;have hq:∀m,m<s1.items.length->lQ s1.n Kk s1.known ⟨(bD s1 m).pos,1⟩:=fun m hm=>by
    have h1:=(h.inv.it _ (gQ hm)).1;have h2:=hs.k (aI s1.known (bD s1 m).pos) (by rw[<-h.kn];exact eL h1);exact⟨h1,GI 1,bO jw (by decide),h2.1,h2.2.trans h.n.symm⟩
   have hcdl:dl (vf (bD s1 k).g p)<=4:=Bh hn hC h hkm _ (fU (by omega));have hu2:lQ s1.n Kk s1.known (if vf (bD s1 k).g p<0 then⟨(bD s1 i).pos,-vf (bD s1 k).g p⟩else⟨(bD s1 j).pos,vf (bD s1 k).g p⟩):=by
    split
    . obtain⟨g1,g2,g3,g4,g5⟩:=hq i hi;exact⟨g1,by dsimp only;omega,by dsimp only;rw[fV];exact hcdl,g4,g5⟩
    . obtain⟨g1,g2,g3,g4,g5⟩:=hq j hj;exact⟨g1,by dsimp only;omega,hcdl,g4,g5⟩
   have hg8:∀v∈(bD s1 k).g.set p 0,dl v<=8:=fun v hv=>by
    rcases pO hv with hv|rfl
    . exact bO (Bh hn hC h hkm v hv) (by decide)
    . rw[ie];omega
   have hP:gD Kk (ez s1 i p) ((bD s1 k).g.set p 0) [⟨(bD s1 k).pos,1⟩,if vf (bD s1 k).g p<0 then⟨(bD s1 i).pos,-vf (bD s1 k).g p⟩else⟨(bD s1 j).pos,vf (bD s1 k).g p⟩]:=
    ⟨by rw[iS];exact k2,hg8,by simp,by simp,fun u hu=>by
     rcases dT.1 hu with rfl|hu
     . exact hq k hk
     . rw[cI.1 hu];exact hu2⟩
   have hgb:GB (4*(C*C)) ((bD s1 k).g.set p 0):=fun v hv=>by
    obtain⟨m,hm,rfl⟩:=gm hv;rw[iS]at hm;rw[hvs m];split
    . simp
    . rename_i e;exact h.co _ hkm m (by omega) fun e'=>e e'.symm
   refine⟨⟨hP,hgb⟩,hP,⟨fun m hm=>?_,fun m hm hst=>?_⟩,?_⟩
   . have hm:m<s1.n:=hm;rw[hvs m];have hup:=Au h he m (by omega);have hdn:=CC hI h he m (by omega);have r0:=h.inv.dp _ hkm m hm;have r1:=h.inv.dp _ (gQ hi) m hm;have r2:=h.inv.dp _ (gQ hj) m hm;show _=cu s1.u s1.n (vec s1.n (eb s1.known _)) m;by_cases hneg:vf (bD s1 k).g p<0
     . rw[if_pos hneg];have e:cu s1.u s1.n (vec s1.n (eb s1.known [⟨(bD s1 k).pos,1⟩,⟨(bD s1 i).pos,-vf (bD s1 k).g p⟩])) m=cu s1.u s1.n (aI s1.known (bD s1 k).pos).c m+(-vf (bD s1 k).g p)*cu s1.u s1.n (aI s1.known (bD s1 i).pos).c m:=yO fun r hr=>by
        rw[dK hr];show 1*_+(_+0)=_;dsimp only;omega
       rw[e,<-r0,<-r1,hup];by_cases e2:p=m
       . subst e2;rw[if_pos rfl,if_pos rfl];omega
       . rw[if_neg e2,if_neg fun h=>e2 h.symm];omega
     . rw[if_neg hneg];have e:cu s1.u s1.n (vec s1.n (eb s1.known [⟨(bD s1 k).pos,1⟩,⟨(bD s1 j).pos,vf (bD s1 k).g p⟩])) m=cu s1.u s1.n (aI s1.known (bD s1 k).pos).c m+(vf (bD s1 k).g p)*cu s1.u s1.n (aI s1.known (bD s1 j).pos).c m:=yO fun r hr=>by
        rw[dK hr];show 1*_+(_+0)=_;dsimp only;omega
       rw[e,<-r0,<-r2,hdn];by_cases e2:p=m
       . subst e2;rw[if_pos rfl,if_pos rfl];omega
       . rw[if_neg e2,if_neg fun h=>e2 h.symm];omega
   . have hm:m<s1.n:=hm;rw[hvs m];rcases hstat m hm hst with rfl|hst
     . rw[if_pos rfl]
     . split
       . rfl
       . exact h.inv.nf _ hkm m hm hst
   . unfold dv;split
     . exact bO jw (by decide)
     . exact ur fun v hv=>by
        have:=hgb v hv;refine zL (Cb this ?_);have h1:C*C<=4294967296*4294967296:=iR hC hC;omega
theorem NQ(hI:Inv s)(h:lR K C s i p s1):Inv (ez s1 i p)where
 ul:=h.inv.ul
 fR:=by show(s1.status.set p 1).length=_;rw[iS];exact h.inv.fR
 vl:=by show(s1.value.set p _).length=_;rw[iS];exact h.inv.vl
 kl:=h.inv.kl
 it x hx:=by cases hx
 dp x hx:=by cases hx
 nf x hx:=by cases hx
 gF x hx:=by cases hx
 j2:=List.Pairwise.nil
 kp:=h.inv.kp
 stat m hm:=by
  show vf (s1.status.set p 1) m=0\/vf (s1.status.set p 1) m=1\/vf (s1.status.set p 1) m=2;rw[jR (by rw[h.inv.fR,h.n];exact h.pn)];split
  . exact .inr (.inl rfl)
  . exact h.inv.stat m hm
 sv e he:=by
  obtain⟨e1,e2,e3⟩:=h.inv.sv e he;refine⟨e1,?_,e3⟩;show vf (s1.status.set p 1) e.v=2;rw[jR (by rw[h.inv.fR,h.n];exact h.pn),if_neg]
  . exact e2
  . intro e';have:=h.free;rw[h.status]at e2;rw[e',e2]at this;omega
 s2 m hm hst:=by
  have hst:vf (s1.status.set p 1) m=2:=hst;rw[jR (by rw[h.inv.fR,h.n];exact h.pn)]at hst;split at hst
  . omega
  . exact h.inv.s2 m hm hst
 sd:=h.inv.sd
theorem PS(hI:Inv s)(h:lR K C s i p s1)(he:sU s i j){M:Nat}{s3:St}(hA:xo Kk M (ez s1 i p) (ed s1 i j p 0) true s3)(hL:∀a∈ed s1 i j p 0,mY Kk (ez s1 i p) a):gT s s3:=by
 refine h.sim.trans ?_;have hp1:p<s1.n:=by rw[h.n];exact h.pn
 obtain⟨e,hek⟩:=hA.kept.kn;have hst:∀m,vf s3.status m=if p=m then 1 else vf s1.status m:=fun m=>by
  rw[hA.kept.status];exact jR (by rw[h.inv.fR];exact hp1)
 have hva:∀m,vf s3.value m=if p=m then(aI s1.known (bD s1 i).pos).b else vf s1.value m:=fun m=>by
  rw[hA.kept.value];exact jR (by rw[h.inv.vl];exact hp1)
 have hfree:vf s1.status p=0:=by rw[h.status];exact h.free
 have hn3:s3.n=s1.n:=hA.kept.n;have hux:∀y i,ux s3 y i=ux s1 y i:=fun y i=>by unfold ux;rw[hA.kept.u,hn3];rfl
 refine⟨hn3,⟨e,hek⟩,⟨[],by rw[hA.kept.dN];simp[ez]⟩,fun m hm hs=>?_,fun y=>⟨y,fun i _=>hux y i,fun _ _ _=>rfl,fun k hk ⟨h1,h2,h3⟩=>?_⟩⟩
 . have hpm:p≠m:=fun e=>hs (by rw[<-e];exact hfree);exact⟨by rw[hst,if_neg hpm],fun _=>by rw[hva,if_neg hpm],fun i _=>by rw[hA.kept.u];rfl⟩
 . obtain⟨_,hcl⟩:=hA.imp rfl y h2;have hyp:y p=(aI s1.known (bD s1 i).pos).b:=by
    have:=h1 p (by rw[hn3];exact hp1) (by rw[hst,if_pos rfl]);rw[hva,if_pos rfl]at this;exact this
   obtain⟨hi,hip⟩:=nP h i he.il;obtain⟨hj,hjp⟩:=nP h j he.jl;have hbj:(aI s1.known (bD s1 j).pos).b=-(aI s1.known (bD s1 i).pos).b:=by
    have:=he.b;rw[hjp,hip,h.kn];omega
   refine⟨fun m hm hs=>?_,fun x hx=>?_,fun e' he' q hq=>?_⟩
   . have hpm:p≠m:=fun e=>by rw[<-e,hfree]at hs;omega
     have:=h1 m (by rw[hn3];exact hm) (by rw[hst,if_neg hpm];exact hs);rw[hva,if_neg hpm]at this;exact this
   . obtain⟨k',hk',rfl⟩:=nk hx;rw[<-l6 hk'];unfold IH;by_cases e1:k'=i
     . subst e1;rw[qD hp1 fun m hm hmp=>by rw[Au h he m (by rw[<-h.n];exact hm),if_neg hmp],Au h he p h.pn,if_pos rfl,hyp];omega
     by_cases e2:k'=j
     . subst e2;rw[qD hp1 fun m hm hmp=>by rw[CC hI h he m (by rw[<-h.n];exact hm),if_neg hmp],CC hI h he p h.pn,if_pos rfl,hyp,hbj];omega
     by_cases hc:vf (bD s1 k').g p=0
     . have:=hcl (.add (bD s1 k')) (Ak hk' (by unfold jz;rw[if_neg (by omega),if_pos hc];simp));exact this
     . have:=hcl _ (Ak (a:=.put ((bD s1 k').g.set p 0) [⟨(bD s1 k').pos,1⟩,if vf (bD s1 k').g p<0 then⟨(bD s1 i).pos,-vf (bD s1 k').g p⟩else⟨(bD s1 j).pos,vf (bD s1 k').g p⟩]) hk' (by unfold jz;rw[if_neg (by omega),if_neg hc];simp));have this:bE (vf ((bD s1 k').g.set p 0)) y s1.n<=1*(aI s1.known (bD s1 k').pos).b+(_+0):=this;rw[P4 (h.inv.it _ (gQ hk')).2 hp1,hyp]at this;generalize hcv:vf (bD s1 k').g p=c at*;by_cases hneg:c<0
       . rw[if_pos hneg]at this;dsimp only at this;rw[show(ez s1 i p).known=s1.known from rfl,show-c*(aI s1.known (bD s1 i).pos).b=-(c*(aI s1.known (bD s1 i).pos).b) by rw[lL]]at this;omega
       . rw[if_neg hneg]at this;dsimp only at this;rw[show(ez s1 i p).known=s1.known from rfl,hbj,show c*-(aI s1.known (bD s1 i).pos).b=-(c*(aI s1.known (bD s1 i).pos).b) by rw[nr]]at this;omega
   . have h4:=h3 e' (by rw[hA.kept.dN];exact he') q hq;exact(sc hn3 hek ((h.inv.sv e' (Gm he')).2.2 q hq) fun i _=>hux y i).1 h4
end
end Go.D
set_option maxHeartbeats 1000000
namespace Go.D
open Go Go.X
theorem AG{l:List Int}{k:Nat}(h:k<l.length):idx l (k:Int)=some (vf l k):=by rw[dd h,kB h]
theorem Re{K C Kk:Nat}{s:St}{i j:Nat}(hI:Inv s)(hs:gv Kk s)(hu:SU K s)(hn:s.n<=4)(he:sU s i j)(hC:∀x∈s.items,∀k,k<s.n->(vf x.g k).natAbs<=C)(hCb:C<=4294967296)(hK8:8<=K)(hK:K+9*(s.n*C)+40<=cZ)
 (hkl:s.known.length+s.items.length<=1073741824)(hsl:s.steps.length+s.items.length<=1073741824)(hKk:Kk+6<=1099511627000):
 Tm (fun N=>rG N s.to (i:Int) (j:Int)) (fun r=>∃(p:Nat) (s1:St),lR K C s i p s1/\r=((bU (ez s1 i p) (ed s1 i j p 0)).1,(bU (ez s1 i p) (ed s1 i j p 0)).2.to)):=by
 have hL:cZ=1099511627776:=rfl;have hil:=hs.il;unfold rG;refine Tm.bind (Qv hI hu hn hs.il he.il hC hCb hK8 hK) ?_;rintro _ ⟨p,s1,rfl,hP⟩;obtain⟨hi,hip⟩:=nP hP i he.il;obtain⟨hj,hjp⟩:=nP hP j he.jl;have hn1:=hP.n;have hlen:=Ke hP;have hp1:p<s1.n:=by rw[hP.n];exact hP.pn
 have hkn:=hP.kn;dsimp only;refine aN (rS hi) (aN (rS hj) ?_);rw[tR hn1.symm];refine aT (re (hP.inv.it _ (gQ hi)).1) ?_;refine aN (AG (l:=s1.status) (by rw[hP.inv.fR];exact hp1)) (aN (dV (xs:=s1.status) rfl (by rw[hP.inv.fR];exact hp1)) ?_);refine aN (ej (l:=s1.value) (by rw[hP.inv.vl];exact hp1)) (aN (dV (xs:=mB s1.value) rfl (by rw[dE,hP.inv.vl];exact hp1)) ?_);have hok2:gv (Kk+6) (ez s1 i p):=⟨by show s1.n<=_;omega,by show s1.known.length<=_;rw[hkn];exact hs.kl,by show s1.steps.length<=_;rw[hP.st];exact hs.sl,by simp[ez],fun q hq=>by
  have hq:q∈s1.known:=hq;rw[hkn]at hq;exact⟨(hs.k q hq).1.mono (by omega),by rw[(hs.k q hq).2];exact hn1.symm⟩,fun x hx=>(by cases hx),hKk⟩
 have hLl:=DT (s:=s1) (i:=i) (j:=j) (p:=p) s1.items.length 0 (by omega);have hroom:ji (ed s1 i j p 0).length (ez s1 i p):=⟨by show s1.known.length+_<=_;rw[hkn];omega,by show s1.steps.length+_<=_;rw[hP.st];omega,by show 0+_<=_;omega⟩;have hA:=HJ hI hs hn hCb hP he;have hmi:s1.to.items.length=s1.items.length:=cP ..;refine Tm.bind (Q:=fun r=>(∃s',r=.inl (iE s')/\bU (ez s1 i p) (ed s1 i j p 0)=(true,s')/\s'.n=s1.n)\/r=.inr ((bU (ez s1 i p) (ed s1 i j p 0)).1,(bU (ez s1 i p) (ed s1 i j p 0)).2.to))
  (eG s1.items.length (fun k t=>∃s' k',iK (Kk+6) (ez s1 i p) (ed s1 i j p 0) k' s'/\(ed s1 i j p 0).drop k'=ed s1 i j p k/\t=(s'.to.known,s'.to.steps,s'.to.u,s'.to.status,s'.to.value,s'.to.items,s'.to.stack,(k:Int))) ⟨ez s1 i p,0,iK.first hok2 hroom,rfl,?_⟩ ?_) ?_
 . show(s1.to.known,s1.to.steps,s1.to.u,s1.status.set p 1,(mB s1.value).set p _,[],s1.to.stack,(0:Int))=_;rw[uz];rfl
 . rintro k hk _ ⟨s',k',hv,hd,rfl⟩;dsimp only[D3];refine aY (fun hlt=>?_) (fun hge=>aL ?_)
   . have hlt:k<s1.items.length:=by omega
     have hstp:=JM (i:=i) (j:=j) (p:=p) hlt;have hxg:=(hP.inv.it _ (gQ hlt)).2;have hcd:dl (vf (bD s1 k).g p)<=4:=Bh hn hCb hP (gQ hlt) _ (fU (by omega));have hns:s.to.n=s'.to.n:=by show(s.n:Int)=s'.n;rw[hv.n];show(s.n:Int)=s1.n;rw[hn1]
     refine Tm.bind (Q:=fun r=>(∃s'' k'',r=.inl (iE s'')/\iK (Kk+6) (ez s1 i p) (ed s1 i j p 0) k'' s''/\(ed s1 i j p 0).drop k''=ed s1 i j p (k+1))\/r=.inr ((bU (ez s1 i p) (ed s1 i j p 0)).1,(bU (ez s1 i p) (ed s1 i j p 0)).2.to)) (aN (rS hlt) (Tm.bind (Q:=fun c=>c=decide (k=i\/k=j)) (aY (fun h=>aL ?_) (fun h=>aL ?_)) ?_)) ?_
     . rw[decide_eq_true];omega
     . apply decide_eq_decide.2;omega
     . rintro _ rfl;refine aY (fun h=>aL (.inl ⟨s',k',rfl,hv,?_⟩)) (fun h=>?_)
       . rw[hd,hstp];unfold jz;rw[if_pos (of_decide_eq_true h)];rfl
       have hne:¬(k=i\/k=j):=fun e=>h (decide_eq_true e);refine aN (ej (l:=(bD s1 k).g) (by omega)) (aT (jk (by omega)) (aY (fun h0=>?_) (fun h0=>?_)))
       . have h0:vf (bD s1 k).g p=0:=jH fun e=>pz.2 e h0;have ha:jz s1 i j p k=[.add (bD s1 k)]:=by unfold jz;rw[if_neg hne,if_pos h0]
         rw[ha]at hstp;have hk'l:k'<(ed s1 i j p 0).length:=by
          rcases cw k' (ed s1 i j p 0).length with h1|h1
          . exact h1
          . rw[Cf h1,hstp]at hd;cases hd
         rw[eU hk'l,hstp]at hd;obtain⟨hd1,hd2⟩:=vT hd;obtain⟨g1,g2⟩:=hv.add hk'l hd1 (K0:=Kk) (hA _ (Ak hlt (by rw[ha];simp))).1.1;rw[iL (x:=s'.to) hns];refine aT (uS hv.ok g1) (aL (.inl ⟨add s' (bD s1 k),k'+1,rfl,g2,hd2⟩))
       . have h0:vf (bD s1 k).g p≠0:=pz.1 h0;refine aT (BV (by omega)) (aN (ej (l:=(bD s1 k).g) (by omega)) (aN (dV (xs:=mB (bD s1 k).g) rfl (by rw[dE];omega)) (aT (jk (by omega)) ?_)));have hset:(mB (bD s1 k).g).set p ⟨false,[]⟩=mB ((bD s1 k).g.set p 0):=by rw[<-uz,B0]
         rw[hset];have ha:jz s1 i j p k=[.put ((bD s1 k).g.set p 0) [⟨(bD s1 k).pos,1⟩,if vf (bD s1 k).g p<0 then⟨(bD s1 i).pos,-vf (bD s1 k).g p⟩else⟨(bD s1 j).pos,vf (bD s1 k).g p⟩]]:=by unfold jz;rw[if_neg hne,if_neg h0]
         refine aT (a:=(if vf (bD s1 k).g p<0 then(⟨(bD s1 i).pos,-vf (bD s1 k).g p⟩:AU)else⟨(bD s1 j).pos,vf (bD s1 k).g p⟩).to) (aY (fun h1=>?_) (fun h1=>aL ?_)) ?_
         . rw[if_pos (nL.1 h1)];exact aT (n5 (by omega)) (aL rfl)
         . rw[if_neg fun e=>h1 (nL.2 e)];rfl
         rw[ha]at hstp;have hk'l:k'<(ed s1 i j p 0).length:=by
          rcases cw k' (ed s1 i j p 0).length with h1|h1
          . exact h1
          . rw[Cf h1,hstp]at hd;cases hd
         rw[eU hk'l,hstp]at hd;obtain⟨hd1,hd2⟩:=vT hd;obtain⟨g1,g2,g3,g4⟩:=hv.put hk'l hd1 (K0:=Kk) (hA _ (Ak hlt (by rw[ha];simp))).1.1 (by omega);refine aT (jT (by decide) (by decide)) ?_;rw[iL (x:=s'.to) hns];refine aT g1 ?_;have hns2:s.to.n=(put s' ((bD s1 k).g.set p 0) [⟨(bD s1 k).pos,1⟩,if vf (bD s1 k).g p<0 then⟨(bD s1 i).pos,-vf (bD s1 k).g p⟩else⟨(bD s1 j).pos,vf (bD s1 k).g p⟩]).2.to.n:=by
          show(s.n:Int)=((put s' _ _).2.n:Int);rw[g4];show(s.n:Int)=s1.n;rw[hn1]
         refine aY (fun hf=>aL (.inr ?_)) (fun ht=>aL (.inl ⟨_,k'+1,rfl,g2 (by simpa using ht),hd2⟩));dsimp only;rw[iL hns2,g3 (by simpa using hf)]
     . rintro r (⟨s'',k'',rfl,h1,h2⟩|rfl)
       . exact aL ⟨hlt,s'',k'',h1,h2,by rw[dW (by omega)]⟩
       . exact aL (.inr rfl)
   . have:k=s1.items.length:=by omega
     subst this;rw[KE]at hd;refine .inl ⟨s',rfl,?_,hv.n⟩;rw[hv.run,hd];rfl
 . rintro r (⟨s',rfl,h1,h2⟩|rfl)
   . refine aL ⟨p,s1,hP,?_⟩;show(true,aR.mk s.to.n s'.to.known s'.to.steps s'.to.u s'.to.status s'.to.value s'.to.items s'.to.stack)=_;rw[tR (h2.trans hn1).symm,h1]
   . exact aL ⟨p,s1,hP,rfl⟩
theorem C4{K V:Type}[DecidableEq K]{k k':K}{v z:V}:∀{m:List (K×V)},fy (j1 m k v) k' z=if k=k' then(v,true)else fy m k' z
 |[]=>by simp only[j1,fy]
 |p::m=>by
  simp only[j1];by_cases e:p.1=k
  . rw[if_pos e];simp only[fy];by_cases e2:k=k'
    . rw[if_pos e2,if_pos e2]
    . rw[if_neg e2,if_neg e2,if_neg (by rw[e];exact e2)]
  . rw[if_neg e];simp only[fy];by_cases e2:p.1=k'
    . rw[if_pos e2];by_cases e3:k=k'
      . exact absurd (e2.trans e3.symm) e
      . rw[if_neg e3,if_pos e2]
    . rw[if_neg e2,C4];by_cases e3:k=k'
      . rw[if_pos e3,if_pos e3]
      . rw[if_neg e3,if_neg e3,if_neg e2]
inductive vC (K:Nat)(s:St):Int×Int×Bool×Bool×aR->Prop where
 |none (h:∀i j,i<s.items.length->j<s.items.length->(∀k,k<s.n->vf (bD s j).g k=-vf (bD s i).g k)->0<(aI s.known (bD s i).pos).b+(aI s.known (bD s j).pos).b):vC K s (0,0,false,true,s.to)
 |some (i j:Nat) (h:sU s i j):vC K s (i,j,true,true,s.to)
 |bad (s':St) (L:List Act) (hL:∀a∈L,mY K s a) (hO:∀a∈L,lh K s a) (hB:∀a∈L,wB 0 a) (hl:L.length<=1) (hb:bU s L=(false,s')):vC K s (0,0,false,false,s'.to)
theorem wQ{n:Nat}:(List.replicate n (0:Int))=vec n fun _=>0:=by
 apply pR (by simp[vec]);intro i h1 h2;simp[vec]
theorem Jp:∀m,df (List.replicate m (0:Int))=0
 |0=>rfl
 |m+1=>by rw[qU];show Int.gcd 0 (df _:Nat)=0;rw[Jp m];rfl
theorem T8{Kk:Nat}{s:St}(hI:Inv s)(hKq:∀q∈s.known,fD Kk q){k o:Nat}(hlt:k<s.items.length)(ho:o<s.items.length)(hog:(bD s o).g=bT (bD s k).g)(hlt0:(aI s.known (bD s k).pos).b+(aI s.known (bD s o).pos).b<0):
 mY Kk s (.put (List.replicate s.n 0) [⟨(bD s k).pos,1⟩,⟨(bD s o).pos,1⟩])/\bU s [.put (List.replicate s.n 0) [⟨(bD s k).pos,1⟩,⟨(bD s o).pos,1⟩]]=(false,(put s (List.replicate s.n 0) [⟨(bD s k).pos,1⟩,⟨(bD s o).pos,1⟩]).2):=by
 have hUO:∀m,m<s.items.length->lQ s.n Kk s.known ⟨(bD s m).pos,1⟩:=fun m hm=>by
  have h1:=(hI.it _ (gQ hm)).1;exact⟨h1,GI 1,bO jw (by decide),hKq _ (eL h1),hI.kl _ (eL h1)⟩
 have hP:gD Kk s (List.replicate s.n 0) [⟨(bD s k).pos,1⟩,⟨(bD s o).pos,1⟩]:=⟨by simp,fun v hv=>by rw[(tv.1 hv).2,ie];omega,by simp,by simp,fun u hu=>by
  rcases dT.1 hu with rfl|hu
  . exact hUO k hlt
  . rw[cI.1 hu];exact hUO o ho⟩
 have hz:∀j,j<s.n->vf (List.replicate s.n (0:Int)) j=0:=fun j hj=>by rw[wQ,dK hj]
 have hgc:df (List.replicate s.n (0:Int))=0:=Jp _;have hdv:dv (List.replicate s.n (0:Int))=1:=by unfold dv;rw[if_pos hgc]
 have hPS:nQ s (List.replicate s.n 0) [⟨(bD s k).pos,1⟩,⟨(bD s o).pos,1⟩]:=⟨fun j hj=>by
  rw[hz j hj];have e:B2 s [⟨(bD s k).pos,1⟩,⟨(bD s o).pos,1⟩] j=cu s.u s.n (aI s.known (bD s k).pos).c j+1*cu s.u s.n (aI s.known (bD s o).pos).c j:=yO fun r hr=>by
   rw[dK hr];show 1*_+(1*_+0)=_;dsimp only;omega
  rw[e,<-hI.dp _ (gQ hlt) j hj,<-hI.dp _ (gQ ho) j hj,hog,ir];omega,fun j hj _=>hz j hj⟩
 have hdok:(put s (List.replicate s.n 0) [⟨(bD s k).pos,1⟩,⟨(bD s o).pos,1⟩]).1=false:=by
  show mP s _ _=false;unfold mP;rw[H8 hP,hdv,hgc];have:gg s.known [⟨(bD s k).pos,1⟩,⟨(bD s o).pos,1⟩]=(aI s.known (bD s k).pos).b+(aI s.known (bD s o).pos).b:=by
   show 1*_+(1*_+0)=_;dsimp only;omega
  rw[this];simp;omega
 refine⟨⟨hP,hPS,by rw[hdv];exact bO jw (by decide)⟩,?_⟩;show(if _ then _ else _)=_;rw[if_neg (by rw[hdok];simp)]
theorem O9{K Kk:Nat}{s:St}(hI:Inv s)(hs:gv K s)(hK:Kk+6<=K)(hKq:∀q∈s.known,fD Kk q)(hr:ji 1 s):Tm (fun N=>uo N s.to) (vC Kk s):=by
 have hL:cZ=1099511627776:=rfl;have hil:=hs.il;have hKK:=hs.K;have hn:=hs.n;have hmi:s.to.items.length=s.items.length:=cP ..;have hgl:∀k,k<s.items.length->(bD s k).g.length=s.n:=fun k hk=>(hI.it _ (gQ hk)).2;have hgd:∀k,k<s.items.length->∀v∈(bD s k).g,dl v<=8:=fun k hk=>(hs.i _ (gQ hk)).2.2;have hdis:∀i j,i<s.items.length->j<s.items.length->(bD s i).g=(bD s j).g->i=j:=fun i j hi hj e=>by
  have:=Ns.1 hI.j2;rcases Nk i j with h|h|h
  . exact absurd (by rw[<-l6 hi,<-l6 hj];exact e) (this i j hi hj h)
  . exact h
  . exact absurd (by rw[<-l6 hi,<-l6 hj];exact e.symm) (this j i hj hi h)
 unfold uo;refine Tm.bind (Q:=fun m=>(∀k,k<s.items.length->fy m (keyOf (bD s k).g) (0:Int)=((k:Int),true))/\∀t:List UInt8,(∀k,k<s.items.length->keyOf (bD s k).g≠t)->fy m t (0:Int)=(0,false)) (eG s.items.length (fun k t=>t.2=(k:Int)/\(∀j,j<k->fy t.1 (keyOf (bD s j).g) (0:Int)=((j:Int),true))/\∀u:List UInt8,(∀j,j<k->keyOf (bD s j).g≠u)->fy t.1 u (0:Int)=(0,false)) ⟨rfl,fun j hj=>by omega,fun u _=>rfl⟩ ?_) ?_
 . rintro k hk ⟨m,i⟩ ⟨rfl,h1,h2⟩;dsimp only at h1 h2;dsimp only[EF];refine aY (fun hlt=>?_) (fun hge=>aL ?_)
   . have hlt:k<s.items.length:=by omega
     refine aN (rS hlt) (aT (Ig (g:=(bD s k).g) (by rw[hgl k hlt];omega) (fun v hv=>bO (hgd k hlt v hv) (by decide))) (aL ⟨hlt,dW (by omega),fun j hj=>?_,fun u hu=>?_⟩))
     . dsimp only;rw[C4];by_cases e:k=j
       . subst e;rw[if_pos rfl]
       . rw[if_neg,h1 j (by omega)];intro e2;exact e (hdis k j hlt (by omega) (IJ (by rw[hgl k hlt,hgl j (by omega)]) e2))
     . dsimp only;rw[C4,if_neg (hu k (by omega)),h2 u fun j hj=>hu j (by omega)]
   . have:k=s.items.length:=by omega
     subst this;exact⟨h1,h2⟩
 rintro m ⟨m1,m2⟩;dsimp only;have hopp:∀k,k<s.items.length->(∃o,o<s.items.length/\(bD s o).g=bT (bD s k).g/\fy m (keyOf (bT (bD s k).g)) (0:Int)=((o:Int),true))\/((∀o,o<s.items.length->(bD s o).g≠bT (bD s k).g)/\fy m (keyOf (bT (bD s k).g)) (0:Int)=(0,false)):=fun k hk=>by
  by_cases h:∃o,o<s.items.length/\(bD s o).g=bT (bD s k).g
  . obtain⟨o,ho,he⟩:=h;exact .inl ⟨o,ho,he,by rw[<-he];exact m1 o ho⟩
  . have h':∀o,o<s.items.length->(bD s o).g≠bT (bD s k).g:=fun o ho e=>h ⟨o,ho,e⟩;refine .inr ⟨h',m2 _ fun o ho e=>h' o ho (IJ (by rw[hgl o ho,iX,hgl k hk]) e)⟩
 have hbd:∀k,k<s.items.length->dl (aI s.known (bD s k).pos).b<=Kk:=fun k hk=>(hKq _ (eL (hI.it _ (gQ hk)).1)).2;refine Tm.bind (Q:=fun r=>(r=.inl ()/\∀k o,k<s.items.length->o<s.items.length->k<=o->(bD s o).g=bT (bD s k).g->0<(aI s.known (bD s k).pos).b+(aI s.known (bD s o).pos).b)\/∃z,r=.inr z/\vC Kk s z)
  (eG s.items.length (fun k t=>t=(k:Int)/\∀k' o,k'<k->o<s.items.length->k'<=o->(bD s o).g=bT (bD s k').g->0<(aI s.known (bD s k').pos).b+(aI s.known (bD s o).pos).b) ⟨rfl,fun k' o h=>by omega⟩ ?_) ?_
 . rintro k hk _ ⟨rfl,hp⟩;dsimp only[DI];refine aY (fun hlt=>?_) (fun hge=>aL (.inl ⟨rfl,fun k' o h1=>hp k' o (by omega)⟩));have hlt:k<s.items.length:=by omega
   have hng:∀v∈bT (bD s k).g,dl v<=8:=fun v hv=>by rw[<-fV];exact hgd k hlt _ (C7 hv)
   refine Tm.bind (Q:=fun r=>(r=.inl ()/\∀o,o<s.items.length->k<=o->(bD s o).g=bT (bD s k).g->0<(aI s.known (bD s k).pos).b+(aI s.known (bD s o).pos).b)\/∃z,r=.inr z/\vC Kk s z)
    (aN (rS hlt) (aT (rM (l:=(bD s k).g) (K:=8) (by omega) (by rw[hgl k hlt];omega) (hgd k hlt)) (aT (Ig (g:=bT (bD s k).g) (by rw[iX,hgl k hlt];omega) (fun v hv=>bO (hng v hv) (by decide))) ?_))) ?_
   . rcases hopp k hlt with⟨o,ho,hog,hom⟩|⟨hno,hom⟩
     . rw[hom];dsimp only;refine Tm.bind (Q:=fun c=>c=decide ((o:Int)<(k:Int))) (cA (by simp) (aL rfl)) ?_;rintro _ rfl;refine aY (fun hlt'=>aL (.inl ⟨rfl,fun o' ho' hko hg=>?_⟩)) (fun hlt'=>?_)
       . have:o'=o:=hdis o' o ho' ho (hg.trans hog.symm);have:=of_decide_eq_true hlt';omega
       . have hko:k<=o:=by
          have:¬((o:Int)<(k:Int)):=fun e=>hlt' (decide_eq_true e);omega
         have b1:=hbd k hlt;have b2:=hbd o ho;refine aT (re (hI.it _ (gQ hlt)).1) (aN (rS ho) (aT (re (hI.it _ (gQ ho)).1) (aT (mG (by omega) (by omega)) (aT (jk (bO (oO b1 b2) (by omega))) ?_))));refine aY (fun hs1=>?_) (fun hs1=>aY (fun hs2=>aL (.inr ⟨_,rfl,?_⟩)) (fun hs2=>aL (.inl ⟨rfl,fun o' ho' _ hg=>?_⟩)))
         . 
           have hlt0:(aI s.known (bD s k).pos).b+(aI s.known (bD s o).pos).b<0:=nL.1 (by omega);obtain⟨hP,hb⟩:=T8 hI hKq hlt ho hog hlt0;refine aN (gN (n:=s.n) rfl (by omega) (by decide)) (aT (jT (by decide) (by decide)) (aN (rS ho) (aT (jT (by decide) (by decide)) ?_)));rw[<-o8];have hput:=JK hs hP.1 hK hr;refine aT hput (aL (.inr ⟨_,rfl,?_⟩));dsimp only;rw[iL (by show(s.n:Int)=((put s _ _).2.n:Int);rw[AF])];exact .bad _ [.put (List.replicate s.n 0) [⟨(bD s k).pos,1⟩,⟨(bD s o).pos,1⟩]] (fun a ha=>by rw[cI.1 ha];exact hP) (fun a ha=>by rw[cI.1 ha];exact hP.1) (fun a ha=>by rw[cI.1 ha];exact fun v hv=>by rw[(tv.1 hv).2];simp) (by simp) hb
         . refine .some k o ⟨hlt,ho,fun e=>?_,fun m hm=>by rw[hog,ir],?_⟩
           . subst e;have h1:=hI.gF _ (gQ hlt);have h2:(2:Int)∣((df (bD s k).g:Nat):Int):=pF fun v hv=>by
              obtain⟨m,hm,rfl⟩:=gm hv;have:=congrArg (fun l=>vf l m) hog;simp only[ir]at this;have:vf (bD s k).g m=0:=by omega
              rw[this];exact yJ 2
             rw[h1]at h2;omega
           . exact jH fun e=>pz.2 e hs2
         . have:o'=o:=hdis o' o ho' ho (hg.trans hog.symm);subst this;revert hs1 hs2;unfold bM;(repeat' split)<;>omega
     . rw[hom];refine Tm.bind (Q:=fun c=>c=true) (db (by simp) (aL rfl)) ?_;rintro _ rfl;exact db rfl (aL (.inl ⟨rfl,fun o ho _ hg=>absurd hg (hno o ho)⟩))
   . rintro r (⟨rfl,h⟩|⟨z,rfl,hz⟩)
     . refine aL ⟨hlt,dW (by omega),fun k' o h1 h2 h3 h4=>?_⟩;rcases cw k' k with h5|h5
       . exact hp k' o h5 h2 h3 h4
       . obtain rfl:k'=k:=by omega
         exact h o h2 h3 h4
     . exact aL (.inr ⟨z,rfl,hz⟩)
 . rintro r (⟨rfl,h⟩|⟨z,rfl,hz⟩)
   . refine aL (.none fun i j hi hj hg=>?_);have hg1:(bD s j).g=bT (bD s i).g:=l8 (by rw[iX,hgl i hi,hgl j hj]) fun k hk=>by rw[ir];exact hg k (by rw[hgl j hj]at hk;exact hk)
     rcases Nat.le_total i j with h1|h1
     . exact h i j hi hj h1 hg1
     . have:=h j i hj hi h1 (by rw[hg1,Fp]);omega
   . exact aL hz
open Go Go.X
def CA(N:Nat)(s:aR)(v:Int):((List aX)×(List aX)×Int)->Option (aK ((List aX)×(List aX)×Int) ((List aX)×(List aX)))
 |(a,b,c)=>(if(c:Int)<(List.length s.items:Int)then ((((idx s.items c).bind fun d=>(idx d.g v).bind fun f=>(gG N f).bind fun e=>(if(e:Int)=1 then (cN 32 a [d]).bind fun i=>some (i,b) else (if(e:Int)=(-1)then (cN 32 b [d]).bind fun j=>some (a,j) else some (a,b)))):Option ((List aX)×(List aX)))).bind fun ss=>match ss with
    |(k,l)=>some (aK.next (k,l,(iw (c+1)))) else some (aK.done (a,b)))
def ta(N:Nat)(s:aR)(v:Int):Option ((List aX)×(List aX)):=(bH (CA N s v) N (([]:(List aX)),([]:(List aX)),0)).bind fun ss=>match ss with
  |(a,b)=>some (a,b)
def LJ(N:Nat)(s:aR)(v:Int):((List aX)×(List aX)×Int)->Option (aK ((List aX)×(List aX)×Int) ((List aX)×(List aX)))
 |(a,b,c)=>(if(c:Int)<(List.length s.items:Int)then ((((idx s.items c).bind fun d=>(idx d.g v).bind fun f=>(gG N f).bind fun e=>(if(e:Int)=1 then (cN 32 a [d]).bind fun i=>some (i,b) else (if(e:Int)=(-1)then (cN 32 b [d]).bind fun j=>some (a,j) else some (a,b)))):Option ((List aX)×(List aX)))).bind fun ss=>match ss with
    |(k,l)=>some (aK.next (k,l,(iw (c+1)))) else some (aK.done (a,b)))
def q9(N:Nat)(s:aR)(v:Int):Option ((List aX)×(List aX)):=(bH (LJ N s v) N (([]:(List aX)),([]:(List aX)),0)).bind fun ss=>match ss with
  |(a,b)=>some (a,b)
def Ez(N:Nat)(v:Int)(r1:((List aX)×(List aX))):(aB×Int)->Option (aK (aB×Int) aB)
 |(a,b)=>(if(b:Int)<(List.length r1.2:Int)then ((((idx r1.2 b).bind fun d=>(o5 N v d r1.1).bind fun c=>(gG N c).bind fun e=>(if(e:Int)≥0 then (fM N 1000).bind fun f=>(ja N c f).bind fun g=>(km N a g).bind fun i=>some i else some a)):Option aB)).bind fun ss=>match ss with
    |j=>some (aK.next (j,(iw (b+1)))) else some (aK.done a))
def wi(N:Nat)(s:aR)(v:Int):Option (aB×Bool):=(ta N s v).bind fun r1=>(if((iw ((List.length r1.1:Int)+(List.length r1.2:Int))):Int)=0 then some ((aB.mk false ([]:(List Int))),false) else ((((if((List.length r1.1:Int):Int)=0 then some true else some (decide (((List.length r1.2:Int):Int)=0)))):Option Bool)).bind fun ss=>match ss with
   |x7=>(if x7=true then some ((aB.mk false ([]:(List Int))),true) else (fM N (iw ((List.length r1.1:Int)*(List.length r1.2:Int)))).bind fun a=>(bH (Ez N v r1) N (a,0)).bind fun ss=>match ss with
      |b=>some (b,true)))
def El(N:Nat)(s:aR):(Int×Bool×aB×Int)->Option (aK (Int×Bool×aB×Int) (Int×Bool))
 |(c,b,d,a)=>(if(a:Int)<s.n then ((((idx s.status a).bind fun f=>(if(f:Int)≠0 then some (c,b,d) else (wi N s a).bind fun e=>((((if e.2=true then (if(!b)=true then some true else (iJ N e.1 d).bind fun g=>some (decide ((g:Int)<0))) else some false)):Option Bool)).bind fun ss=>match ss with
     |i=>(if i=true then some (a,true,e.1) else some (c,b,d)))):Option (Int×Bool×aB))).bind fun ss=>match ss with
    |(j,k,l)=>some (aK.next (j,k,l,(iw (a+1)))) else some (aK.done (c,b)))
def uT(N:Nat)(s:aR):Option (Int×Bool):=(bH (El N s) N (0,false,(aB.mk false ([]:(List Int))),0)).bind fun ss=>match ss with
  |(a,b)=>some (a,b)
def vj(N:Nat)(s:aR)(v:Int):Option Bool:=(ta N s v).bind fun r1=>(if((List.length r1.1:Int):Int)=0 then some true else (yX N r1.2 (fun y0=>uF N y0 v r1.1)).bind fun r5=>some (!r5))
def Fm(N:Nat)(r2:(List aX)):((List Int)×Int)->Option (aK ((List Int)×Int) (List Int))
 |(b,a)=>(if(a:Int)<(List.length r2:Int)then (idx r2 a).bind fun c=>(cN 8 b [c.pos]).bind fun d=>some (aK.next (d,(iw (a+1)))) else some (aK.done b))
def y8(N:Nat)(c:(List aB))(d:aX)(e:aB)(f:aX)(i:aB):((List aB)×Int)->Option (aK ((List aB)×Int) (List aB))
 |(b,a)=>(if(a:Int)<(List.length c:Int)then (idx d.g a).bind fun j=>(km N e j).bind fun k=>(idx f.g a).bind fun l=>(km N i l).bind fun m=>(ja N k m).bind fun n=>(idx b a).bind fun p=>(dh b a n).bind fun o=>some (aK.next (o,(iw (a+1)))) else some (aK.done b))
def Di(N:Nat)(s:aR)(v:Int)(r1:((List aX)×(List aX)))(b:aX):((List bA)×(List Step)×(List (List aB))×(List Int)×(List aB)×(List aX)×(List dJ)×Int)->Option (aK ((List bA)×(List Step)×(List (List aB))×(List Int)×(List aB)×(List aX)×(List dJ)×Int) (Sum ((List bA)×(List Step)×(List (List aB))×(List Int)×(List aB)×(List aX)×(List dJ)) (Bool×aR)))
 |(e,f,i,j,k,l,m,c)=>(if(c:Int)<(List.length r1.2:Int)then (idx r1.2 c).bind fun d=>(idx b.g v).bind fun o=>(idx d.g v).bind fun a0=>(jr N a0).bind fun p=>(fX (α:=aB) 32 (aB.mk false ([]:(List Int))) s.n).bind fun y=>(bH (y8 N y b p d o) N (y,0)).bind fun ss=>match ss with
    |a1=>(mK N (aR.mk s.n e f i j k l m) a1 [(dQ.mk b.pos p),(dQ.mk d.pos o)]).bind fun a=>(if(!a.1)=true then some (aK.done (Sum.inr (false,(aR.mk s.n a.2.known a.2.steps a.2.u a.2.status a.2.value a.2.items a.2.stack)))) else some (aK.next (a.2.known,a.2.steps,a.2.u,a.2.status,a.2.value,a.2.items,a.2.stack,(iw (c+1))))) else some (aK.done (Sum.inl (e,f,i,j,k,l,m))))
def Dm(N:Nat)(s:aR)(v:Int)(r1:((List aX)×(List aX))):((List bA)×(List Step)×(List (List aB))×(List Int)×(List aB)×(List aX)×(List dJ)×Int)->Option (aK ((List bA)×(List Step)×(List (List aB))×(List Int)×(List aB)×(List aX)×(List dJ)×Int) (Sum ((List bA)×(List Step)×(List (List aB))×(List Int)×(List aB)×(List aX)×(List dJ)) (Bool×aR)))
 |(b,c,d,e,f,g,i,a)=>(if(a:Int)<(List.length r1.1:Int)then (idx r1.1 a).bind fun j=>(bH (Di N s v r1 j) N (b,c,d,e,f,g,i,0)).bind fun ss=>match ss with
    |(Sum.inl (k,l,m,n,o,p,u))=>some (aK.next (k,l,m,n,o,p,u,(iw (a+1))))
    |(Sum.inr z)=>some (aK.done (Sum.inr z)) else some (aK.done (Sum.inl (b,c,d,e,f,g,i))))
def nz(N:Nat)(s:aR)(v:Int)(dA:Bool):Option (Bool×aR):=(ta N s v).bind fun r1=>(uj N [r1.1,r1.2]).bind fun r2=>(bH (Fm N r2) N (([]:(List Int)),0)).bind fun ss=>match ss with
  |a=>(cN 40 s.stack [(dJ.mk v a dA)]).bind fun b=>(idx s.status v).bind fun o=>(dh s.status v 2).bind fun c=>(pV N s.items).bind fun d=>(yg N d (fun y0=>uA N y0 v)).bind fun e=>(bH (Dm N s v r1) N (s.known,s.steps,s.u,c,s.value,e,b,0)).bind fun ss=>match ss with
    |(Sum.inl (f,g,i,j,k,l,m))=>some (true,(aR.mk s.n f g i j k l m))
    |(Sum.inr z)=>some z
def Eo(N:Nat)(s:aR)(j:Int)(x1:bA):(aB×Int)->Option (aK (aB×Int) aB)
 |(b,a)=>(if(a:Int)<(List.length x1.aZ:Int)then (idx x1.aZ a).bind fun c=>(idx s.u a).bind fun d=>(idx d j).bind fun e=>(km N c e).bind fun f=>(ja N b f).bind fun g=>some (aK.next (g,(iw (a+1)))) else some (aK.done b))
def vc(N:Nat)(s:aR)(vat1:Int)(j:Int):Option aB:=(idx s.known vat1).bind fun x1=>(bH (Eo N s j x1) N ((aB.mk false ([]:(List Int))),0)).bind fun ss=>match ss with
  |a=>some a
def zf(N:Nat)(s:aR)(e:dJ)(y:(List aB))(c:Int):(aB×Int)->Option (aK (aB×Int) aB)
 |(b,a)=>(if(a:Int)<(List.length y:Int)then ((((if(a:Int)≠e.v then (vc N s c a).bind fun d=>(idx y a).bind fun f=>(km N d f).bind fun g=>(jb N b g).bind fun i=>some i else some b)):Option aB)).bind fun ss=>match ss with
    |j=>some (aK.next (j,(iw (a+1)))) else some (aK.done b))
def E3(N:Nat)(s:aR)(e:dJ)(y:(List aB)):(aB×aB×Bool×Bool×Int)->Option (aK (aB×aB×Bool×Bool×Int) (aB×aB×Bool×Bool))
 |(a,b,c,d,f)=>(if(f:Int)<(List.length e.items:Int)then ((((idx e.items f).bind fun g=>(idx s.known g).bind fun m=>(bH (zf N s e y g) N (m.dz,0)).bind fun ss=>match ss with
    |j=>(vc N s g e.v).bind fun i=>(gG N i).bind fun n=>(if(n:Int)>0 then (kz N j i).bind fun k=>((((if(!d)=true then some true else (iJ N k.1 b).bind fun o=>some (decide ((o:Int)<0)))):Option Bool)).bind fun ss=>match ss with
       |p=>(if p=true then some (a,k.1,c,true) else some (a,b,c,d)) else (jr N i).bind fun u=>(kz N j u).bind fun a0=>(jr N a0.1).bind fun l=>((((if(!c)=true then some true else (iJ N l a).bind fun a1=>some (decide ((a1:Int)>0)))):Option Bool)).bind fun ss=>match ss with
       |a2=>(if a2=true then some (l,b,true,d) else some (a,b,c,d)))):Option (aB×aB×Bool×Bool))).bind fun ss=>match ss with
    |(a3,a4,a5,a6)=>some (aK.next (a3,a4,a5,a6,(iw (f+1)))) else some (aK.done (a,b,c,d)))
def nX(N:Nat)(s:aR)(e:dJ)(y:(List aB)):Option (aB×Bool):=(bH (E3 N s e y) N ((aB.mk false ([]:(List Int))),(aB.mk false ([]:(List Int))),false,false,0)).bind fun ss=>match ss with
  |(a,b,c,d)=>(if(!c)=true then some (b,true) else (if(!d)=true then some (a,true) else (iJ N a b).bind fun f=>some (a,(decide ((f:Int)<=0)))))
def jB(N:Nat)(s:aR):Option bX:= some (bX.mk 1 ([]:(List aB)) (Proof.mk s.steps ([]:(List aB)) (aB.mk false ([]:(List Int))) ([]:(List Proof))) 0)
def Ej(N:Nat)(n:Int):((List (List aB))×Int)->Option (aK ((List (List aB))×Int) (List (List aB)))
 |(b,a)=>(if(a:Int)<n then (fX (α:=aB) 32 (aB.mk false ([]:(List Int))) n).bind fun c=>(fM N 1).bind fun d=>(idx c a).bind fun g=>(dh c a d).bind fun e=>(cN 24 b [e]).bind fun f=>some (aK.next (f,(iw (a+1)))) else some (aK.done b))
def xE(N:Nat)(n:Int)(system:(List bA)):Option aR:=(zr N system).bind fun r1=>(fX (α:=Int) 8 0 n).bind fun x2=>(fX (α:=aB) 32 (aB.mk false ([]:(List Int))) n).bind fun x3=>(bH (Ej N n) N (([]:(List (List aB))),0)).bind fun ss=>match ss with
  |a=>some (aR.mk n r1 ([]:(List Step)) a x2 x3 ([]:(List aX)) ([]:(List dJ)))
def qe(N:Nat)(s:aR):Option aR:=(An N s.known).bind fun r1=>(CJ N s.steps).bind fun r2=>(AM N s.u).bind fun r3=>(A6 N s.status).bind fun r4=>(nF N s.value).bind fun r5=>(pV N s.items).bind fun r6=>(Dw N s.stack).bind fun r7=>some (aR.mk s.n r1 r2 r3 r4 r5 r6 r7)
def mV(N:Nat)(s:aR)(q:bA):Option aR:=(qe N s).bind fun r1=>(cN 56 r1.known [q]).bind fun x2=>some (aR.mk r1.n x2 ([]:(List Step)) r1.u r1.status r1.value r1.items r1.stack)
def p9(N:Nat)(s:aR)(form:(List aB))(bound:aB)(left:bX)(right:bX):Option bX:= some (bX.mk 1 ([]:(List aB)) (Proof.mk s.steps form bound [left.proof,right.proof]) 0)
def FK(N:Nat)(v:Int)(r1:((List aX)×(List aX))):(aB×Int)->Option (aK (aB×Int) aB)
 |(a,b)=>(if(b:Int)<(List.length r1.2:Int)then ((((idx r1.2 b).bind fun d=>(o5 N v d r1.1).bind fun c=>(gG N c).bind fun e=>(if(e:Int)≥0 then (fM N 1).bind fun f=>(ja N c f).bind fun g=>(ja N a g).bind fun i=>some i else some a)):Option aB)).bind fun ss=>match ss with
    |j=>some (aK.next (j,(iw (b+1)))) else some (aK.done a))
def wI(N:Nat)(s:aR)(v:Int):Option aB:=(q9 N s v).bind fun r1=>(bH (FK N v r1) N ((aB.mk false ([]:(List Int))),0)).bind fun ss=>match ss with
  |a=>some a
def C1(N:Nat)(s:aR)(e:(Int×Bool))(f:aX):(gI×Bool×Int)->Option (aK (gI×Bool×Int) (gI×Bool))
 |(a,b,c)=>(if(c:Int)<(List.length s.items:Int)then ((((idx s.items c).bind fun d=>(uH N d).bind fun i=>((((if(!i.2)=true then some true else (if(i.1:Int)≠e.1 then some true else (idx d.g e.1).bind fun l=>(gG N l).bind fun m=>some (decide ((m:Int)>0))))):Option Bool)).bind fun ss=>match ss with
    |n=>(if n=true then some (a,b) else (yn N s d).bind fun o=>(jr N o).bind fun j=>(yn N s f).bind fun k=>((((if(!b)=true then some true else (jb N k j).bind fun p=>(jb N a.high a.low).bind fun u=>(iJ N p u).bind fun v=>some (decide ((v:Int)<0)))):Option Bool)).bind fun ss=>match ss with
       |y=>(if y=true then some ((gI.mk f j k),true) else some (a,b)))):Option (gI×Bool))).bind fun ss=>match ss with
    |(a0,a1)=>some (aK.next (a0,a1,(iw (c+1)))) else some (aK.done (a,b)))
def ER(N:Nat)(s:aR):(gI×Bool×Int)->Option (aK (gI×Bool×Int) (gI×Bool))
 |(a,b,c)=>(if(c:Int)<(List.length s.items:Int)then ((((idx s.items c).bind fun d=>(uH N d).bind fun e=>((((if(!e.2)=true then some true else (idx d.g e.1).bind fun f=>(gG N f).bind fun i=>some (decide ((i:Int)<0)))):Option Bool)).bind fun ss=>match ss with
    |j=>(if j=true then some (a,b) else (bH (C1 N s e d) N (a,b,0)).bind fun ss=>match ss with
       |(k,l)=>some (k,l))):Option (gI×Bool))).bind fun ss=>match ss with
    |(m,n)=>some (aK.next (m,n,(iw (c+1)))) else some (aK.done (a,b)))
def wo(N:Nat)(s:aR):Option (gI×Bool):=(bH (ER N s) N ((gI.mk (aX.mk 0 ([]:(List aB))) (aB.mk false ([]:(List Int))) (aB.mk false ([]:(List Int)))),false,0)).bind fun ss=>match ss with
  |(a,b)=>some (a,b)
end Go.D
set_option maxHeartbeats 1000000
namespace Go.D
open Go Go.X
def cx(v:Nat)(l:List AI):List AI:=l.filter fun x=>decide (0<vf x.g v)
def dw(v:Nat)(l:List AI):List AI:=l.filter fun x=>decide (vf x.g v<0)
theorem j3{v:Nat}{l:List AI}{x:AI}:x∈cx v l↔x∈l/\0<vf x.g v:=by simp[cx]
theorem im{v:Nat}{l:List AI}{x:AI}:x∈dw v l↔x∈l/\vf x.g v<0:=by simp[dw]
def mI(l:List AI):List aX:=l.map AI.to
theorem fg(l:List AI):(mI l).length=l.length:=cP ..
theorem oC{l:List AI}{k:Nat}(h:k<l.length):idx (mI l) (k:Int)=some (l[k]).to:=by
 unfold mI;rw[dd (by simpa using h),kO]
def iy(n:Nat)(l:List AI):Prop:=l.length<=1073741824/\∀x∈l,x.g.length=n/\∀w∈x.g,dl w<=8
theorem iy.vf{n:Nat}{l:List AI}(h:iy n l){x:AI}(hx:x∈l)(v:Nat):dl (vf x.g v)<=8:=jQ.vf ⟨(h.2 x hx).1,(h.2 x hx).2⟩ v
theorem iy.sub{n:Nat}{l m:List AI}(h:iy n l)(hl:m.length<=l.length)(hm:∀x∈m,x∈l):iy n m:=⟨by have:=h.1;omega,fun x hx=>h.2 x (hm x hx)⟩
theorem o9{n v:Nat}{l:List AI}(h:iy n l):iy n (cx v l):=h.sub (tz ..) fun x hx=>(j3.1 hx).1
theorem wO{n v:Nat}{l:List AI}(h:iy n l):iy n (dw v l):=h.sub (tz ..) fun x hx=>(im.1 hx).1
theorem Jy{a:Int}:bM a 0=1↔0<a:=by unfold bM;(repeat' split)<;>omega
theorem Hk{a:Int}:bM a 0=-1↔a<0:=by unfold bM;(repeat' split)<;>omega
theorem QC{a:Int}:bM a 0≥0↔0<=a:=by unfold bM;(repeat' split)<;>omega
theorem Uz{v:Nat}{l:List AI}{k:Nat}(h:k<l.length):cx v (l.take (k+1))=cx v (l.take k)++(if 0<vf (l[k]).g v then[l[k]]else[]):=by
 unfold cx;rw[<-jt h,Ck];congr 1;by_cases e:0<vf (l[k]).g v<;>simp[e]
theorem TS{v:Nat}{l:List AI}{k:Nat}(h:k<l.length):dw v (l.take (k+1))=dw v (l.take k)++(if vf (l[k]).g v<0 then[l[k]]else[]):=by
 unfold dw;rw[<-jt h,Ck];congr 1;by_cases e:vf (l[k]).g v<0<;>simp[e]
theorem A8{s:St}{v:Nat}(hi:iy s.n s.items)(hv:v<s.n):Tm (fun N=>ta N s.to (v:Int)) (·=(mI (cx v s.items),mI (dw v s.items))):=by
 have hl:=hi.1;have hmi:s.to.items.length=s.items.length:=cP ..;unfold ta;refine aT (a:=(mI (cx v s.items),mI (dw v s.items))) (eG s.items.length (fun k t=>t=(mI (cx v (s.items.take k)),mI (dw v (s.items.take k)),(k:Int))) rfl ?_) (aL rfl);rintro k hk _ rfl;dsimp only[CA];refine aY (fun hlt=>?_) (fun hge=>aL ?_)
 . have hlt:k<s.items.length:=by omega
   have hm:=dt hlt;have hd:=hi.vf hm v;have lu:(cx v (s.items.take k)).length<=k:=bO (tz ..) (by rw[e9];omega);have ll:(dw v (s.items.take k)).length<=k:=bO (tz ..) (by rw[e9];omega);refine aT (a:=(mI (cx v (s.items.take (k+1))),mI (dw v (s.items.take (k+1))))) ?_ (aL ⟨hlt,by rw[dW (by omega)]⟩);rw[Uz hlt,TS hlt];refine aN (a:=(s.items[k]).to) (by show idx (mI s.items) _=_;exact oC hlt) (aN (ej (l:=(s.items[k]).g) (by rw[(hi.2 _ hm).1];exact hv)) (aT (jk (bO hd (by decide))) ?_));refine aY (fun h1=>?_) (fun h1=>aY (fun h2=>?_) (fun h2=>aL ?_))
   . have h1:=Jy.1 h1;refine aN (dP (by rw[fg];simp only[cz,dM];omega) (by decide)) (aL ?_);rw[if_pos h1,if_neg (by omega)];simp[mI]
   . have h2:=Hk.1 h2;refine aN (dP (by rw[fg];simp only[cz,dM];omega) (by decide)) (aL ?_);rw[if_pos h2,if_neg (by omega)];simp[mI]
   . rw[if_neg fun e=>h1 (Jy.2 e),if_neg fun e=>h2 (Hk.2 e)];simp[mI]
 . show _=_;rw[eV (by omega)]
theorem v7{s:St}{v:Nat}(hi:iy s.n s.items)(hv:v<s.n):Tm (fun N=>q9 N s.to (v:Int)) (·=(mI (cx v s.items),mI (dw v s.items))):=A8 hi hv
def j9(v:Nat)(l:List AI)(a:Int):Int:=l.foldl (fun a y=>if a<vf y.g v then vf y.g v else a) a
theorem H7{v:Nat}:∀{l:List AI} {a:Int},a<=j9 v l a/\∀x∈l,vf x.g v<=j9 v l a
 |[],a=>⟨lK _,fun x hx=>by cases hx⟩
 |y::l,a=>by
  obtain⟨h1,h2⟩:=H7 (v:=v) (l:=l) (a:=if a<vf y.g v then vf y.g v else a);refine⟨?_,fun x hx=>?_⟩
  . show a<=j9 v l _;split at h1<;>rename_i h<;>simp only[h,if_true,if_false]<;>omega
  . rcases dT.1 hx with rfl|hx
    . show _<=j9 v l _;split at h1<;>rename_i h<;>simp only[h,if_true,if_false]<;>omega
    . exact h2 x hx
theorem CD{v:Nat}:∀{l:List AI} {a:Int},j9 v l a=a\/∃x∈l,j9 v l a=vf x.g v
 |[],a=>.inl rfl
 |y::l,a=>by
  have e:j9 v (y::l) a=j9 v l (if a<vf y.g v then vf y.g v else a):=rfl;rw[e];rcases CD (v:=v) (l:=l) (a:=if a<vf y.g v then vf y.g v else a)with h|⟨x,hx,h⟩
  . rw[h];split
    . exact .inr ⟨y,cK,rfl⟩
    . exact .inl rfl
  . exact .inr ⟨x,cG _ hx,h⟩
def dZ(v:Nat)(l:List AI):Int:=j9 v l (vf (l.headD ⟨0,[]⟩).g v)
theorem JO{v:Nat}{l:List AI}:∀x∈l,vf x.g v<=dZ v l:=H7.2
theorem EV{v:Nat}{l:List AI}(h:l≠[]):∃x∈l,dZ v l=vf x.g v:=by
 cases l with
 |nil=>exact absurd rfl h
 |cons y r=>
  rcases CD (v:=v) (l:=y::r) (a:=vf y.g v)with h|h
  . exact⟨y,cK,h⟩
  . exact h
def gK(v:Nat)(low:AI)(bR:List AI):Int:=(dZ v bR*-vf low.g v-dZ v bR- -vf low.g v).fdiv (dZ v bR)
theorem xS{n v:Nat}{low:AI}{bR:List AI}(h:iy n bR)(h0:bR≠[])(hl:dl (vf low.g v)<=8):dl (gK v low bR)<=18:=by
 obtain⟨x,hx,e⟩:=EV (v:=v) h0;have h1:=h.vf hx v;rw[<-e]at h1;have h2:=j6 (dZ v bR) (-vf low.g v);rw[fV]at h2;have h3:=jU (K:=16) (a:=dZ v bR*-vf low.g v) (b:=dZ v bR) (by omega) (by omega);have h4:=jU (K:=17) (a:=dZ v bR*-vf low.g v-dZ v bR) (b:=-vf low.g v) (by omega) (by rw[fV];omega);exact bO (rh _ _) (by omega)
theorem wN{n v:Nat}{low:AI}{bR:List AI}(h:iy n bR)(h0:bR≠[])(hll:low.g.length=n)(hl:dl (vf low.g v)<=8)(hv:v<n):Tm (fun N=>o5 N (v:Int) low.to (mI bR)) (·=B (gK v low bR)):=by
 have hL:cZ=1099511627776:=rfl;have hul:=h.1;have hlen:0<bR.length:=qX.2 h0;obtain⟨u0,r,hur⟩:∃u r,bR=u::r:=by
  cases bR with
  |nil=>exact absurd rfl h0
  |cons u r=>exact⟨u,r,rfl⟩
 have hmem0:u0∈bR:=by rw[hur];exact cK
 have hdl:∀k,dl (j9 v (bR.take k) (vf u0.g v))<=8:=fun k=>by
  rcases CD (v:=v) (l:=bR.take k) (a:=vf u0.g v)with e|⟨x,hx,e⟩
  . rw[e];exact h.vf hmem0 v
  . rw[e];exact h.vf (tu hx) v
 unfold o5;refine aN (a:=u0.to) (by rw[hur];rfl) (aN (ej (l:=u0.g) (by rw[(h.2 _ hmem0).1];exact hv)) ?_);refine aT (a:=B (dZ v bR)) (eG bR.length (fun k t=>t=(B (j9 v (bR.take k) (vf u0.g v)),(k:Int))) rfl ?_) ?_
 . rintro k hk _ rfl;dsimp only[Cs];rw[fg];refine aY (fun hlt=>?_) (fun hge=>aL ?_)
   . have hlt:k<bR.length:=by omega
     have hm:=dt hlt;have hstep:j9 v (bR.take (k+1)) (vf u0.g v)=if j9 v (bR.take k) (vf u0.g v)<vf (bR[k]).g v then vf (bR[k]).g v else j9 v (bR.take k) (vf u0.g v):=by
      unfold j9;rw[<-jt hlt,Nb];rfl
     have hi:=ej (l:=(bR[k]).g) (k:=v) (by rw[(h.2 _ hm).1];exact hv);have hvk:=h.vf hm v;have hdk:=hdl k;refine aN (oC hlt) (aN hi (aT (j8 (by omega) (by omega)) (aY (fun h1=>aN hi (aL ⟨hlt,?_⟩)) (fun h1=>aL ⟨hlt,?_⟩))))
     . rw[dW (by omega),hstep,if_pos (by unfold bM at h1;(repeat' split at h1)<;>omega)]
     . rw[dW (by omega),hstep,if_neg (by unfold bM at h1;(repeat' split at h1)<;>omega)]
   . show _=_;rw[eV (by omega)];unfold dZ;rw[hur];rfl
 . dsimp only;have ha:dl (dZ v bR)<=8:=by
    obtain⟨x,hx,e⟩:=EV (v:=v) h0;rw[e];exact h.vf hx v
   have h2:=j6 (dZ v bR) (-vf low.g v);rw[fV]at h2;have h3:=jU (K:=16) (a:=dZ v bR*-vf low.g v) (b:=dZ v bR) (by omega) (by omega);have h4:=jU (K:=17) (a:=dZ v bR*-vf low.g v-dZ v bR) (b:=-vf low.g v) (by omega) (by rw[fV];omega);refine aN (ej (l:=low.g) (by omega)) (aT (n5 (by omega)) (aT (nT (by omega) (by rw[fV];omega)) (aT (mh (by omega) (by omega)) (aT (mh (by omega) (by rw[fV];omega)) (Tm.bind (qj (by omega) (by omega)) fun r hr=>aL ?_)))));rw[hr];rfl
theorem Ta{s:St}{v:Nat}(hi:iy s.n s.items)(hv:v<s.n):Tm (fun N=>wi N s.to (v:Int)) (fun r=>(r.2=true↔∃x∈s.items,vf x.g v≠0)/\∃c,r.1=B c/\dl c<=cZ):=by
 have hL:cZ=1099511627776:=rfl;have hl:=hi.1;have hu:=(o9 (v:=v) hi).1;have hw:=(wO (v:=v) hi).1;have hex:(∃x∈s.items,vf x.g v≠0)↔cx v s.items≠[]\/dw v s.items≠[]:=by
  constructor
  . rintro⟨x,hx,h⟩;rcases tD h with h|h
    . exact .inr (GN (im.2 ⟨hx,h⟩))
    . exact .inl (GN (j3.2 ⟨hx,h⟩))
  . rintro(h|h)
    . obtain⟨x,hx⟩:=Vc _ h;exact⟨x,(j3.1 hx).1,by have:=(j3.1 hx).2;omega⟩
    . obtain⟨x,hx⟩:=Vc _ h;exact⟨x,(im.1 hx).1,by have:=(im.1 hx).2;omega⟩
 have hul:∀{l:List AI},l≠[]↔l.length≠0:=fun{l}=>by rw[ne_eq,<-mo]
 rw[hex,hul,hul];unfold wi;refine aT (A8 hi hv) ?_;dsimp only;rw[fg,fg];refine aY (fun h0=>aL ⟨?_,0,B0.symm,by rw[ie];omega⟩) (fun h0=>?_)
 . rw[bJ (by omega) (by omega)]at h0;exact⟨fun e=>(by cases e),fun e=>by omega⟩
 . rw[bJ (by omega) (by omega)]at h0;refine Tm.bind (Q:=fun c=>c=decide ((cx v s.items).length=0\/(dw v s.items).length=0)) (aY (fun h=>aL ?_) (fun h=>aL ?_)) ?_
   . rw[decide_eq_true];omega
   . apply decide_eq_decide.2;omega
   rintro _ rfl;refine aY (fun h1=>aL ⟨?_,0,B0.symm,by rw[ie];omega⟩) (fun h1=>?_)
   . exact⟨fun _=>by omega,fun _=>rfl⟩
   . have h1:¬((cx v s.items).length=0\/(dw v s.items).length=0):=fun e=>h1 (decide_eq_true e);have hun:cx v s.items≠[]:=hul.2 (by omega);have hmul:((cx v s.items).length:Int)*((dw v s.items).length:Int)<=1073741824*1073741824:=nq (by omega) (by omega) (by omega) (by omega);have hmul0:0<=((cx v s.items).length:Int)*((dw v s.items).length:Int):=eH (by omega) (by omega);rw[bJ (by omega) (by omega)];refine aT (jT (by omega) (by omega)) ?_;refine Tm.bind (Q:=fun r=>∃c,r=B c/\dl c<=cZ) (eG (dw v s.items).length (fun k t=>∃c,t=(B c,(k:Int))/\dl c<=2+20*k) ⟨_,rfl,DB (by omega)⟩ ?_) ?_
     . rintro k hk _ ⟨c,rfl,hc⟩;dsimp only[Ez];rw[fg];refine aY (fun hlt=>?_) (fun hge=>aL ⟨c,rfl,by omega⟩);have hlt:k<(dw v s.items).length:=by omega
       have hm:=dt hlt;have hlo:=(wO (v:=v) hi);have hsd:=xS (low:=(dw v s.items)[k]) (o9 (v:=v) hi) hun (hlo.vf hm v);refine Tm.bind (Q:=fun r=>∃c,r=B c/\dl c<=2+20*(k+1)) (aN (oC hlt) (aT (wN (o9 (v:=v) hi) hun (hlo.2 _ hm).1 (hlo.vf hm v) hv) (aT (jk (by omega)) (aY (fun h2=>?_) (fun h2=>aL ⟨c,rfl,by omega⟩))))) ?_
       . have h1000:dl 1000<=18:=bO (jP (by decide)) (by decide);have ha:=oO hsd h1000;refine aT (jT (by decide) (by decide)) (aT (mG (by omega) (by omega)) (aT (nT (by omega) (by omega)) (aL ⟨_,rfl,?_⟩)));have:=j6 c (gK v (dw v s.items)[k] (cx v s.items)+1000);omega
       . rintro _ ⟨c',rfl,hc'⟩;exact aL ⟨hlt,c',by rw[dW (by omega)],hc'⟩
     . rintro _ ⟨c,rfl,hc⟩;exact aL ⟨⟨fun _=>by omega,fun _=>rfl⟩,c,rfl,hc⟩
theorem Ul{s:St}(hi:iy s.n s.items)(hst:s.status.length=s.n)(hn:s.n<=512):Tm (fun N=>uT N s.to) (fun r=>(r.2=true/\∃v:Nat,r.1=(v:Int)/\v<s.n/\vf s.status v=0/\∃x∈s.items,vf x.g v≠0)\/(r.2=false/\∀v,v<s.n->vf s.status v=0->∀x∈s.items,vf x.g v=0)):=by
 have hL:cZ=1099511627776:=rfl;unfold uT;refine Tm.bind (Q:=fun r=>(r.2=true/\∃v:Nat,r.1=(v:Int)/\v<s.n/\vf s.status v=0/\∃x∈s.items,vf x.g v≠0)\/(r.2=false/\∀v,v<s.n->vf s.status v=0->∀x∈s.items,vf x.g v=0))
  (eG s.n (fun k t=>t.2.2.2=(k:Int)/\(∃c,t.2.2.1=B c/\dl c<=cZ)/\((t.2.1=true/\∃v:Nat,t.1=(v:Int)/\v<s.n/\vf s.status v=0/\∃x∈s.items,vf x.g v≠0)\/(t.2.1=false/\∀v,v<k->vf s.status v=0->∀x∈s.items,vf x.g v=0)))
   ⟨rfl,⟨0,B0.symm,by rw[ie];omega⟩,.inr ⟨rfl,fun v hv=>by omega⟩⟩ ?_) fun r hr=>aL hr
 rintro k hk ⟨b,f,l,i⟩ ⟨rfl,⟨c,rfl,hc⟩,hI⟩;dsimp only at hI;dsimp only[El];refine aY (fun hlt=>?_) (fun hge=>aL ?_)
 . have hlt:k<s.n:=by have:(k:Int)<(s.n:Int):=hlt;omega
   refine Tm.bind (Q:=fun r=>(∃c,r.2.2=B c/\dl c<=cZ)/\((r.2.1=true/\∃v:Nat,r.1=(v:Int)/\v<s.n/\vf s.status v=0/\∃x∈s.items,vf x.g v≠0)\/(r.2.1=false/\∀v,v<k+1->vf s.status v=0->∀x∈s.items,vf x.g v=0))) (aN (AG (l:=s.status) (by omega)) (aY (fun h1=>aL ⟨⟨c,rfl,hc⟩,?_⟩) (fun h1=>?_))) ?_
   . dsimp only;rcases hI with hI|⟨h2,h3⟩
     . exact .inl hI
     . refine .inr ⟨h2,fun v hv h0=>?_⟩;rcases cw v k with h4|h4
       . exact h3 v h4 h0
       . obtain rfl:v=k:=by omega
         exact absurd h0 h1
   . have h1:vf s.status k=0:=tB.1 h1;refine Tm.bind (Ta hi hlt) ?_;rintro⟨pc,ok⟩ ⟨hp,c',hc',hcl'⟩;dsimp only at hp hc'⊢;subst hc';refine Tm.bind (Q:=fun t=>(t=true->ok=true)/\(t=false->ok=true->f=true)) (aY (fun h2=>aY (fun h3=>aL ⟨fun _=>h2,fun e=>(by cases e)⟩) (fun h3=>aT (j8 hcl' hc) (aL ⟨fun _=>h2,fun _ _=>by simpa using h3⟩))) (fun h2=>aL ⟨fun e=>(by cases e),fun _ e=>absurd e h2⟩)) ?_;rintro t ⟨ht1,ht2⟩;refine aY (fun h2=>aL ⟨⟨c',rfl,hcl'⟩,.inl ⟨rfl,k,rfl,hlt,h1,hp.1 (ht1 h2)⟩⟩) (fun h2=>aL ⟨⟨c,rfl,hc⟩,?_⟩);dsimp only;rcases hI with hI|⟨h3,h4⟩
     . exact .inl hI
     . refine .inr ⟨h3,fun v hv h0 x hx=>?_⟩;rcases cw v k with h5|h5
       . exact h4 v h5 h0 x hx
       . obtain rfl:v=k:=by omega
         refine jH fun e=>?_;have:=ht2 (by simpa using h2) (hp.2 ⟨x,hx,e⟩);rw[h3]at this;cases this
   . rintro⟨b',f',l'⟩ ⟨⟨c',hc',hcl'⟩,h2⟩;exact aL ⟨hlt,dW (by omega),⟨c',hc',hcl'⟩,h2⟩
 . have:k=s.n:=by have:¬(k:Int)<(s.n:Int):=hge;omega
   subst this;exact hI
theorem II{l:List AI}{f:Nat->aX->Option Bool}{g:AI->Bool}(hl:l.length<=1073741824)(h:∀x∈l,Tm (fun N=>f N x.to) (·=g x)):Tm (fun N=>uQ N (mI l) (f N)) (fun r=>(l.any g=false/\r=-1)\/∃k,∃hk:k<l.length,g l[k]=true/\(∀j (hj:j<k),g (l[j]'(by omega))=false)/\r=(k:Int)):=by
 unfold uQ;refine Tm.bind (Tm.findL (b:=fun N=>yq N (f N) (mI l)) l g (fun k=>(k:Int)) (by omega) ?_ ?_) ?_
 . intro k hk;dsimp only[yq];refine db (by rw[fg];omega) (aN (oC hk) (aT (h _ (dt hk)) ?_));refine aY (fun h=>aL ?_) (fun h=>aL ?_)
   . simp[h]
   . simp[h]
 . dsimp only[yq];exact cA (by rw[fg];omega) (aL rfl)
 . rintro _ (⟨h,rfl⟩|⟨k,hk,hg,hj,rfl⟩)
   . exact aL (.inl ⟨h,rfl⟩)
   . exact aL (.inr ⟨k,hk,hg,hj,rfl⟩)
def sG(s:St)(v:Nat):Prop:=cx v s.items=[]\/∀x∈dw v s.items,gK v x (cx v s.items)<0
theorem TZ{s:St}{v:Nat}(hi:iy s.n s.items)(hv:v<s.n):Tm (fun N=>vj N s.to (v:Int)) (fun r=>r=true↔sG s v):=by
 have hL:cZ=1099511627776:=rfl;unfold vj;refine aT (A8 hi hv) ?_;dsimp only;rw[fg];refine aY (fun h0=>aL ⟨fun _=>.inl (mo.1 (by omega)),fun _=>rfl⟩) (fun h0=>?_);have hun:cx v s.items≠[]:=fun e=>h0 (by rw[e];rfl);have hlo:=wO (v:=v) hi;refine aT (a:=(dw v s.items).any fun x=>decide (0<=gK v x (cx v s.items))) ?_ (aL ?_)
 . unfold yX;refine Tm.bind (II (f:=fun N y0=>uF N y0 (v:Int) (mI (cx v s.items))) (g:=fun x=>decide (0<=gK v x (cx v s.items))) hlo.1 fun x hx=>?_) ?_
   . unfold uF;refine aT (wN (o9 (v:=v) hi) hun (hlo.2 _ hx).1 (hlo.vf hx v) hv) (aT (jk (by have:=xS (low:=x) (o9 (v:=v) hi) hun (hlo.vf hx v);omega)) (aL ?_));exact decide_eq_decide.2 QC
   . rintro r (⟨h,rfl⟩|⟨k,hk,hg,-,rfl⟩)
     . exact aL (by rw[h];rfl)
     . exact aL (by rw[List.any_eq_true.2 ⟨_,dt hk,hg⟩];simp)
 . rw[Gt,M1];unfold sG;constructor
   . exact fun h=>.inr fun x hx=>by have:=h x hx;simpa using this
   . rintro(h|h) x hx
     . exact absurd h hun
     . have:=h x hx;simpa using this
end Go.D
set_option maxHeartbeats 1000000
namespace Go.D
open Go Go.X
theorem GV{a b:List AI}(ha:a.length<=1073741824)(hb:b.length<=1073741824):Tm (fun N=>uj N [mI a,mI b]) (·=mI (a++b)):=by
 unfold uj;have hw:∀z:Int,0<=z->z<=4294967296->iw z=z:=fun z h1 h2=>bJ (by omega) (by omega);have two:(0:Int)<(([mI a,mI b]:List (List aX)).length:Int):=by simp
 have two1:(1:Int)<(([mI a,mI b]:List (List aX)).length:Int):=by simp
 refine aT (a:=((a.length+b.length:Nat):Int)) ?_ ?_
 . refine eG 2 (fun k t=>(k=0->t=(0,0))/\(k=1->t=((a.length:Int),1))/\(k=2->t=(((a.length+b.length:Nat):Int),2))) ⟨fun _=>rfl,fun h=>(by omega),fun h=>(by omega)⟩ ?_;rintro k hk t ⟨h0,h1,h2⟩;rcases k with _|_|k
   . obtain rfl:=h0 rfl;dsimp only[wT];refine db two (aN (a:=mI a) rfl ?_);rw[fg,hw _ (by omega) (by omega)];refine cA (by omega) (aL ⟨by omega,fun h=>by omega,fun _=>?_,fun h=>by omega⟩);rw[hw _ (by omega) (by omega)];simp
   . obtain rfl:=h1 rfl;dsimp only[wT];refine db two1 (aN (a:=mI b) rfl ?_);rw[fg,hw _ (by omega) (by omega)];refine cA (by omega) (aL ⟨by omega,fun h=>by omega,fun h=>by omega,fun _=>?_⟩);rw[hw _ (by omega) (by omega)];simp
   . obtain rfl:k=0:=by omega
     obtain rfl:=h2 rfl;dsimp only[wT];exact cA (by simp) (aL rfl)
 . dsimp only;refine aT (a:=([]:List aX)) ?_ ?_
   . unfold Ae;rw[show iw (((a.length+b.length:Nat):Int)-iw (0-0))=((a.length+b.length:Nat):Int) by rw[show iw (0-0)=0 by decide,GM];exact hw _ (by omega) (by omega)];refine cA (by omega) (aT (a:=([]:List aX)) (aY (fun h=>?_) (fun h=>aL rfl)) (aL rfl));rw[lJ];refine aN (dP (by simp only[dM,gZ];omega) (by decide)) ?_;refine aN (ri (m:=0) (n:=0) rfl rfl (by omega) (by omega)) (aL ?_);simp
   . refine aT (a:=mI (a++b)) (eG 2 (fun k t=>(k=0->t=(([]:List aX),(0:Int)))/\(k=1->t=(mI a,1))/\(k=2->t=(mI (a++b),2))) ⟨fun _=>rfl,fun h=>(by omega),fun h=>(by omega)⟩ ?_) (aL rfl);rintro k hk t ⟨h0,h1,h2⟩;rcases k with _|_|k
     . obtain rfl:=h0 rfl;dsimp only[ye];refine db two (aN (a:=mI a) rfl (aN (dP (by rw[fg];simp only[dM];omega) (by decide)) (aL ⟨by omega,fun h=>by omega,fun _=>?_,fun h=>by omega⟩)));rw[hw _ (by omega) (by omega)];simp
     . obtain rfl:=h1 rfl;dsimp only[ye];refine db two1 (aN (a:=mI b) rfl (aN (dP (by rw[fg,fg];omega) (by decide)) (aL ⟨by omega,fun h=>by omega,fun h=>by omega,fun _=>?_⟩)));rw[hw _ (by omega) (by omega)];simp[mI]
     . obtain rfl:k=0:=by omega
       obtain rfl:=h2 rfl;dsimp only[ye];exact cA (by simp) (aL rfl)
theorem PM{l:List AI}{f:Nat->aX->Option Bool}{g:AI->Bool}(hl:l.length<=1073741824)(h:∀x∈l,Tm (fun N=>f N x.to) (·=g x)):Tm (fun N=>yg N (mI l) (f N)) (·=mI (l.filter fun x=>!g x)):=by
 unfold yg;refine Tm.bind (II hl h) ?_;rintro r (⟨hany,rfl⟩|⟨k0,hk0,hg0,hbef,rfl⟩)
 . refine db rfl (aL ?_);congr 1;rw[List.filter_eq_self.2];intro x hx;rw[M1]at hany;have:=hany x hx;simpa using this
 . refine cA (by omega) ?_;have hfil0:(l.take (k0+1)).filter (fun x=>!g x)=l.take k0:=by
    rw[<-jt hk0,Ck,List.filter_eq_self.2]
    . simp[hg0]
    . intro x hx;obtain⟨j,hj,rfl⟩:=nk hx;rw[e9]at hj;rw[List.getElem_take,hbef j (by omega)];rfl
   refine Tm.bind (Q:=fun t=>∃c:List aX,∃i:Nat,t=(c,(i:Int))/\c.length=l.length/\i<l.length/\c.take i=mI (l.filter fun x=>!g x))
    (Tm.uv (fun(k:Nat) (t:List aX×Int×Int)=>k0+1<=k/\k<=l.length/\∃c:List aX,∃i:Nat,t=(c,(i:Int),(k:Int))/\c.length=l.length/\i<k/\c.take i=mI ((l.take k).filter fun x=>!g x)/\c.drop k=mI (l.drop k)) (fun k=>l.length-k) (k0+1) ⟨bK _,hk0,mI l,k0,?_,fg l,by omega,?_,?_⟩ ?_) ?_
   . rw[dW (by omega)]
   . rw[hfil0];unfold mI;rw[List.map_take]
   . unfold mI;rw[Nt]
   . rintro k _ ⟨hk1,hk2,c,i,rfl,hcl,hik,ht,hd⟩;dsimp only[DO];refine aY (fun hlt=>?_) (fun hge=>aL ?_)
     . have hlt:k<l.length:=by omega
       have hck:c[k]?=some (l[k]).to:=by
        have:=congrArg (fun z:List aX=>z[0]?) hd;simp only[tk,nj,mI,gM,bV hlt]at this;exact this
       refine Tm.bind (Q:=fun r=>∃c':List aX,∃i':Nat,r=(c',(i':Int))/\c'.length=l.length/\i'<k+1/\c'.take i'=mI ((l.take (k+1)).filter fun x=>!g x)/\c'.drop (k+1)=mI (l.drop (k+1))) (aN (kJ hck) (aT (h _ (dt hlt)) (aY (fun h1=>?_) (fun h1=>aL ⟨c,i,rfl,hcl,by omega,?_,?_⟩)))) ?_
       . have h1:g l[k]=false:=by simpa using h1
         refine aN (dd (by omega)) (aN (dV rfl (by omega)) (aL ⟨c.set i (l[k]).to,i+1,by rw[dW (by omega)],by rw[iS];exact hcl,by omega,?_,?_⟩))
         . have e1:(c.set i (l[k]).to).take (i+1)=c.take i++[(l[k]).to]:=by
            rw[pQ (by rw[iS];omega),yE (by omega),List.getElem_set_self]
           rw[e1,ht,<-jt hlt,Ck];unfold mI;simp[h1]
         . rw[List.drop_set,if_pos (by omega)];have:=congrArg (List.drop 1) hd;rw[qT]at this;rw[this];unfold mI;rw[<-Nt,qT]
       . have h1:g l[k]=true:=by simpa using h1
         rw[ht,<-jt hlt,Ck];simp[h1]
       . have:=congrArg (List.drop 1) hd;rw[qT]at this;rw[this];unfold mI;rw[<-Nt,qT]
       . rintro _ ⟨c',i',rfl,a1,a2,a3,a4⟩;exact aL ⟨k+1,⟨by omega,by omega,c',i',by rw[dW (by omega)],a1,a2,a3,a4⟩,by omega⟩
     . have:k=l.length:=by omega
       subst this;rw[eV (bK _)]at ht;exact⟨c,i,rfl,hcl,by omega,ht⟩
   . rintro _ ⟨c,i,rfl,hcl,hil,ht⟩;dsimp only;rw[UI (by omega) (bK _)];refine aN (a:=()) rfl ?_;have hcut:cut (ql c (i:Int) (c.length:Int) (aX.mk 0 [])) 0 (i:Int)=some (c.take i):=by
      have:=JV (xs:=c) (l:=i) (h:=c.length) (z:=aX.mk 0 []) (by omega) (bK _);rw[ri (i:=0) (j:=(i:Int)) (m:=0) (n:=i) rfl rfl (by omega) (by omega),lH];unfold ql;rw[lJ,qV (by rw[e9];omega),MV];simp
     refine aN hcut (aL ht)
def comb(n v:Nat)(x y:AI):List Int:=vec n fun j=>-vf y.g v*vf x.g j+vf x.g v*vf y.g j
def mD(n v:Nat)(x y:AI):Act:=.put (comb n v x y) [⟨x.pos,-vf y.g v⟩,⟨y.pos,vf x.g v⟩]
def eI(s:St)(v:Nat)(dA:Bool):St:={s with status:=s.status.set v 2,items:=s.items.filter (fun x=>!decide (vf x.g v≠0)),stack:=s.stack++[⟨v,(cx v s.items++dw v s.items).map AI.pos,dA⟩]}
def qw(n v:Nat)(bR lows:List AI)(k m:Nat):List Act:=((lows.drop m).map fun y=>mD n v (bR.getD k ⟨0,[]⟩) y)++(bR.drop (k+1)).flatMap fun x=>lows.map fun y=>mD n v x y
def cX(s:St)(v:Nat):List Act:=(cx v s.items).flatMap fun x=>(dw v s.items).map fun y=>mD s.n v x y
theorem Uo{n v:Nat}{bR lows:List AI}{k:Nat}(h:k<bR.length):(bR.drop k).flatMap (fun x=>lows.map fun y=>mD n v x y)=qw n v bR lows k 0:=by
 unfold qw;rw[eU h,Cj,lH,cy,bV h];rfl
theorem TJ{n v:Nat}{bR lows:List AI}{k m:Nat}(hk:k<bR.length)(h:m<lows.length):qw n v bR lows k m=mD n v bR[k] lows[m]::qw n v bR lows k (m+1):=by
 unfold qw;rw[eU h,jY,yx,cy,bV hk];rfl
theorem QY{n v:Nat}{bR lows:List AI}{k:Nat}:qw n v bR lows k lows.length=(bR.drop (k+1)).flatMap (fun x=>lows.map fun y=>mD n v x y):=by
 unfold qw;rw[Ch];rfl
theorem Jb{s:St}{v:Nat}:(cX s v).length=(cx v s.items).length*(dw v s.items).length:=by
 unfold cX;generalize cx v s.items=a;generalize dw v s.items=b
 induction a with
 |nil=>simp
 |cons x a ih=>rw[Cj,cM,ih,cP,cz,gL];omega
theorem IQ{s:St}{v:Nat}{a:Act}:a∈cX s v↔∃x∈cx v s.items,∃y∈dw v s.items,a=mD s.n v x y:=by
 unfold cX;simp only[vW,dL];constructor
 . rintro⟨x,hx,y,hy,rfl⟩;exact⟨x,hx,y,hy,rfl⟩
 . rintro⟨x,hx,y,hy,rfl⟩;exact⟨x,hx,y,hy,rfl⟩
theorem Oz{K Kk:Nat}{s:St}{v:Nat}{dA:Bool}(hs:gv K s)(hv:v<s.n)(hst:s.status.length=s.n)(hstk:s.stack.length<=1000000)(hK:Kk+6<=K)(hA:∀a∈cX s v,lh Kk (eI s v dA) a)(hr:ji (cX s v).length (eI s v dA)):
 Tm (fun N=>nz N s.to (v:Int) dA) (·=((bU (eI s v dA) (cX s v)).1,(bU (eI s v dA) (cX s v)).2.to)):=by
 have hL:cZ=1099511627776:=rfl;have hi:iy s.n s.items:=⟨hs.il,fun x hx=>(hs.i x hx).2⟩;have hup:=o9 (v:=v) hi;have hlo:=wO (v:=v) hi;have hul:=hup.1;have hll:=hlo.1;have hn:=hs.n;unfold nz;refine aT (A8 hi hv) ?_;dsimp only;refine aT (GV hup.1 hlo.1) ?_;generalize hU:cx v s.items=U at*;generalize hW:dw v s.items=W at*;refine aT (a:=((U++W).map AI.pos).map Int.ofNat) (eG (U++W).length (fun k t=>t=((((U++W).take k).map AI.pos).map Int.ofNat,(k:Int))) rfl ?_) ?_
 . rintro k hk _ rfl;dsimp only[Fm];rw[fg];refine aY (fun hlt=>?_) (fun hge=>aL ?_)
   . have hlt:k<(U++W).length:=by omega
     rw[cM]at hlt;refine aN (oC (by rw[cM];exact hlt)) (aN (dP (by simp only[cP,e9,cz,dM,cM];omega) (by decide)) (aL ⟨by rw[cM];exact hlt,?_⟩));rw[dW (by omega),<-jt (by rw[cM];exact hlt)];simp only[jJ];rfl
   . show _=_;rw[eV (by omega)]
 refine aN (dP (by show((s.stack.map AE.to).length+_)*_<=_;simp only[cP,cz,dM];omega) (by decide)) ?_;refine aN (AG (l:=s.status) (by omega)) (aN (dV (xs:=s.status) rfl (by omega)) ?_);refine aT (a:=mI s.items) ?_ ?_
 . unfold pV;exact aN (dP (by show(_+(mI s.items).length)*_<=_;rw[fg];have:=hs.il;simp only[dM];omega) (by decide)) (aL rfl)
 refine aT (PM (f:=fun N y0=>uA N y0 (v:Int)) (g:=fun x=>decide (vf x.g v≠0)) hs.il fun x hx=>?_) ?_
 . unfold uA;refine aN (ej (l:=x.g) (by rw[(hi.2 x hx).1];exact hv)) (aT (jk (bO (hi.vf hx v) (by decide))) (aL (decide_eq_decide.2 pz)))
 have hLU:cX s v=U.flatMap fun x=>W.map fun y=>mD s.n v x y:=by unfold cX;rw[hU,hW]
 have hdn:(eI s v dA).n=s.n:=rfl;have hok0:gv K (eI s v dA):=⟨hs.n,hs.kl,hs.sl,bO (tz ..) hs.il,hs.k,fun x hx=>hs.i x (Ge.1 hx).1,hs.K⟩;have hfirst:iE (eI s v dA)=(s.to.known,s.to.steps,s.to.u,s.status.set v 2,s.to.value,mI (s.items.filter fun x=>!decide (vf x.g v≠0)),s.to.stack++[dJ.mk (v:Int) (((U++W).map AI.pos).map Int.ofNat) dA]):=by
  unfold iE eI;rw[hU,hW];unfold St.to;dsimp only;rw[jJ];rfl
 refine Tm.bind (Q:=fun r=>(∃s',r=.inl (iE s')/\bU (eI s v dA) (cX s v)=(true,s')/\s'.n=s.n)\/r=.inr ((bU (eI s v dA) (cX s v)).1,(bU (eI s v dA) (cX s v)).2.to))
  (eG U.length (fun k t=>∃s' k',iK K (eI s v dA) (cX s v) k' s'/\(cX s v).drop k'=(U.drop k).flatMap (fun x=>W.map fun y=>mD s.n v x y)/\t=(s'.to.known,s'.to.steps,s'.to.u,s'.to.status,s'.to.value,s'.to.items,s'.to.stack,(k:Int))) ⟨eI s v dA,0,iK.first hok0 hr,by rw[lH,lH,hLU],?_⟩ ?_) ?_
 . have:=hfirst;unfold iE at this;simp only[nm]at this;obtain⟨a1,a2,a3,a4,a5,a6,a7⟩:=this;rw[a1,a2,a3,a4,a5,a6,a7];rfl
 . rintro k hk _ ⟨s',k',hvv,hd,rfl⟩;dsimp only[Dm];rw[fg];refine aY (fun hlt=>?_) (fun hge=>aL ?_)
   . have hlt:k<U.length:=by omega
     rw[Uo hlt]at hd;refine aN (oC hlt) ?_;have hxm:U[k]∈U:=dt hlt;have hxl:=(hup.2 _ hxm).1;refine Tm.bind (Q:=fun r=>(∃s'' k'',r=.inl (iE s'')/\iK K (eI s v dA) (cX s v) k'' s''/\(cX s v).drop k''=(U.drop (k+1)).flatMap (fun x=>W.map fun y=>mD s.n v x y))\/r=.inr ((bU (eI s v dA) (cX s v)).1,(bU (eI s v dA) (cX s v)).2.to))
      (eG W.length (fun m t=>∃s'' k'',iK K (eI s v dA) (cX s v) k'' s''/\(cX s v).drop k''=qw s.n v U W k m/\t=(s''.to.known,s''.to.steps,s''.to.u,s''.to.status,s''.to.value,s''.to.items,s''.to.stack,(m:Int))) ⟨s',k',hvv,hd,rfl⟩ ?_) ?_
     . rintro m hm _ ⟨s2,k2,hv2,hd2,rfl⟩;dsimp only[Di];rw[fg];refine aY (fun hlt2=>?_) (fun hge2=>aL ?_)
       . have hlt2:m<W.length:=by omega
         rw[TJ hlt hlt2]at hd2;have hk2l:k2<(cX s v).length:=by
          rcases cw k2 (cX s v).length with h1|h1
          . exact h1
          . rw[Cf h1]at hd2;cases hd2
         rw[eU hk2l]at hd2;obtain⟨e1,e2⟩:=vT hd2;have hym:W[m]∈W:=dt hlt2;have hyl:=(hlo.2 _ hym).1;have dx:=fun j=>hup.vf hxm j;have dy:=fun j=>hlo.vf hym j;have hact:=hA _ (dt hk2l);rw[e1]at hact;obtain⟨g1,g2,g3,g4⟩:=hv2.put hk2l e1 (K0:=Kk) hact hK;refine aN (oC hlt2) (aN (ej (l:=(U[k]).g) (by omega)) (aN (ej (l:=(W[m]).g) (by omega)) (aT (n5 (bO (dy v) (by decide))) (aN (gN (n:=s.n) rfl (by omega) (by decide)) ?_))));rw[<-o8];refine aT (a:=mB (comb s.n v U[k] W[m])) ?_ ?_
         . refine(Tm.rA (n:=s.n) (by omega) (fun j=>-vf (W[m]).g v*vf (U[k]).g j+vf (U[k]).g v*vf (W[m]).g j) (by simp) (fin:=id) ?_ ?_)
           . intro j hj c hc hic;dsimp only[y8];have h1:=j6 (-vf (W[m]).g v) (vf (U[k]).g j);have h2:=j6 (vf (U[k]).g v) (vf (W[m]).g j);rw[fV]at h1;have:=dx j;have:=dx v;have:=dy j;have:=dy v;refine db (by rw[dE,gZ];omega) (aN (ej (l:=(U[k]).g) (by omega)) (aT (nT (by rw[fV];omega) (by omega)) (aN (ej (l:=(W[m]).g) (by omega)) (aT (nT (by omega) (by omega)) (aT (mG (by omega) (by omega)) (aN hic (aN (dV rfl (by omega)) (aL rfl))))))))
           . intro c hc;dsimp only[y8];exact cA (by rw[dE,gZ];omega) (aL rfl)
         . have hns:s.to.n=s2.to.n:=by show(s.n:Int)=s2.n;rw[hv2.n];rfl
           rw[iL (x:=s2.to) hns];refine aT g1 ?_;have hns2:s.to.n=(put s2 (comb s.n v U[k] W[m]) [⟨(U[k]).pos,-vf (W[m]).g v⟩,⟨(W[m]).pos,vf (U[k]).g v⟩]).2.to.n:=by
            show(s.n:Int)=((put s2 _ _).2.n:Int);rw[g4];rfl
           refine aY (fun hf=>aL (.inr ?_)) (fun ht=>aL ⟨hlt2,_,k2+1,g2 (by simpa using ht),e2,by rw[dW (by omega)]⟩);dsimp only;rw[iL hns2,g3 (by simpa using hf)]
       . have:m=W.length:=by omega
         subst this;rw[QY]at hd2;exact .inl ⟨s2,k2,rfl,hv2,hd2⟩
     . rintro r (⟨s2,k2,rfl,h1,h2⟩|rfl)
       . exact aL ⟨hlt,s2,k2,h1,h2,by rw[dW (by omega)]⟩
       . exact aL (.inr rfl)
   . have:k=U.length:=by omega
     subst this;rw[Ch]at hd;refine .inl ⟨s',rfl,?_,hvv.n⟩;rw[hvv.run,hd];rfl
 . rintro r (⟨s',rfl,h1,h2⟩|rfl)
   . refine aL ?_;show(true,aR.mk s.to.n s'.to.known s'.to.steps s'.to.u s'.to.status s'.to.value s'.to.items s'.to.stack)=_;rw[tR h2.symm,h1]
   . exact aL rfl
end Go.D

/- Plain theorems and definitions of this seat, several texts in one. -/
import Derived.Test.YtipdkfmhfakbnaaGreatDoorAd
import Derived.Test.YtipdkfmhfakbnaaGreatDoorAa
set_option linter.unusedVariables false
set_option linter.unusedSimpArgs false
set_option linter.unusedSectionVars false
namespace Go.D
open Go Go.X
def Da(N:Nat)(l:(List aB)):(Bool×(List Int)×Int)->Option (aK (Bool×(List Int)×Int) (Bool×(List Int)))
 |(b,c,a)=>(if(a:Int)<(List.length l:Int)then (idx l a).bind fun e=>(uq N (aB.mk b c) e).bind fun d=>some (aK.next (d.bF,d.aP,(iw (a+1)))) else some (aK.done (b,c)))
def xQ(N:Nat)(l:(List aB)):Option aB:=(bK (Da N l) N (false,[],0)).bind fun ss=>match ss with
  |(a,b)=>some (aB.mk a b)
def Bn(N:Nat)(l:(List aB)):((List aB)×Int)->Option (aK ((List aB)×Int) (List aB))
 |(b,a)=>(if(a:Int)<(List.length l:Int)then (idx l a).bind fun c=>(ji N c).bind fun d=>(idx b a).bind fun f=>(di b a d).bind fun e=>some (aK.next (e,(iw (a+1)))) else some (aK.done b))
def mn(N:Nat)(l:(List aB)):Option (List aB):=(fX (α:=aB) 32 (aB.mk false []) (List.length l:Int)).bind fun x2=>(bK (Bn N l) N (x2,0)).bind fun ss=>match ss with
  |a=>some a
def EP(N:Nat)(g:(List aB)):((List (List UInt8))×Int)->Option (aK ((List (List UInt8))×Int) (List (List UInt8)))
 |(b,a)=>(if(a:Int)<(List.length g:Int)then (idx g a).bind fun c=>(uN N c).bind fun d=>(cP 16 b [d]).bind fun e=>some (aK.next (e,(iw (a+1)))) else some (aK.done b))
def tK(N:Nat)(g:(List aB)):Option (List UInt8):=(bK (EP N g) N (([]:(List (List UInt8))),0)).bind fun ss=>match ss with
  |a=>(qD N a ([32]:List UInt8)).bind fun b=>some b
def CF(N:Nat)(pa:Int)(bR:(List aX)):(aB×Int)->Option (aK (aB×Int) aB)
 |(b,a)=>(if(a:Int)<(List.length bR:Int)then (idx bR a).bind fun c=>(idx c.g pa).bind fun d=>(iE N d b).bind fun e=>(if(e:Int)>0 then (idx c.g pa).bind fun f=>some (aK.next (f,(iw (a+1)))) else some (aK.next (b,(iw (a+1))))) else some (aK.done b))
def oD(N:Nat)(pa:Int)(low:aX)(bR:(List aX)):Option aB:=(idx bR 0).bind fun c=>(idx c.g pa).bind fun d=>(bK (CF N pa bR) N (d,0)).bind fun ss=>match ss with
  |a=>(idx low.g pa).bind fun e=>(ji N e).bind fun b=>(j1 N a b).bind fun f=>(iT N f a).bind fun i=>(iT N i b).bind fun j=>(kA N j a).bind fun k=>some k.1
def EB(N:Nat)(x:aX):(Int×Int×Int)->Option (aK (Int×Int×Int) (Int×Int))
 |(c,b,a)=>(if(a:Int)<(List.length x.g:Int)then (idx x.g a).bind fun d=>(gx N d).bind fun e=>(if(e:Int)≠0 then some (aK.next (a,(iw (b+1)),(iw (a+1)))) else some (aK.next (c,b,(iw (a+1))))) else some (aK.done (c,b)))
def uk(N:Nat)(x:aX):Option (Int×Bool):=(bK (EB N x) N (0,0,0)).bind fun ss=>match ss with
  |(a,b)=>some (a,(decide ((b:Int)=1)))
def Be(N:Nat)(pb:Int)(pc:Int)(r1:(List aX)):((List aX)×Int)->Option (aK ((List aX)×Int) (List aX))
 |(b,a)=>(if(a:Int)<(List.length r1:Int)then (idx b a).bind fun c=>(if(c.pos:Int)=pb then (idx b a).bind fun d=>(di b a (aX.mk pc d.g)).bind fun e=>some (aK.next (e,(iw (a+1)))) else some (aK.next (b,(iw (a+1))))) else some (aK.done b))
def uW(N:Nat)(l:(List aX))(pb:Int)(pc:Int):Option (List aX):=(qC N l).bind fun r1=>(bK (Be N pb pc r1) N (r1,0)).bind fun ss=>match ss with
  |a=>some a
def Aj(N:Nat)(n:Int)(pb:Int)(sign:Int)(bound:aB):Option bB:=(fX (α:=aB) 32 (aB.mk false []) n).bind fun a=>(fL N sign).bind fun b=>(idx a pb).bind fun d=>(di a pb b).bind fun c=>some (bB.mk c bound)
def pY(N:Nat)(a:aB)(b:aB):Option Bool:=(iE N a b).bind fun c=>some (decide ((c:Int)=0))
def p8(N:Nat)(x:aB):Option aB:= some (aB.mk false x.aP)
def tQ(N:Nat)(x:aX)(ca:Int)(cb:(List aX)):Option Bool:=(oD N ca x cb).bind fun r8=>(gx N r8).bind fun a=>some (decide ((a:Int)≥0))
def tR(N:Nat)(x:aX)(ca:Int):Option Bool:=(idx x.g ca).bind fun x7=>(gx N x7).bind fun a=>some (decide ((a:Int)≠0))
open Go Go.X
def dec(n:Nat):List UInt8:=if h:n=0 then[]else dec (n/10)++[UInt8.ofNat (48+n%10)]
termination_by n
decreasing_by omega
def qK(c:UInt8):Prop:=48<=c.toNat/\c.toNat<=57
instance (c:UInt8):Decidable (qK c):=inferInstanceAs (Decidable (_/\_))
def sr(s:List UInt8):Nat:=s.foldl (fun v c=>10*v+(c.toNat-48)) 0
theorem Q8(s:List UInt8)(c:UInt8):sr (s++[c])=10*sr s+(c.toNat-48):=by simp[sr,MI]
theorem KR{r:Nat}(h:r<10):(UInt8.ofNat (48+r)).toNat=48+r:=by
 rw[UInt8.toNat_ofNat'];omega
theorem Qc{r:Nat}(h:r<10):qK (UInt8.ofNat (48+r)):=by
 unfold qK;rw[KR h];omega
theorem vj:dec 0=[]:=by rw[dec];simp
theorem uL{n:Nat}(h:0<n):dec n=dec (n/10)++[UInt8.ofNat (48+n%10)]:=by
 rw[dec,dif_neg (by omega)]
theorem S3{n:Nat}(h:0<n):dec n≠[]:=by rw[uL h];simp
theorem R1(n:Nat):sr (dec n)=n:=by
 induction n using Nat.strongRecOn with
 |ind n ih=>
  rcases gv n with rfl|h
  . rw[vj];rfl
  . rw[uL h,Q8,ih (n/10) (by omega),KR (by omega)];omega
theorem A7(n:Nat):∀c∈dec n,qK c:=by
 induction n using Nat.strongRecOn with
 |ind n ih=>
  rcases gv n with rfl|h
  . rw[vj];simp
  . rw[uL h];intro c hc;rcases fE.1 hc with hc|hc
    . exact ih (n/10) (by omega) c hc
    . rw[cL.1 hc];exact Qc (by omega)
theorem rv{n:Nat}(h:0<n):Go.Lib.decDigits n=dec n:=by
 induction n using Nat.strongRecOn with
 |ind n ih=>
  rw[Go.Lib.decDigits];split
  . rename_i h10;rw[uL h,show n/10=0 by omega,vj,show n%10=n by omega];rfl
  . rw[ih (n/10) (by omega) (by omega),uL h]
theorem A8:Go.Lib.decDigits 0=[48]:=by rw[Go.Lib.decDigits,dif_pos (by omega)];rfl
def pad:Nat->Nat->List UInt8
 |0,_=>[]
 |k+1,r=>pad k (r/10)++[UInt8.ofNat (48+r%10)]
theorem Li:∀{k q r:Nat},0<q->r<10^k->dec (q*10^k+r)=dec q++pad k r
 |0,q,r,h,hr=>by
  have:r=0:=by simpa using hr
  rw[this,pad];simp
 |k+1,q,r,h,hr=>by
  have hm:0<10^k:=Nat.pow_pos (by omega);have hq:0<q*10^k:=Nat.mul_pos h hm;have hpow:10^(k+1)=10*10^k:=by rw[Nat.pow_succ,Nat.mul_comm]
  have e:q*10^(k+1)=10*(q*10^k):=by rw[hpow,Nat.mul_left_comm]
  rw[e]at*;rw[uL (by omega),show(10*(q*10^k)+r)/10=q*10^k+r/10 by omega,show(10*(q*10^k)+r)%10=r%10 by omega,Li h (by omega),pad,jb]
theorem J3:∀{k:Nat},pad k 0=List.replicate k 48
 |0=>rfl
 |k+1=>by rw[pad,J3,List.replicate_succ'];rfl
theorem E7:∀{k r:Nat},0<k->r<10^k->(Go.Lib.decDigits r).length<=k
 |0,_,h,_=>by omega
 |k+1,r,_,hr=>by
  rw[Go.Lib.decDigits];split
  . simp
  . have hk:0<k:=by
     rcases gv k with rfl|h
     . simp at hr;omega
     . exact h
    have:=E7 (k:=k) (r:=r/10) hk (by rw[Nat.pow_succ]at hr;omega);simp;omega
theorem II:∀{k r:Nat},0<k->r<10^k->pad k r=List.replicate (k-(Go.Lib.decDigits r).length) 48++Go.Lib.decDigits r
 |0,_,h,_=>by omega
 |k+1,r,_,hr=>by
  rw[Go.Lib.decDigits,pad];split
  . rw[show r/10=0 by omega,J3,show r%10=r by omega];simp
  . have hk:0<k:=by
     rcases gv k with rfl|h
     . simp at hr;omega
     . exact h
    rw[II (k:=k) hk (by rw[Nat.pow_succ]at hr;omega)];rw[cZ,<-jb];congr 2;congr 1;show _=k+1-(_+1);omega
theorem repeatL_one:∀{c:Nat},Go.Lib.repeatL [48] c=List.replicate c (48:UInt8)
 |0=>rfl
 |c+1=>by rw[Go.Lib.repeatL,repeatL_one,yk];rfl
theorem QH:∀{xs:List (List UInt8)},Go.Lib.join xs []=xs.flatten
 |[]=>rfl
 |x::xs=>by
  rw[Go.Lib.join_cons,Go.Lib.joinTail];simp
def fe(v:Int):List UInt8:=if v<0 then 45::dec v.natAbs else Go.Lib.decDigits v.toNat
theorem u4{v:Int}(h:v<0):fe v=45::dec v.natAbs:=by rw[fe,if_pos h]
theorem va{v:Int}(h:0<v):fe v=dec v.toNat:=by rw[fe,if_neg (by omega),rv (by omega)]
theorem xp:fe 0=[48]:=by rw[fe,if_neg (by omega)];exact A8
def body(s:List UInt8):List UInt8:=Go.Lib.trimPrefix s [45]
theorem Cs{c:UInt8}{s:List UInt8}:body (c::s)=if c=45 then s else c::s:=by
 unfold body Go.Lib.trimPrefix Go.Lib.hasPrefix;by_cases h:c=45
 . subst h;rw[if_pos rfl,if_pos (by rfl)];rfl
 . rw[if_neg h,if_neg];intro e;have e1:([45]:List UInt8).isPrefixOf (c::s)=true:=e;rw[List.isPrefixOf_cons_cons]at e1;simp only[fD,beq_iff_eq]at e1;exact h e1.1.symm
theorem M4:body []=[]:=by
 unfold body Go.Lib.trimPrefix Go.Lib.hasPrefix;simp
theorem G1{c:UInt8}(h:qK c):c≠45:=by
 intro e;subst e;unfold qK at h;simp at h
theorem QI(v:Int):body (fe v)=Go.Lib.decDigits v.natAbs:=by
 rcases tk v 0 with h|rfl|h
 . rw[u4 h,Cs,if_pos rfl,rv (by omega)]
 . rw[xp,Cs,if_neg (by decide)];exact A8.symm
 . rw[va h,rv (by omega),show v.natAbs=v.toNat by omega];cases hd:dec v.toNat with
   |nil=>exact M4
   |cons c t=>rw[Cs,if_neg (G1 (A7 v.toNat c (by rw[hd];exact cK)))]
theorem LX(n:Nat):Go.Lib.decDigits n≠[]:=by
 rcases gv n with rfl|h
 . rw[A8];simp
 . rw[rv h];exact S3 h
theorem OA(n:Nat):sr (Go.Lib.decDigits n)=n:=by
 rcases gv n with rfl|h
 . rw[A8];rfl
 . rw[rv h];exact R1 n
def sval(s:List UInt8):Int:=if s.head?=some 45 then-(sr (body s):Int)else sr (body s)
theorem Lq(v:Int):sval (fe v)=v:=by
 unfold sval;rw[QI,OA];rcases tk v 0 with h|rfl|h
 . rw[if_pos (by rw[u4 h];rfl)];omega
 . rw[if_neg (by rw[xp];decide)];rfl
 . rw[if_neg]
   . omega
   . rw[va h];intro e;have:=A7 v.toNat 45 (List.mem_of_head? e);exact G1 this rfl
theorem DE{B:Int}(hB:0<B){l:List Int}{v:Int}(h:Dg B l v):(List.length l:Int)>0↔v≠0:=by
 have:=h.zero hB;cases l with
 |nil=>
  have h0:=this.1 rfl;simp[h0]
 |cons x l=>
  have h0:v≠0:=fun e=>by have:=this.2 e;cases this
  simp only[cA];exact⟨fun _=>h0,fun _=>by omega⟩
theorem I6:aC^10<=(10:Int)^97:=by decide+kernel
theorem zd{n:Nat}(h:n<10^97):(dec n).length<=97:=by
 rcases gv n with rfl|h0
 . rw[vj];simp
 . rw[<-rv h0];exact E7 (by omega) h
theorem EY:∀{xs:List (List UInt8)},(∀p∈xs,p≠[])->xs.length<=xs.flatten.length
 |[],_=>by simp
 |x::xs,h=>by
  have h1:=EY (xs:=xs) (fun p hp=>h p (cH _ hp));have h2:=h x cK;have:0<x.length:=pL.2 h2;simp at h1⊢;omega
theorem Tp{i:Int}{n:Nat}(h:i=(n:Int))(hn:n<18446744073709551616):Tm (fun N=>vO N i 10) (fun r=>r=Go.Lib.decDigits n):=
 ⟨_,0,rfl,fun N _=>by subst h;unfold vO;rw[if_pos ⟨by omega,by omega,rfl⟩,mg]⟩
theorem Qs{i:Int}{n:Nat}(h:i=(n:Int))(hn:n<1000):Tm (fun N=>xH N [48] i) (fun r=>r=List.replicate n 48):=
 ⟨_,0,rfl,fun N _=>by subst h;unfold xH;rw[if_pos ⟨by omega,by omega,by simp only[cA,dP];omega⟩,mg,repeatL_one]⟩
theorem Pk{xs:List (List UInt8)}(h:xs.length<=1000)(h':xs.flatten.length<=1000):Tm (fun N=>qD N xs []) (fun r=>r=xs.flatten):=
 ⟨_,0,rfl,fun N _=>by unfold qD;rw[QH,if_pos ⟨by omega,by omega⟩]⟩
theorem Py{x:aB}(hd:bA aC x.aP)(hl:x.aP.length<=10):Tm (fun N=>uN N x) (fun r=>r=fe (bv x)):=by
 unfold uN;refine Tm.bind (px hd (by omega)) ?_;rintro y ⟨hy,hyl⟩;have hz:=hy.dg.zero (by decide);refine aY (fun h=>aS ?_) (fun h=>?_)
 . have:y.aP=[]:=mh.1 (by omega);have h0:bv x=0:=by have:=hz.1 this;omega
   rw[h0,xp]
 . have hne:y.aP≠[]:=fun e=>h (by rw[e];rfl);have h0:bv x≠0:=fun e=>hne (hz.2 (by omega));generalize hV:(bv x).natAbs=V at*;have hVlt:V<10^97:=by
    have h1:=gW (B:=aC) (by decide) hy.dg.bL;have h2:=km (B:=aC) (by decide) (show y.aP.length<=10 by omega);have h3:=I6;rw[hy.dg.val]at h1;have:(V:Int)<((10^97:Nat):Int):=by rw[F9];omega
    exact Int.ofNat_lt.1 this
   refine Tm.bind (Q:=fun parts:List (List UInt8)=>parts.reverse.flatten=dec V/\∀p∈parts,p≠[])
    (Tm.loop (fun t:List (List UInt8)×List Int=>∃n:Nat,Dg aC t.2 n/\t.2.length<=10/\dec n++t.1.reverse.flatten=dec V/\∀p∈t.1,p≠[]) (fun t=>(val aC t.2).toNat)
     ⟨V,by rw[<-hV];exact hy.dg,by show y.aP.length<=10;omega,by simp,by simp⟩ ?_) ?_
   . rintro⟨parts,d⟩ ⟨n,hdn,hdl,hf,hp⟩;dsimp only[CH]at*;have hpl:parts.length<=97:=by
      have h1:=EY (xs:=parts.reverse) (fun p hp'=>hp p (List.mem_reverse.1 hp'));have h2:=congrArg List.length hf;have h3:=zd hVlt;rw[cZ]at h2;rw[MR]at h1;omega
     refine aY (fun h=>?_) (fun h=>aS ?_)
     . have hn0:(n:Int)≠0:=(DE (by decide) hdn).1 h;refine Tm.bind (K5 hdn.bL (by decide) (by decide) (by omega)) ?_;rintro⟨q,r⟩ ⟨hq1,hq2,hq3,hq4⟩;dsimp only at*;rw[hdn.val]at hq2 hq3;have hq2':val aC q=((n/1000000000:Nat):Int):=by rw[hq2];omega
       have hr':r=((n%1000000000:Nat):Int):=by rw[hq3];omega
       refine Tm.bind (oQ hq1 (by omega)) ?_;rintro d' ⟨hd',hdl'⟩;rw[hq2']at hd';have hpos:=DE (by decide) hd';have hlt:n%1000000000<10^9:=by omega
       have hdl9:=E7 (k:=9) (by omega) hlt;have huw:uw r=((n%1000000000:Nat):Int):=by rw[hr'];exact gJ (by omega) (by omega)
       refine Tm.bind (Tp huw (by omega)) ?_;rintro _ rfl;have hμ:(val aC d').toNat<(val aC d).toNat:=by rw[hd'.val,hdn.val];omega
       refine Tm.bind (Q:=fun s=>s≠[]/\dec n=dec (n/1000000000)++s) (aY (fun h=>?_) (fun h=>aS ?_)) ?_
       . have hc:iw (9-((Go.Lib.decDigits (n%1000000000)).length:Int))=((9-(Go.Lib.decDigits (n%1000000000)).length:Nat):Int):=by rw[bJ]<;>omega
         refine Tm.bind (Qs hc (by omega)) ?_;rintro _ rfl;refine aN (wI (by rw[kL];omega)) (aS ⟨?_,?_⟩)
         . intro e;exact LX _ (FO.1 e).2
         . rw[<-II (by omega) hlt,<-Li (by have:=hpos.1 h;omega) hlt];congr 1;omega
       . have hq0:n/1000000000=0:=by
          rcases gv (n/1000000000)with h1|h1
          . exact h1
          . exact absurd (hpos.2 (by omega)) h
         refine⟨LX _,?_⟩;rw[hq0,vj,show n%1000000000=n by omega,rv (by omega)];rfl
       . rintro s ⟨hs1,hs2⟩;refine aN (dO (by simp only[cA,dP];omega) (by decide)) (aS ⟨⟨n/1000000000,hd',by show d'.length<=10;omega,?_,?_⟩,hμ⟩)
         . rw[<-hf,hs2];simp
         . intro p hp';rcases fE.1 hp' with h1|h1
           . exact hp p h1
           . rw[cL.1 h1];exact hs1
     . have hn0:n=0:=by
        rcases gv n with h1|h1
        . exact h1
        . exact absurd ((DE (by decide) hdn).2 (by omega)) h
       rw[hn0,vj]at hf;exact⟨by simpa using hf,hp⟩
   . rintro parts ⟨hf,hp⟩;have hlen:parts.length<=97:=by
      have h1:=EY (xs:=parts.reverse) (fun p hp'=>hp p (List.mem_reverse.1 hp'));have h3:=zd hVlt;rw[hf,MR]at h1;omega
     refine Tm.bind (Q:=fun ps:List (List UInt8)=>ps.reverse.flatten=fe (bv x)/\ps.length<=98) (aY (fun h=>?_) (fun h=>aS ?_)) ?_
     . refine aN (dO (by simp only[cA,dP];omega) (by decide)) (aS ⟨?_,by simp;omega⟩);have:bv x<0:=by rw[hy.neg]at h;simpa using h
       rw[u4 this,MS,hV,<-hf];rfl
     . have:¬bv x<0:=by rw[hy.neg]at h;simpa using h
       rw[va (by omega),hf,show(bv x).toNat=V by omega];exact⟨rfl,by omega⟩
     . rintro ps ⟨h1,h2⟩;have h3:(fe (bv x)).length<=98:=by
        have h3:=zd hVlt;rcases tk (bv x) 0 with h|h|h
        . rw[u4 h,cA,hV];omega
        . exact absurd h h0
        . rw[va h,show(bv x).toNat=V by omega];omega
       refine aU (a:=ps.reverse) ⟨_,0,rfl,fun N _=>by unfold xL;rw[if_pos (by omega)]⟩ ?_;refine Tm.bind (Pk (by rw[MR];omega) (by rw[h1];omega)) ?_;rintro _ rfl;exact aS h1
theorem Jm{v w:Int}(h:fe v=fe w):v=w:=by rw[<-Lq v,h,Lq]
theorem za(v:Int):∀c∈fe v,c≠32:=by
 intro c hc e;subst e;have key:∀{l:List UInt8},(∀c∈l,qK c)->(32:UInt8)∈l->False:=fun h h'=>by have:=h _ h';unfold qK at this;simp at this
 rcases tk v 0 with h|rfl|h
 . rw[u4 h]at hc;rcases dZ.1 hc with h1|h1
   . cases h1
   . exact key (A7 _) h1
 . rw[xp]at hc;simp at hc
 . rw[va h]at hc;exact key (A7 _) hc
theorem Jv{v:Int}(h:dl v<=10):(fe v).length<=98:=by
 have h1:=tZ v;have h2:=Du h;have h3:=I6;have hV:v.natAbs<10^97:=by
  have:(v.natAbs:Int)<((10^97:Nat):Int):=by rw[F9];omega
  exact Int.ofNat_lt.1 this
 have h4:=zd hV;rcases tk v 0 with h|rfl|h
 . rw[u4 h,cA];omega
 . rw[xp];decide
 . rw[va h,show v.toNat=v.natAbs by omega];omega
theorem PY{v:Int}(h:dl v<=10):Tm (fun N=>uN N (B v)) (·=fe v):=(Py (bL v) h).mono fun r h=>by rw[gA]at h;exact h
def keyOf(g:List Int):List UInt8:=Go.Lib.join (g.map fe) [32]
theorem y5:∀{x y T U:List UInt8},(∀c∈x,c≠32)->(∀c∈y,c≠32)->(∀c,T.head?=some c->c=32)->(∀c,U.head?=some c->c=32)->x++T=y++U->x=y/\T=U
 |[],[],T,U,_,_,_,_,h=>⟨rfl,h⟩
 |[],d::y,T,U,_,hy,hT,_,h=>by
  have:T.head?=some d:=by rw[show T=d::y++U from h];rfl
  exact absurd (hT d this) (hy d cK)
 |c::x,[],T,U,hx,_,_,hU,h=>by
  have:U.head?=some c:=by rw[show U=c::x++T from h.symm];rfl
  exact absurd (hU c this) (hx c cK)
 |c::x,d::y,T,U,hx,hy,hT,hU,h=>by
  have h:c::(x++T)=d::(y++U):=h;obtain⟨e1,e2⟩:=vM h;subst e1;obtain⟨rfl,h2⟩:=y5 (fun c hc=>hx c (cH _ hc)) (fun c hc=>hy c (cH _ hc)) hT hU e2;exact⟨rfl,h2⟩
theorem Br{r:List (List UInt8)}:∀c,(Go.Lib.joinTail [32] r).head?=some c->c=32:=by
 intro c h;cases r with
 |nil=>cases h
 |cons x r=>simp[Go.Lib.joinTail]at h;exact h.symm
theorem GQ:∀{g h:List Int},g.length=h.length->Go.Lib.joinTail [32] (g.map fe)=Go.Lib.joinTail [32] (h.map fe)->g=h
 |[],[],_,_=>rfl
 |v::g,w::h,hl,e=>by
  have e:(32:UInt8)::(fe v++Go.Lib.joinTail [32] (g.map fe))=32::(fe w++Go.Lib.joinTail [32] (h.map fe)):=by simpa[Go.Lib.joinTail]using e
  obtain⟨h1,h2⟩:=y5 (za v) (za w) Br Br (vM e).2;rw[Jm h1,GQ (by simpa using hl) h2]
theorem GZ{g h:List Int}(hl:g.length=h.length)(e:keyOf g=keyOf h):g=h:=by
 cases g with
 |nil=>cases h with
  |nil=>rfl
  |cons w h=>cases hl
 |cons v g=>
  cases h with
  |nil=>cases hl
  |cons w h=>
   unfold keyOf at e;rw[jU,jU,Go.Lib.join_cons,Go.Lib.join_cons]at e;obtain⟨h1,h2⟩:=y5 (za v) (za w) Br Br e;rw[Jm h1,GQ (by simpa using hl) h2]
theorem GO:∀{g:List Int},(∀v∈g,dl v<=10)->(Go.Lib.joinTail [32] (g.map fe)).length<=99*g.length
 |[],_=>by simp[Go.Lib.joinTail]
 |v::g,h=>by
  have h1:=GO (g:=g) fun w hw=>h w (cH _ hw);have h2:=Jv (h v cK);have e:Go.Lib.joinTail [32] ((v::g).map fe)=(32:UInt8)::(fe v++Go.Lib.joinTail [32] (g.map fe)):=by simp[Go.Lib.joinTail]
  rw[e,cA,cZ,cA];omega
theorem O5{g:List Int}(h:∀v∈g,dl v<=10):(keyOf g).length<=99*g.length:=by
 cases g with
 |nil=>simp[keyOf,Go.Lib.join_nil]
 |cons v g=>
  have h1:=GO (g:=g) fun w hw=>h w (cH _ hw);have h2:=Jv (h v cK);unfold keyOf;rw[jU,Go.Lib.join_cons,cZ,cA];omega
theorem Kw{g:List Int}(hl:g.length<=1000)(h:∀v∈g,dl v<=10):Tm (fun N=>tK N (g.map B)) (·=keyOf g):=by
 unfold tK;refine aU (a:=g.map fe) (eL g.length (fun k s=>s.2=(k:Int)/\s.1=(g.take k).map fe) ⟨rfl,rfl⟩ ?_) ?_
 . rintro k hk ⟨l,i⟩ ⟨rfl,rfl⟩;dsimp only[EP];rw[cN];refine aY (fun hlt=>?_) (fun hge=>aM ?_)
   . have hlt:k<g.length:=by omega
     refine aN (dd (by rw[cN];exact hlt)) ?_;rw[kM];refine aU (PY (h _ (du hlt))) (aN (dO (by simp only[cA,dP,cN,eR];omega) (by decide)) (aM ⟨hlt,ed (by omega),?_⟩));show _=(g.take (k+1)).map fe;rw[<-jW hlt,jV];rfl
   . show _=_;rw[fh (by omega)]
 . have:=O5 h;refine aU (a:=keyOf g) ⟨_,0,rfl,fun N _=>?_⟩ (aM rfl);show qD N (g.map fe) [32]=some (keyOf g);unfold qD;rw[if_pos ⟨by rw[cN];omega,by show(keyOf g).length<=_;omega⟩];rfl
open Go Go.X
def lT(N:Nat)(s:aR)(x:aX):Option aB:=(idx s.known x.pos).bind fun x1=>some x1.dz
def xg(N:Nat)(s:aR)(x:aX):Option aB:=(idx s.known x.pos).bind fun x1=>some x1.dz
def wc(N:Nat)(Coefs138:(List aB))(b:bB)(c:dQ):((List aB)×Int)->Option (aK ((List aB)×Int) (List aB))
 |(Coefs375,a)=>(if(a:Int)<(List.length Coefs138:Int)then (idx Coefs375 a).bind fun d=>(idx b.aZ a).bind fun e=>(j1 N c.N e).bind fun f=>(iW N d f).bind fun g=>(idx Coefs375 a).bind fun j=>(di Coefs375 a g).bind fun i=>some (aK.next (i,(iw (a+1)))) else some (aK.done Coefs375))
def yV(N:Nat)(s:aR)(cE:(List dQ)):((List aB)×aB×Int)->Option (aK ((List aB)×aB×Int) ((List aB)×aB))
 |(Coefs138,Bound139,a)=>(if(a:Int)<(List.length cE:Int)then (idx cE a).bind fun b=>(idx s.known b.Index).bind fun c=>(bK (wc N Coefs138 c b) N (Coefs138,0)).bind fun ss=>match ss with
    |Coefs397=>(j1 N b.N c.dz).bind fun d=>(iW N Bound139 d).bind fun e=>some (aK.next (Coefs397,e,(iw (a+1)))) else some (aK.done (Coefs138,Bound139)))
def wB(N:Nat)(d:aB)(Coefs280:(List aB)):((List aB)×Int)->Option (aK ((List aB)×Int) (List aB))
 |(Coefs434,a)=>(if(a:Int)<(List.length Coefs280:Int)then (idx Coefs434 a).bind fun b=>(kA N b d).bind fun c=>(idx Coefs434 a).bind fun f=>(di Coefs434 a c.1).bind fun e=>some (aK.next (e,(iw (a+1)))) else some (aK.done Coefs434))
def qp(N:Nat)(s:aR)(cE:(List dQ))(d:aB):Option bB:=(fX (α:=aB) 32 (aB.mk false ([]:(List Int))) s.n).bind fun x1=>(bK (yV N s cE) N (x1,(aB.mk false ([]:(List Int))),0)).bind fun ss=>match ss with
  |(Coefs280,Bound281)=>(bK (wB N d Coefs280) N (Coefs280,0)).bind fun ss=>match ss with
    |Coefs452=>(kA N Bound281 d).bind fun a=>some (bB.mk Coefs452 a.1)
def wm(N:Nat)(g:(List aB))(d6:aB):((List aB)×Int)->Option (aK ((List aB)×Int) (List aB))
 |(b,a)=>(if(a:Int)<(List.length g:Int)then (idx g a).bind fun c=>(kA N c d6).bind fun d=>(idx b a).bind fun f=>(di b a d.1).bind fun e=>some (aK.next (e,(iw (a+1)))) else some (aK.done b))
def rL(N:Nat)(s:aR)(g:(List aB))(cE:(List dQ)):Option (aX×Bool×Bool×aR):=(xQ N g).bind fun r1=>(gx N r1).bind fun r2=>((((if¬((r2:Int)≠0)then (fL N 1).bind fun j=>some j else some r1)):Option aB)).bind fun ss=>match ss with
  |d6=>(fL N 1).bind fun a=>((((if((List.length cE:Int):Int)>1 then some true else (idx cE 0).bind fun k=>(iE N k.N a).bind fun l=>(if(l:Int)≠0 then some true else (iE N d6 a).bind fun m=>some (decide ((m:Int)≠0))))):Option Bool)).bind fun ss=>match ss with
    |o=>((((if o=true then (cP 56 s.steps [(Step.mk cE d6)]).bind fun f=>(qp N (aR.mk s.n s.known f s.u s.status s.value s.items s.stack) cE d6).bind fun p=>(cP 56 s.known [p]).bind fun i=>some (i,f,[(dQ.mk (iw ((List.length i:Int)-1)) a)]) else some (s.known,s.steps,cE))):Option ((List bB)×(List Step)×(List dQ)))).bind fun ss=>match ss with
      |(b,c,v)=>(idx v 0).bind fun d=>(fX (α:=aB) 32 (aB.mk false ([]:(List Int))) s.n).bind fun y=>(bK (wm N g d6) N (y,0)).bind fun ss=>match ss with
        |e=>(if(r2:Int)≠0 then some ((aX.mk d.Index e),(decide ((r2:Int)≠0)),true,(aR.mk s.n b c s.u s.status s.value s.items s.stack)) else (lT N (aR.mk s.n b c s.u s.status s.value s.items s.stack) (aX.mk d.Index e)).bind fun a0=>(gx N a0).bind fun a1=>some ((aX.mk d.Index e),(decide ((r2:Int)≠0)),(decide ((a1:Int)≥0)),(aR.mk s.n b c s.u s.status s.value s.items s.stack)))
def yF(N:Nat)(s:aR)(x:aX):Int->Option (aK Int (Sum Unit aR))
 |a=>(if(a:Int)<(List.length s.items:Int)then (idx s.items a).bind fun b=>(xo N x.g b.g (fun y0 y1=>pY N y0 y1)).bind fun c=>(if c=true then (lT N s x).bind fun d=>(lT N s b).bind fun e=>(iE N d e).bind fun f=>(if(f:Int)<0 then (idx s.items a).bind fun j=>(di s.items a x).bind fun i=>some (aK.done (Sum.inr (aR.mk s.n s.known s.steps s.u s.status s.value i s.stack))) else some (aK.done (Sum.inr s))) else some (aK.next (iw (a+1)))) else some (aK.done (Sum.inl ())))
def kO(N:Nat)(s:aR)(x:aX):Option aR:=(bK (yF N s x) N 0).bind fun ss=>match ss with
  |(Sum.inl _)=>(cP 32 s.items [x]).bind fun a=>some (aR.mk s.n s.known s.steps s.u s.status s.value a s.stack)
  |(Sum.inr z)=>some z
def mW(N:Nat)(s:aR)(g:(List aB))(cE:(List dQ)):Option (Bool×aR):=(rL N s g cE).bind fun r1=>((((if r1.2.1=true then (kO N (aR.mk s.n r1.2.2.2.known r1.2.2.2.steps r1.2.2.2.u r1.2.2.2.status r1.2.2.2.value r1.2.2.2.items r1.2.2.2.stack) r1.1).bind fun a=>some (a.known,a.steps,a.u,a.status,a.value,a.items,a.stack) else some (r1.2.2.2.known,r1.2.2.2.steps,r1.2.2.2.u,r1.2.2.2.status,r1.2.2.2.value,r1.2.2.2.items,r1.2.2.2.stack))):Option ((List bB)×(List Step)×(List (List aB))×(List Int)×(List aB)×(List aX)×(List dI)))).bind fun ss=>match ss with
  |(known5,steps6,u7,status8,value9,b,c)=>some (r1.2.2.1,(aR.mk s.n known5 steps6 u7 status8 value9 b c))
def DC(N:Nat)(s:aR):((List bB)×(List Step)×(List (List aB))×(List Int)×(List aB)×(List aX)×(List dI)×Int)->Option (aK ((List bB)×(List Step)×(List (List aB))×(List Int)×(List aB)×(List aX)×(List dI)×Int) (Sum ((List bB)×(List Step)×(List (List aB))×(List Int)×(List aB)×(List aX)×(List dI)) (Bool×aR)))
 |(c,d,e,f,g,i,j,b)=>(if(b:Int)<(List.length s.known:Int)then (idx c b).bind fun k=>(ns N k.aZ).bind fun l=>(fL N 1).bind fun m=>(mW N (aR.mk s.n c d e f g i j) l [(dQ.mk b m)]).bind fun a=>(if(!a.1)=true then some (aK.done (Sum.inr (false,(aR.mk s.n a.2.known a.2.steps a.2.u a.2.status a.2.value a.2.items a.2.stack)))) else some (aK.next (a.2.known,a.2.steps,a.2.u,a.2.status,a.2.value,a.2.items,a.2.stack,(iw (b+1))))) else some (aK.done (Sum.inl (c,d,e,f,g,i,j))))
def tH(N:Nat)(s:aR):Option (Bool×aR):=(bK (DC N s) N (s.known,s.steps,s.u,s.status,s.value,s.items,s.stack,0)).bind fun ss=>match ss with
  |(Sum.inl (a,b,c,d,e,f,g))=>some (true,(aR.mk s.n a b c d e f g))
  |(Sum.inr z)=>some z
def Ey(N:Nat)(s:aR):((List ((List UInt8)×Int))×Int)->Option (aK ((List ((List UInt8)×Int))×Int) (List ((List UInt8)×Int)))
 |(b,a)=>(if(a:Int)<(List.length s.items:Int)then (idx s.items a).bind fun c=>(tK N c.g).bind fun d=>some (aK.next ((jX b d a),(iw (a+1)))) else some (aK.done b))
def El(N:Nat)(s:aR)(b:(List ((List UInt8)×Int))):Int->Option (aK Int (Sum Unit (Int×Int×Bool×Bool×aR)))
 |c=>(if(c:Int)<(List.length s.items:Int)then ((((idx s.items c).bind fun e=>(mn N e.g).bind fun i=>(tK N i).bind fun d=>((((if(!(fq b d 0).2)=true then some true else some (decide ((((fq b d 0).1):Int)<c)))):Option Bool)).bind fun ss=>match ss with
    |j=>(if j=true then some (Sum.inl ()) else (lT N s e).bind fun k=>(idx s.items ((fq b d 0).1)).bind fun l=>(lT N s l).bind fun m=>(iW N k m).bind fun o=>(gx N o).bind fun f=>(if(f:Int)=(-1)then (fX (α:=aB) 32 (aB.mk false ([]:(List Int))) s.n).bind fun p=>(fL N 1).bind fun v=>(idx s.items ((fq b d 0).1)).bind fun y=>(fL N 1).bind fun a0=>(mW N s p [(dQ.mk e.pos v),(dQ.mk y.pos a0)]).bind fun a=>some (Sum.inr (0,0,false,false,(aR.mk s.n a.2.known a.2.steps a.2.u a.2.status a.2.value a.2.items a.2.stack))) else (if(f:Int)=0 then some (Sum.inr (c,(fq b d 0).1,true,true,s)) else some (Sum.inl ()))))):Option (Sum Unit (Int×Int×Bool×Bool×aR)))).bind fun ss=>match ss with
    |(Sum.inl _)=>some (aK.next (iw (c+1)))
    |(Sum.inr z)=>some (aK.done (Sum.inr z)) else some (aK.done (Sum.inl ())))
def vu(N:Nat)(s:aR):Option (Int×Int×Bool×Bool×aR):=(bK (Ey N s) N (([]:(List ((List UInt8)×Int))),0)).bind fun ss=>match ss with
  |a=>(bK (El N s a) N 0).bind fun ss=>match ss with
    |(Sum.inl _)=>some (0,0,false,true,s)
    |(Sum.inr z)=>some z
def l5(N:Nat)(l:(List aB))(c0:Int)(c1:aB)(c2:Int):Option (List aB):=(ns N l).bind fun r1=>(idx r1 c0).bind fun x2=>(idx r1 c2).bind fun x3=>(j1 N c1 x3).bind fun r4=>(iT N x2 r4).bind fun r5=>(idx r1 c0).bind fun x6=>(di r1 c0 r5).bind fun x7=>some x7
def l7(N:Nat)(l:(List aB))(c0:Int):Option (List aB):=(ns N l).bind fun r1=>(idx r1 c0).bind fun x2=>(ji N x2).bind fun r3=>(idx r1 c0).bind fun x4=>(di r1 c0 r3).bind fun x5=>some x5
def Am(N:Nat)(s:aR)(j:Int)(p:Int)(q:aB):((List (List aB))×Int)->Option (aK ((List (List aB))×Int) (List (List aB)))
 |(b,a)=>(if(a:Int)<(List.length s.u:Int)then (idx b a).bind fun c=>((fun y0=>l5 N y0 j q p) c).bind fun d=>(idx b a).bind fun f=>(di b a d).bind fun e=>some (aK.next (e,(iw (a+1)))) else some (aK.done b))
def zw(N:Nat)(s:aR)(j:Int)(p:Int)(q:aB):((List aX)×Int)->Option (aK ((List aX)×Int) (List aX))
 |(b,a)=>(if(a:Int)<(List.length s.items:Int)then (idx b a).bind fun c=>((fun y0=>l5 N y0 j q p) c.g).bind fun d=>(idx b a).bind fun e=>(di b a (aX.mk e.pos d)).bind fun f=>some (aK.next (f,(iw (a+1)))) else some (aK.done b))
def wv(N:Nat)(s:aR)(j:Int)(p:Int)(q:aB):Option aR:=(bK (Am N s j p q) N (s.u,0)).bind fun ss=>match ss with
  |a=>(bK (zw N s j p q) N (s.items,0)).bind fun ss=>match ss with
    |b=>some (aR.mk s.n s.known s.steps a s.status s.value b s.stack)
def Bf(N:Nat)(s:aR)(p:Int):((List (List aB))×Int)->Option (aK ((List (List aB))×Int) (List (List aB)))
 |(b,a)=>(if(a:Int)<(List.length s.u:Int)then (idx b a).bind fun c=>((fun y0=>l7 N y0 p) c).bind fun d=>(idx b a).bind fun f=>(di b a d).bind fun e=>some (aK.next (e,(iw (a+1)))) else some (aK.done b))
def zO(N:Nat)(s:aR)(p:Int):((List aX)×Int)->Option (aK ((List aX)×Int) (List aX))
 |(b,a)=>(if(a:Int)<(List.length s.items:Int)then (idx b a).bind fun c=>((fun y0=>l7 N y0 p) c.g).bind fun d=>(idx b a).bind fun e=>(di b a (aX.mk e.pos d)).bind fun f=>some (aK.next (f,(iw (a+1)))) else some (aK.done b))
def xM(N:Nat)(s:aR)(p:Int):Option aR:=(bK (Bf N s p) N (s.u,0)).bind fun ss=>match ss with
  |a=>(bK (zO N s p) N (s.items,0)).bind fun ss=>match ss with
    |b=>some (aR.mk s.n s.known s.steps a s.status s.value b s.stack)
def y7(N:Nat)(b:aX):(Int×Int)->Option (aK (Int×Int) Int)
 |(c,a)=>(if(a:Int)<(List.length b.g:Int)then (((((((idx b.g a).bind fun d=>(gx N d).bind fun e=>(if(e:Int)≠0 then (if(c:Int)<0 then some true else (idx b.g a).bind fun f=>((fun y0=>p8 N y0) f).bind fun i=>(idx b.g c).bind fun j=>((fun y0=>p8 N y0) j).bind fun k=>(iE N i k).bind fun l=>some (decide ((l:Int)<0))) else some false)):Option Bool)).bind fun ss=>match ss with
    |m=>(if m=true then some a else some c)):Option Int)).bind fun ss=>match ss with
    |n=>some (aK.next (n,(iw (a+1)))) else some (aK.done c))
def Ad(N:Nat)(s:aR)(i:Int)(d:aX)(e:Int):((List bB)×(List Step)×(List (List aB))×(List Int)×(List aB)×(List aX)×(List dI)×Bool×Int)->Option (aK ((List bB)×(List Step)×(List (List aB))×(List Int)×(List aB)×(List aX)×(List dI)×Bool×Int) ((List bB)×(List Step)×(List (List aB))×(List Int)×(List aB)×(List aX)×(List dI)×Bool))
 |(f,j,k,l,m,c,o,p,b)=>(if(b:Int)<(List.length d.g:Int)then (((((((if(b:Int)≠e then (idx c i).bind fun v=>(idx v.g b).bind fun y=>(gx N y).bind fun a0=>some (decide ((a0:Int)≠0)) else some false)):Option Bool)).bind fun ss=>match ss with
    |a1=>(if a1=true then (idx d.g b).bind fun a2=>(idx d.g e).bind fun a3=>(kA N a2 a3).bind fun a4=>(wv N (aR.mk s.n f j k l m c o) b e a4.1).bind fun a=>some (a.known,a.steps,a.u,a.status,a.value,a.items,a.stack,false) else some (f,j,k,l,m,c,o,p))):Option ((List bB)×(List Step)×(List (List aB))×(List Int)×(List aB)×(List aX)×(List dI)×Bool))).bind fun ss=>match ss with
    |(a5,a6,a7,a8,a9,aa,ab,ac)=>some (aK.next (a5,a6,a7,a8,a9,aa,ab,ac,(iw (b+1)))) else some (aK.done (f,j,k,l,m,c,o,p)))
def yQ(N:Nat)(s:aR)(i:Int):((List bB)×(List Step)×(List (List aB))×(List Int)×(List aB)×(List aX)×(List dI))->Option (aK ((List bB)×(List Step)×(List (List aB))×(List Int)×(List aB)×(List aX)×(List dI)) (Int×aR))
 |(p,v,y,a0,a1,o,a2)=>(idx o i).bind fun c=>(bK (y7 N c) N ((-1),0)).bind fun ss=>match ss with
   |b=>(bK (Ad N s i c b) N (p,v,y,a0,a1,o,a2,true,0)).bind fun ss=>match ss with
     |(d,e,f,j,k,l,m,a3)=>(if a3=true then (idx c.g b).bind fun a4=>(gx N a4).bind fun a5=>((((if(a5:Int)<0 then (xM N (aR.mk s.n d e f j k l m) b).bind fun a=>some (a.known,a.steps,a.u,a.status,a.value,a.items,a.stack) else some (d,e,f,j,k,l,m))):Option ((List bB)×(List Step)×(List (List aB))×(List Int)×(List aB)×(List aX)×(List dI)))).bind fun ss=>match ss with
        |(a6,a7,a8,a9,aa,ab,ac)=>some (aK.done (b,(aR.mk s.n a6 a7 a8 a9 aa ab ac))) else some (aK.next (d,e,f,j,k,l,m)))
def vZ(N:Nat)(s:aR)(i:Int):Option (Int×aR):=(bK (yQ N s i) N (s.known,s.steps,s.u,s.status,s.value,s.items,s.stack)).bind fun ss=>match ss with
  |z=>some z
def CG(N:Nat)(s:aR)(i:Int)(j:Int)(r1:(Int×aR))(x2:aX)(x3:aX):((List bB)×(List Step)×(List (List aB))×(List Int)×(List aB)×(List aX)×(List dI)×Int)->Option (aK ((List bB)×(List Step)×(List (List aB))×(List Int)×(List aB)×(List aX)×(List dI)×Int) (Sum ((List bB)×(List Step)×(List (List aB))×(List Int)×(List aB)×(List aX)×(List dI)) (Bool×aR)))
 |(d,e,f,k,l,m,o,c)=>(if(c:Int)<(List.length r1.2.items:Int)then ((((idx r1.2.items c).bind fun p=>((((if(c:Int)=i then some true else some (decide ((c:Int)=j)))):Option Bool)).bind fun ss=>match ss with
    |a0=>(if a0=true then some (Sum.inl (d,e,f,k,l,m,o)) else (idx p.g r1.1).bind fun v=>(gx N v).bind fun a1=>(if(a1:Int)=0 then (kO N (aR.mk s.n d e f k l m o) p).bind fun b=>some (Sum.inl (b.known,b.steps,b.u,b.status,b.value,b.items,b.stack)) else (ns N p.g).bind fun y=>(idx y r1.1).bind fun ae=>(di y r1.1 (aB.mk false ([]:(List Int)))).bind fun a2=>(gx N v).bind fun a3=>((((if(a3:Int)<0 then (ji N v).bind fun a4=>some (dQ.mk x2.pos a4) else some (dQ.mk x3.pos v))):Option dQ)).bind fun ss=>match ss with
        |a5=>(fL N 1).bind fun a6=>(mW N (aR.mk s.n d e f k l m o) a2 [(dQ.mk p.pos a6),a5]).bind fun a=>(if(!a.1)=true then some (Sum.inr (false,(aR.mk s.n a.2.known a.2.steps a.2.u a.2.status a.2.value a.2.items a.2.stack))) else some (Sum.inl (a.2.known,a.2.steps,a.2.u,a.2.status,a.2.value,a.2.items,a.2.stack)))))):Option (Sum ((List bB)×(List Step)×(List (List aB))×(List Int)×(List aB)×(List aX)×(List dI)) (Bool×aR)))).bind fun ss=>match ss with
    |(Sum.inl (a7,a8,a9,aa,ab,ac,ad))=>some (aK.next (a7,a8,a9,aa,ab,ac,ad,(iw (c+1))))
    |(Sum.inr z)=>some (aK.done (Sum.inr z)) else some (aK.done (Sum.inl (d,e,f,k,l,m,o))))
def rU(N:Nat)(s:aR)(i:Int)(j:Int):Option (Bool×aR):=(vZ N s i).bind fun r1=>(idx r1.2.items i).bind fun x2=>(idx r1.2.items j).bind fun x3=>(lT N (aR.mk s.n r1.2.known r1.2.steps r1.2.u r1.2.status r1.2.value r1.2.items r1.2.stack) x2).bind fun r4=>(idx r1.2.status r1.1).bind fun x5=>(di r1.2.status r1.1 1).bind fun x6=>(idx r1.2.value r1.1).bind fun x7=>(di r1.2.value r1.1 r4).bind fun x8=>(bK (CG N s i j r1 x2 x3) N (r1.2.known,r1.2.steps,r1.2.u,x6,x8,([]:(List aX)),r1.2.stack,0)).bind fun ss=>match ss with
  |(Sum.inl (a,b,c,d,e,f,g))=>some (true,(aR.mk s.n a b c d e f g))
  |(Sum.inr z)=>some z
def D5(N:Nat)(s:aR)(y:(List aB))(a:Int):((List aB)×Int)->Option (aK ((List aB)×Int) (List aB))
 |(b,c)=>(if(c:Int)<(List.length y:Int)then (idx b a).bind fun d=>(idx s.u a).bind fun e=>(idx e c).bind fun f=>(idx y c).bind fun g=>(j1 N f g).bind fun i=>(iW N d i).bind fun j=>(idx b a).bind fun l=>(di b a j).bind fun k=>some (aK.next (k,(iw (c+1)))) else some (aK.done b))
def AB(N:Nat)(s:aR)(y:(List aB))(x1:(List aB)):((List aB)×Int)->Option (aK ((List aB)×Int) (List aB))
 |(b,a)=>(if(a:Int)<(List.length x1:Int)then (bK (D5 N s y a) N (b,0)).bind fun ss=>match ss with
    |c=>some (aK.next (c,(iw (a+1)))) else some (aK.done b))
def qG(N:Nat)(s:aR)(y:(List aB)):Option (List aB):=(fX (α:=aB) 32 (aB.mk false ([]:(List Int))) s.n).bind fun x1=>(bK (AB N s y x1) N (x1,0)).bind fun ss=>match ss with
  |a=>some a
open Go Go.X
structure AQ where
 c:List Int
 b:Int
structure AI where
 pos:Nat
 g:List Int
structure AU where
 ix:Nat
 n:Int
structure AS where
 cE:List AU
 d:Int
structure AE where
 v:Nat
 items:List Nat
 dw:Bool
structure St where
 n:Nat
 known:List AQ
 steps:List AS
 u:List (List Int)
 status:List Int
 value:List Int
 items:List AI
 stack:List AE
def mB(l:List Int):List aB:=l.map B
def AQ.to(q:AQ):bB:=⟨mB q.c,B q.b⟩
def AI.to(x:AI):aX:=⟨x.pos,mB x.g⟩
def AU.to(u:AU):dQ:=⟨u.ix,B u.n⟩
def AS.to(s:AS):Step:=⟨s.cE.map AU.to,B s.d⟩
def AE.to(e:AE):dI:=⟨e.v,e.items.map Int.ofNat,e.dw⟩
def St.to(s:St):aR:=⟨s.n,s.known.map AQ.to,s.steps.map AS.to,s.u.map mB,s.status,mB s.value,s.items.map AI.to,s.stack.map AE.to⟩
theorem ir{x:aR}{n:Int}(h:n=x.n):aR.mk n x.known x.steps x.u x.status x.value x.items x.stack=x:=by subst h;rfl
theorem dH(l:List Int):(mB l).length=l.length:=cN ..
theorem Fa{l:List Int}{k:Nat}(h:k<(mB l).length):(mB l)[k]=B (l[k]'(by rwa[dH]at h)):=kM ..
theorem Jy{l:List Int}{k:Nat}(h:k<l.length):idx (mB l) (k:Int)=some (B l[k]):=by
 rw[dd (by rw[dH];exact h),Fa]
theorem uZ{l:List Int}{k:Nat}{v:Int}:(mB l).set k (B v)=mB (l.set k v):=by unfold mB;rw[B2]
theorem oC{n:Nat}:mB (List.replicate n 0)=List.replicate n ⟨false,[]⟩:=by unfold mB;rw[List.map_replicate,B0]
def vf(l:List Int)(j:Nat):Int:=l.getD j 0
theorem nt{l:List Int}{j:Nat}(h:j<l.length):vf l j=l[j]:=by unfold vf;rw[cy,bV h];rfl
theorem mr{l:List Int}{j:Nat}(h:l.length<=j):vf l j=0:=by unfold vf;rw[cy,fN h];rfl
theorem ej{l:List Int}{k:Nat}(h:k<l.length):idx (mB l) (k:Int)=some (B (vf l k)):=by rw[Jy h,nt h]
def vec(n:Nat)(f:Nat->Int):List Int:=(List.range n).map f
theorem fb{n:Nat}{f:Nat->Int}:(vec n f).length=n:=by simp[vec]
theorem dJ{n j:Nat}{f:Nat->Int}(h:j<n):vf (vec n f) j=f j:=by rw[nt (by rw[fb];exact h)];simp[vec]
theorem IG{n:Nat}{f g:Nat->Int}(h:∀j,j<n->f j=g j):vec n f=vec n g:=B6 fun j hj=>h j (td.1 hj)
theorem ma{a b:List Int}(hl:a.length=b.length)(h:∀j,j<a.length->vf a j=vf b j):a=b:=by
 apply pK hl;intro i h1 h2;rw[<-nt h1,<-nt h2];exact h i h1
theorem gB{l:List Int}{v:Int}(h:v∈l):∃j,j<l.length/\vf l j=v:=by
 obtain⟨j,hj,rfl⟩:=nc h;exact⟨j,hj,nt hj⟩
theorem gh{l:List Int}{j:Nat}(h:j<l.length):vf l j∈l:=by rw[nt h];exact du h
theorem jM{l:List Int}{k j:Nat}{v:Int}(h:k<l.length):vf (l.set k v) j=if k=j then v else vf l j:=by
 unfold vf;rw[cy,cy,qM];by_cases e:k=j
 . subst e;simp[h]
 . simp[e]
theorem Tm.fill{α ρ:Type}{n:Nat}(hn:n<=9223372036854775806){c0:List α}(F:Nat->α)(h0:c0.length=n){body:Nat->List α×Int->Option (aK (List α×Int) ρ)}{fin:List α->ρ}
 (step:∀k,k<n->∀c:List α,c.length=n->c[k]?=c0[k]?->Tm (fun N=>body N (c,(k:Int))) (·=.next (c.set k (F k),iw ((k:Int)+1))))
 (stop:∀c:List α,c.length=n->Tm (fun N=>body N (c,(n:Int))) (·=.done (fin c))):
 Tm (fun N=>bK (body N) N (c0,0)) (·=fin ((List.range n).map F)):=by
 refine eL n (fun k s=>s.2=(k:Int)/\s.1.length=n/\(∀j,j<k->s.1[j]?=some (F j))/\∀j,k<=j->s.1[j]?=c0[j]?) ⟨rfl,h0,fun j hj=>by omega,fun j _=>rfl⟩ ?_;rintro k hk ⟨c,i⟩ ⟨rfl,hc,h1,h2⟩;dsimp only at hc h1 h2;rcases cv k n with hlt|hge
 . refine(step k hlt c hc (h2 k (bI _))).mono fun t ht=>?_;subst ht;refine⟨hlt,ed (by omega),by rw[iP];exact hc,fun j hj=>?_,fun j hj=>?_⟩
   . show(c.set k (F k))[j]?=_;rw[qM];by_cases e:k=j
     . subst e;simp[hc,hlt]
     . rw[if_neg e];exact h1 j (by omega)
   . show(c.set k (F k))[j]?=_;rw[qM,if_neg (by omega)];exact h2 j (by omega)
 . obtain rfl:k=n:=by omega
   refine(stop c hc).mono fun t ht=>?_;subst ht;show fin c=_;congr 1;apply pG;intro j;rcases cv j k with hj|hj
   . rw[h1 j hj];simp[hj]
   . rw[fN (by omega),fN (by simp;omega)]
theorem Tm.rh{ρ:Type}{n:Nat}(hn:n<=9223372036854775806){c0:List Int}(F:Nat->Int)(h0:c0.length=n){body:Nat->List aB×Int->Option (aK (List aB×Int) ρ)}{fin:List aB->ρ}
 (step:∀k,k<n->∀c:List aB,c.length=n->idx c (k:Int)=some (B (vf c0 k))->Tm (fun N=>body N (c,(k:Int))) (·=.next (c.set k (B (F k)),iw ((k:Int)+1))))
 (stop:∀c:List aB,c.length=n->Tm (fun N=>body N (c,(n:Int))) (·=.done (fin c))):
 Tm (fun N=>bK (body N) N (mB c0,0)) (·=fin (mB (vec n F))):=by
 have:=Tm.fill hn (c0:=mB c0) (fun j=>B (F j)) (by rw[dH,h0]) (body:=body) (fin:=fin) (fun k hk c hc h=>step k hk c hc (by rw[C1,h,<-C1];exact ej (by omega))) stop;refine this.mono fun r hr=>?_;rw[hr];unfold mB vec;rw[mi];rfl
def dc:List Int->Nat
 |[]=>0
 |x::l=>Int.gcd x (dc l)
theorem rH:∀{l:List Int} {x:Int},x∈l->((dc l:Nat):Int)∣x
 |y::l,x,h=>by
  rcases dZ.1 h with rfl|h
  . exact Int.gcd_dvd_left ..
  . exact Int.dvd_trans (Int.gcd_dvd_right ..) (rH h)
theorem oR:∀{l:List Int} {d:Int},(∀x∈l,d∣x)->d∣((dc l:Nat):Int)
 |[],d,_=>by simp[dc]
 |y::l,d,h=>by
  have h1:=h y cK;have h2:=oR (l:=l) fun x hx=>h x (cH _ hx);exact Int.dvd_coe_gcd h1 h2
theorem KD{l:List Int}(h:dc l=0):∀x∈l,x=0:=fun x hx=>by
 have:=rH hx;rw[h]at this;exact Int.zero_dvd.1 this
theorem TS{a:Int}{b:Nat}{K:Nat}(h:dl a<=K)(h':dl b<=K):dl (Int.gcd a b:Nat)<=K:=by
 rcases tk a 0 with h1|h1|h1
 . exact bO (sJ (by have:=Nat.le_of_dvd (by omega) (Nat.gcd_dvd_left a.natAbs b);show((Int.gcd a b:Nat):Int).natAbs<=_;rw[MT];exact this)) h
 . subst h1;rw[Int.zero_gcd];exact h'
 . exact bO (sJ (by have:=Nat.le_of_dvd (by omega) (Nat.gcd_dvd_left a.natAbs b);show((Int.gcd a b:Nat):Int).natAbs<=_;rw[MT];exact this)) h
theorem uS:∀{l:List Int} {K:Nat},(∀v∈l,dl v<=K)->dl (dc l:Nat)<=K
 |[],K,_=>by show dl 0<=K;rw[ie];omega
 |x::l,K,h=>TS (h x cK) (uS fun v hv=>h v (cH _ hv))
theorem LV{l:List Int}{k:Nat}(h:k<l.length):Int.gcd (dc (l.take k):Nat) l[k]=dc (l.take (k+1)):=by
 have key:∀(a:List Int) (x:Int),dc (a++[x])=Int.gcd (dc a:Nat) x:=by
  intro a x
  induction a with
  |nil=>show Int.gcd x (0:Nat)=Int.gcd (0:Nat) x;rw[Int.gcd_comm]
  |cons y a ih=>
   show Int.gcd y (dc (a++[x]):Nat)=Int.gcd (Int.gcd y (dc a:Nat):Nat) x;rw[ih,Int.gcd_assoc]
 rw[<-jW h,key]
theorem Pe{l:List Int}{K:Nat}(hK:K<=cX)(hl:l.length<=9223372036854775806)(h:∀v∈l,dl v<=K):Tm (fun N=>xQ N (mB l)) (·=B (dc l:Nat)):=by
 unfold xQ;refine aU (a:=((B (dc l:Nat)).bF,(B (dc l:Nat)).aP)) (eL l.length (fun k s=>s.2.2=(k:Int)/\s.1=(B (dc (l.take k):Nat)).bF/\s.2.1=(B (dc (l.take k):Nat)).aP) ⟨rfl,by show false=(B 0).bF;rw[B0],by show[]=(B 0).aP;rw[B0]⟩ ?_) (aM rfl);rintro k hk ⟨a,b,i⟩ ⟨rfl,rfl,rfl⟩;dsimp only[Da];rw[dH];refine aY (fun hlt=>?_) (fun hge=>aM ?_)
 . have hlt:k<l.length:=by omega
   refine aN (Jy hlt) (aU (tmGcd (a:=(dc (l.take k):Nat)) (b:=l[k]) (bO (uS fun v hv=>h v (qQ hv)) hK) (bO (h _ (du hlt)) hK)) (aM ⟨hlt,ed (by omega),?_,?_⟩))
   . dsimp only;rw[LV]
   . dsimp only;rw[LV]
 . show _=_;rw[fh (by omega)]
theorem rz{l:List Int}{K:Nat}(hK:K<=cX)(hl:l.length<=1073741824)(h:∀v∈l,dl v<=K):Tm (fun N=>mn N (mB l)) (·=mB (vec l.length fun j=>-vf l j)):=by
 unfold mn;refine aN (ia (n:=l.length) (by rw[dH]) (by omega) (by decide)) ?_;rw[show(aB.mk false ([]:List Int))=B 0 from B0.symm,show List.replicate l.length (B 0)=mB (List.replicate l.length 0) by rw[oC,B0]];refine aU (Tm.rh (n:=l.length) (by omega) (fun j=>-vf l j) (by simp) (fin:=id) ?_ ?_) (aM rfl)
 . intro k hk c hc hi;dsimp only[Bn];refine cT (by rw[dH];omega) (aN (ej hk) (aU (nF (bO (h _ (gh hk)) hK)) (aN hi (aN (eh rfl (by omega)) (aM rfl)))))
 . intro c hc;dsimp only[Bn];exact cz (by rw[dH];omega) (aM rfl)
def bT(l:List Int):List Int:=vec l.length fun j=>-vf l j
theorem iS(l:List Int):(bT l).length=l.length:=fb
theorem ig{l:List Int}{j:Nat}:vf (bT l) j=-vf l j:=by
 rcases cv j l.length with h|h
 . exact dJ h
 . rw[mr (by rw[iS];exact h),mr h];rfl
theorem Fh{l:List Int}{v:Int}(h:v∈bT l):-v∈l:=by
 obtain⟨j,hj,rfl⟩:=gB h;rw[ig,Int.neg_neg];exact gh (by rwa[iS]at hj)
theorem Cd(l:List Int):bT (bT l)=l:=ma (by rw[iS,iS]) fun j _=>by rw[ig,ig,Int.neg_neg]
def aI(kn:List AQ)(i:Nat):AQ:=kn.getD i ⟨[],0⟩
theorem uM{kn:List AQ}{i:Nat}(h:i<kn.length):aI kn i=kn[i]:=by unfold aI;rw[cy,bV h];rfl
theorem iz{kn e:List AQ}{i:Nat}(h:i<kn.length):aI (kn++e) i=aI kn i:=by
 unfold aI;rw[cy,cy,jS h]
theorem pt{kn:List AQ}{q:AQ}:aI (kn++[q]) kn.length=q:=by
 unfold aI;rw[cy];simp
theorem eK{kn:List AQ}{i:Nat}(h:i<kn.length):aI kn i∈kn:=by rw[uM h];exact du h
theorem nW{kn:List AQ}{i:Nat}(h:i<kn.length):idx (kn.map AQ.to) (i:Int)=some (aI kn i).to:=by
 rw[dd (by simpa using h),kM,uM h]
theorem rE{s:St}{x:AI}(h:x.pos<s.known.length):Tm (fun N=>lT N s.to x.to) (·=B (aI s.known x.pos).b):=by
 unfold lT;exact aN (nW h) (aM rfl)
theorem Mg{s:St}{x:AI}(h:x.pos<s.known.length):Tm (fun N=>xg N s.to x.to) (·=B (aI s.known x.pos).b):=rE h
def dX(kn:List AQ):List AU->Nat->Int
 |[],_=>0
 |u::us,j=>u.n*vf (aI kn u.ix).c j+dX kn us j
def fW(kn:List AQ):List AU->Int
 |[]=>0
 |u::us=>u.n*(aI kn u.ix).b+fW kn us
theorem Kp{kn:List AQ}{u:AU}{j:Nat}:∀{us:List AU},dX kn (us++[u]) j=dX kn us j+u.n*vf (aI kn u.ix).c j
 |[]=>by show u.n*vf (aI kn u.ix).c j+0=0+_;omega
 |v::us=>by show _+dX kn (us++[u]) j=_+_+_;rw[Kp];omega
theorem I2{kn:List AQ}{u:AU}:∀{us:List AU},fW kn (us++[u])=fW kn us+u.n*(aI kn u.ix).b
 |[]=>by show u.n*(aI kn u.ix).b+0=0+_;omega
 |v::us=>by show _+fW kn (us++[u])=_+_+_;rw[I2];omega
def fA(K:Nat)(q:AQ):Prop:=(∀v∈q.c,dl v<=K)/\dl q.b<=K
theorem fA.vf{K:Nat}{q:AQ}(h:fA K q)(j:Nat):dl (vf q.c j)<=K:=by
 rcases cv j q.c.length with hj|hj
 . exact h.1 _ (gh hj)
 . rw[mr hj,ie];omega
theorem fA.mono{K K':Nat}{q:AQ}(h:fA K q)(hK:K<=K'):fA K' q:=⟨fun v hv=>bO (h.1 v hv) hK,bO h.2 hK⟩
def lL(n K:Nat)(kn:List AQ)(u:AU):Prop:=u.ix<kn.length/\0<=u.n/\dl u.n<=4/\fA K (aI kn u.ix)/\(aI kn u.ix).c.length=n
theorem ze{n K:Nat}{kn:List AQ}{j:Nat}:∀{us:List AU},(∀u∈us,lL n K kn u)->dl (dX kn us j)<=K+4+us.length
 |[],_=>by show dl 0<=_;rw[ie];omega
 |u::us,h=>by
  have h1:=h u cK;have h2:=ze (j:=j) (us:=us) fun v hv=>h v (cH _ hv);have h3:=kh u.n (vf (aI kn u.ix).c j);have h4:=h1.2.2.2.1.vf j;have h5:=h1.2.2.1;have:=oO (K:=K+4+us.length) (a:=u.n*vf (aI kn u.ix).c j) (b:=dX kn us j) (by omega) h2;show dl (_+_)<=_;rw[cA];omega
theorem Al{n K:Nat}{kn:List AQ}:∀{us:List AU},(∀u∈us,lL n K kn u)->dl (fW kn us)<=K+4+us.length
 |[],_=>by show dl 0<=_;rw[ie];omega
 |u::us,h=>by
  have h1:=h u cK;have h2:=Al (us:=us) fun v hv=>h v (cH _ hv);have h3:=kh u.n (aI kn u.ix).b;have h4:=h1.2.2.2.1.2;have h5:=h1.2.2.1;have:=oO (K:=K+4+us.length) (a:=u.n*(aI kn u.ix).b) (b:=fW kn us) (by omega) h2;show dl (_+_)<=_;rw[cA];omega
def mM(n:Nat)(kn:List AQ)(us:List AU)(d:Int):AQ:=⟨vec n fun j=>dX kn us j/d,fW kn us/d⟩
theorem tmSum{s:St}{K:Nat}(hK:K<=1099511627000){us:List AU}{d:Int}(hn:s.n<=512)(hu:∀u∈us,lL s.n K s.known u)(hul:us.length<=2)(hd:0<d)(hdl:dl d<=cX):
 Tm (fun N=>qp N s.to (us.map AU.to) (B d)) (·=(mM s.n s.known us d).to):=by
 have hL:cX=1099511627776:=rfl;unfold qp;refine aN (ia (n:=s.n) rfl (by omega) (by decide)) ?_;rw[<-oC];refine aU (a:=(mB (vec s.n fun j=>dX s.known us j),B (fW s.known us))) (eL us.length (fun k t=>t.2.2=(k:Int)/\t.1=mB (vec s.n fun j=>dX s.known (us.take k) j)/\t.2.1=B (fW s.known (us.take k))) ⟨rfl,?_,B0.symm⟩ ?_) ?_
 . show mB (List.replicate s.n 0)=mB (vec s.n fun j=>0);congr 1;apply pK (by simp[vec]);intro i h1 h2;simp[vec]
 . rintro k hk ⟨c,b,i⟩ ⟨rfl,rfl,rfl⟩;dsimp only[yV];rw[cN];refine aY (fun hlt=>?_) (fun hge=>aM ?_)
   . have hlt:k<us.length:=by omega
     have hux:=hu _ (du hlt);have htk:∀u∈us.take k,lL s.n K s.known u:=fun u hu'=>hu u (qQ hu');have htl:(us.take k).length<=2:=by rw[eR];omega
     refine aN (dd (by simpa using hlt)) ?_;rw[kM];generalize hue:us[k]=u at*;refine aN (nW hux.1) ?_;have hm:∀j,dl (u.n*vf (aI s.known u.ix).c j)<=K+4:=fun j=>by
      have:=kh u.n (vf (aI s.known u.ix).c j);have:=hux.2.2.2.1.vf j;have:=hux.2.2.1;omega
     have hmb:dl (u.n*(aI s.known u.ix).b)<=K+4:=by
      have:=kh u.n (aI s.known u.ix).b;have:=hux.2.2.2.1.2;have:=hux.2.2.1;omega
     have hun:=hux.2.2.1;refine aU (a:=mB (vec s.n fun j=>dX s.known (us.take (k+1)) j)) ?_ ?_
     . refine(Tm.rh (n:=s.n) (by omega) (fun j=>dX s.known (us.take (k+1)) j) fb (fin:=id) ?_ ?_)
       . intro j hj c hc hi;dsimp only[wc];have h1:=ze (j:=j) htk;have h2:=hux.2.2.2.1.vf j;have h3:=hm j;refine cT (by rw[dH,fb];omega) (aN hi (aN (ej (by rw[hux.2.2.2.2];exact hj)) (aU (nT (by omega) (by omega)) (aU (mT (by rw[dJ hj];omega) (by omega)) (aN hi (aN (eh rfl (by omega)) (aM ?_)))))));rw[dJ hj,<-jW hlt,Kp,hue]
       . intro c hc;dsimp only[wc];exact cz (by rw[dH,fb];omega) (aM rfl)
     . have h1:=Al htk;have h2:=hux.2.2.2.1.2;refine aU (nT (a:=u.n) (b:=(aI s.known u.ix).b) (by omega) (by omega)) (aU (mT (by omega) (by omega)) (aM ⟨hlt,ed (by omega),rfl,?_⟩));show B _=B _;rw[<-jW hlt,I2,hue]
   . show _=_;rw[fh (by omega)]
 . dsimp only;have h0:∀j,dl (dX s.known us j)<=K+6:=fun j=>by have:=ze (j:=j) hu;omega
   have hb:dl (fW s.known us)<=K+6:=by have:=Al hu;omega
   refine aU (a:=mB (vec s.n fun j=>dX s.known us j/d)) ?_ ?_
   . refine(Tm.rh (n:=s.n) (by omega) (fun j=>dX s.known us j/d) fb (fin:=id) ?_ ?_)
     . intro j hj c hc hi;dsimp only[wB];have h1:=h0 j;refine cT (by rw[dH,fb];omega) (aN hi (Tm.bind (qz (by rw[dJ hj];omega) hdl) ?_));intro r hr;refine aN hi (aN (eh rfl (by omega)) (aM ?_));rw[hr,dJ hj,jo _ (eb hd)]
     . intro c hc;dsimp only[wB];exact cz (by rw[dH,fb];omega) (aM rfl)
   . refine Tm.bind (qz (by omega) hdl) ?_;intro r hr;refine aM ?_;rw[hr,jo _ (eb hd)];rfl
open Go Go.X
structure gu (K:Nat)(s:St):Prop where
 n:s.n<=512
 kl:s.known.length<=1073741824
 sl:s.steps.length<=1073741824
 il:s.items.length<=1073741824
 k:∀q∈s.known,fA K q/\q.c.length=s.n
 i:∀x∈s.items,x.pos<s.known.length/\x.g.length=s.n/\∀v∈x.g,dl v<=8
 K:K<=1099511627000
def dv(g:List Int):Int:=if dc g=0 then 1 else(dc g:Nat)
theorem qh(g:List Int):0<dv g:=by unfold dv;split<;>omega
def many(g:List Int)(us:List AU):Bool:=decide (1<us.length)||(decide ((us.headD ⟨0,0⟩).n≠1)||decide (dv g≠1))
def iF(s:St)(g:List Int)(us:List AU):Nat:=if many g us then s.known.length else(us.headD ⟨0,0⟩).ix
def dst(s:St)(g:List Int)(us:List AU):St:=if many g us then{s with steps:=s.steps++[⟨us,dv g⟩],known:=s.known++[mM s.n s.known us (dv g)]}else s
def kP(s:St)(g:List Int)(us:List AU):AI:=⟨iF s g us,vec s.n fun j=>vf g j/dv g⟩
def mH(s:St)(g:List Int)(us:List AU):Bool:=decide (dc g≠0)||decide (0<=(aI (dst s g us).known (iF s g us)).b)
def ee(kn:List AQ)(x:AI):List AI->List AI
 |[]=>[x]
 |y::r=>if x.g=y.g then(if(aI kn x.pos).b<(aI kn y.pos).b then x::r else y::r)else y::ee kn x r
def add(s:St)(x:AI):St:={s with items:=ee s.known x s.items}
def put(s:St)(g:List Int)(us:List AU):Bool×St:=(mH s g us,if dc g≠0 then add (dst s g us) (kP s g us)else dst s g us)
structure gz (K:Nat)(s:St)(g:List Int)(us:List AU):Prop where
 gl:g.length=s.n
 g:∀v∈g,dl v<=8
 ul:us.length<=2
 u0:us≠[]
 u:∀u∈us,lL s.n K s.known u
theorem yE{K:Nat}{s:St}{g:List Int}{us:List AU}(h:gz K s g us):iF s g us<(dst s g us).known.length:=by
 unfold iF dst;split
 . simp
 . cases us with
   |nil=>exact absurd rfl h.u0
   |cons u r=>exact(h.u u cK).1
theorem Hx(s:St)(g:List Int)(us:List AU):∃e,(dst s g us).known=s.known++e/\e.length<=1:=by
 unfold dst;split
 . exact⟨_,rfl,by simp⟩
 . exact⟨[],by simp,by simp⟩
theorem ER(s:St)(g:List Int)(us:List AU):(dst s g us).n=s.n:=by unfold dst;split<;>rfl
theorem JZ(s:St)(g:List Int)(us:List AU):(dst s g us).items=s.items:=by unfold dst;split<;>rfl
theorem O0{g:List Int}{n K:Nat}{d:Int}(hd:0<=d)(h:∀v∈g,dl v<=K):∀v∈vec n (fun j=>vf g j/d),dl v<=K:=by
 intro v hv;obtain⟨j,hj,rfl⟩:=gB hv;rw[fb]at hj;rw[dJ hj];refine bO (CY hd) ?_;rcases cv j g.length with h1|h1
 . exact h _ (gh h1)
 . rw[mr h1,ie];omega
theorem Dd{K:Nat}{s:St}{g:List Int}{us:List AU}(h:gz K s g us):fA (K+6) (mM s.n s.known us (dv g))/\(mM s.n s.known us (dv g)).c.length=s.n:=by
 have hd:=eb (qh g);refine⟨⟨fun v hv=>?_,?_⟩,fb⟩
 . obtain⟨j,hj,rfl⟩:=gB hv;have hj:j<s.n:=by rwa[show(mM s.n s.known us (dv g)).c=vec s.n _ from rfl,fb]at hj
   show dl (vf (vec s.n _) j)<=_;rw[dJ hj];have:=ze (j:=j) h.u;have:=h.ul;have:=CY (a:=dX s.known us j) hd;omega
 . have:=Al h.u;have:=h.ul;have:=CY (a:=fW s.known us) hd;show dl (fW s.known us/dv g)<=_;omega
theorem N4{K K':Nat}{s:St}{g:List Int}{us:List AU}(hs:gu K s)(h:gz K' s g us)(hk:K'<=K):Tm (fun N=>rL N s.to (mB g) (us.map AU.to)) (·=((kP s g us).to,decide (dc g≠0),mH s g us,(dst s g us).to)):=by
  have hL:cX=1099511627776:=rfl;have hK:=hs.K;have hkl:=hs.kl;have hsl:=hs.sl;have hn:=hs.n;have hgd:dl (dc g:Nat)<=8:=uS h.g
  have hdd : dl (dv g) <= 8 := by unfold dv; split; · exact bO jA (by decide)
                                  . exact hgd
  have hgl:=h.gl;have hul:=h.ul;obtain⟨u,r,rfl⟩:∃u r,us=u::r:=by
    cases us with
    |nil=>exact absurd rfl h.u0
    |cons u r=>exact⟨u,r,rfl⟩
  have hu0:=h.u u cK;unfold rL;refine aU (Pe (K:=8) (by omega) (by omega) h.g) (aU (jm (by omega)) ?_);have hsg:bM (dc g:Nat) 0≠0↔dc g≠0:=by unfold bM;(repeat' split)<;>omega
  refine aU (a:=B (dv g)) (aY (fun h0=>?_) (fun h0=>aM ?_)) ?_
  . refine aU (jP (by decide) (by decide)) (aM ?_);unfold dv;rw[if_pos (tj.1 fun e=>h0 (hsg.2 e))]
  . unfold dv;rw[if_neg (hsg.1 (tj.1 h0))]
  refine aU (jP (by decide) (by decide)) ?_;refine aU (a:=many g (u::r)) (aY (fun h0=>aM ?_) (fun h0=>?_)) ?_
  . rw[cN]at h0;unfold many;rw[decide_eq_true (by omega)];rfl
  . rw[cN]at h0;refine aN (a:=u.to) rfl (aU (j2 (a:=u.n) (b:=1) (by have:=hu0.2.2.1;omega) (bO jA (by decide))) (aY (fun h1=>aM ?_) (fun h1=>aU (j2 (by omega) (bO jA (by decide))) (aM ?_))))
    . have:u.n≠1:=by rintro e;rw[e]at h1;exact h1 (by decide)
      unfold many;simp[this]
    . have:u.n=1:=by unfold bM at h1;(repeat' split at h1)<;>omega
      have e2:bM (dv g) 1≠0↔dv g≠1:=by unfold bM;(repeat' split)<;>omega
      unfold many;have hr:¬1<(u::r).length:=by omega
      have h3:(((u::r).headD ⟨0,0⟩).n≠1)=False:=by simp[this]
      rw[decide_eq_false hr];simp[this,e2]
  have hmk : ∀ c : Bool, many g (u :: r) = c -> Tm (fun N => ((if c = true then
            (cP 56 s.to.steps [(Step.mk ((u::r).map AU.to) (B (dv g)))]).bind fun x37=>
            (qp N (aR.mk s.to.n s.to.known x37 s.to.u s.to.status s.to.value s.to.items s.to.stack) ((u::r).map AU.to) (B (dv g))).bind fun r38=>
            (cP 56 s.to.known [r38]).bind fun x39=>
            some (x39,x37,[(dQ.mk (iw ((List.length x39:Int)-1)) (B 1))])
          else
            some (s.to.known,s.to.steps,(u::r).map AU.to))):Nat->Option ((List bB)×(List Step)×(List dQ)))
      (fun t=>t.1=(dst s g (u::r)).to.known/\t.2.1=(dst s g (u::r)).to.steps/\∃x,idx t.2.2 0=some x/\x.Index=((iF s g (u::r):Nat):Int)):=by
    intro c hc;cases c with
    |true=>
      refine cT rfl ?_;refine aN (dO (by show((s.steps.map AS.to).length+_)*_<=_;simp only[cN,cA,dP];omega) (by decide)) ?_;have e:(aR.mk s.to.n s.to.known (s.to.steps++[Step.mk ((u::r).map AU.to) (B (dv g))]) s.to.u s.to.status s.to.value s.to.items s.to.stack)=St.to {s with steps:=s.steps++[⟨u::r,dv g⟩]}:=by
        unfold St.to;simp[AS.to]
      rw[e];refine aU (a:=(mM s.n s.known (u::r) (dv g)).to) (tmSum (s:={s with steps:=s.steps++[⟨u::r,dv g⟩]}) (K:=K') (by omega) hn h.u (by omega) (qh g) (by omega)) ?_;refine aN (dO (by show((s.known.map AQ.to).length+_)*_<=_;simp only[cN,cA,dP];omega) (by decide)) (aM ?_);unfold dst iF;rw[hc];refine⟨by simp[St.to],by simp[St.to,AS.to],_,rfl,?_⟩;dsimp only;rw[bJ]<;>simp[St.to]<;>omega
    |false=>
      refine cz (by simp) (aM ?_);unfold dst iF;rw[hc];exact⟨rfl,rfl,u.to,rfl,rfl⟩
  refine Tm.bind (hmk _ rfl) ?_;rintro⟨kn,st,us'⟩ ⟨h1,h2,x,hx,hxi⟩;dsimp only at h1 h2 hx;subst h1;subst h2;refine aN hx ?_;refine aN (ia (n:=s.n) rfl (by omega) (by decide)) ?_;rw[<-oC];refine aU (a:=mB (vec s.n fun j=>vf g j/dv g)) ?_ ?_
  . refine(Tm.rh (n:=s.n) (by omega) (fun j=>vf g j/dv g) (by simp) (fin:=id) ?_ ?_)
    . intro j hj c hc hi;dsimp only[wm];refine cT (by rw[dH];omega) (aN (ej (by omega)) (Tm.bind (qz (by have:=h.g _ (gh (l:=g) (j:=j) (by omega));omega) (by omega)) ?_));intro r' hr';refine aN hi (aN (eh rfl (by omega)) (aM ?_));rw[hr',jo _ (eb (qh g))]
    . intro c hc;dsimp only[wm];exact cz (by rw[dH];omega) (aM rfl)
  have hS:aR.mk s.to.n (dst s g (u::r)).to.known (dst s g (u::r)).to.steps s.to.u s.to.status s.to.value s.to.items s.to.stack=(dst s g (u::r)).to:=by
    unfold dst;split<;>rfl
  have hI:(aX.mk x.Index (mB (vec s.n fun j=>vf g j/dv g)))=(kP s g (u::r)).to:=by rw[hxi];rfl
  dsimp only;rw[hS,hI];have hps:=yE h;have hbd:dl (aI (dst s g (u::r)).known (iF s g (u::r))).b<=K+6:=by
    have hm:=eK hps;unfold dst at hm⊢;split at hm
    . rcases fE.1 hm with h3|h3
      . rename_i hm';rw[if_pos hm'];exact bO (hs.k _ h3).1.2 (by omega)
      . rename_i hm';rw[if_pos hm'];rw[cL.1 h3];exact bO (Dd h).1.2 (by omega)
    . rename_i hm';rw[if_neg hm'];exact bO (hs.k _ hm).1.2 (by omega)
  refine aY (fun h0=>aM ?_) (fun h0=>?_)
  . have h0':=hsg.1 h0;unfold mH;rw[decide_eq_true h0,decide_eq_true h0'];rfl
  . have h0':¬dc g≠0:=fun e=>h0 (hsg.2 e);refine aU (rE (s:=dst s g (u::r)) (x:=kP s g (u::r)) hps) (aU (jm (by show dl (aI _ (iF s g (u::r))).b<=_;omega)) (aM ?_));unfold mH;rw[decide_eq_false h0,decide_eq_false h0',Bool.false_or];congr 3;apply decide_eq_decide.2;show bM (aI _ (iF s g (u::r))).b 0≥0↔_;unfold bM;(repeat' split)<;>omega
open Go Go.X
theorem OI{a b:List Int}(hl:a.length<=1000)(hab:a.length=b.length)(ha:∀v∈a,dl v<=cX)(hb:∀v∈b,dl v<=cX):Tm (fun N=>xo N (mB a) (mB b) (fun y0 y1=>pY N y0 y1)) (·=decide (a=b)):=by
 unfold xo;refine cz (by rw[dH,dH];omega) ?_;refine Tm.bind (Tm.each (body:=fun N=>wJ N (fun y0 y1=>pY N y0 y1) (mB b) (mB a)) ((List.range a.length)) (fun j=>vf a j=vf b j) (Q:=fun r=>(r=.inr false/\a≠b)\/(r=.inl ()/\∀j∈List.range a.length,vf a j=vf b j)) (by simp;omega) ?_ ?_) ?_
 . intro k hk _;have hk:k<a.length:=by simpa using hk
   dsimp only[wJ];refine cT (by rw[dH];omega) (aN (ej hk) (aN (ej (by omega)) ?_));unfold pY;refine aU (a:=decide (vf a k=vf b k)) (aU (j2 (ha _ (gh hk)) (hb _ (gh (by omega)))) (aM ?_)) (aY (fun h=>aM (.inr ⟨_,rfl,.inl ⟨rfl,fun e=>?_⟩⟩)) (fun h=>aM (.inl ⟨rfl,?_⟩)))
   . apply decide_eq_decide.2;unfold bM;(repeat' split)<;>omega
   . subst e;simp at h
   . simpa using h
 . intro h;dsimp only[wJ];rw[List.length_range];exact cz (by rw[dH];omega) (aM ⟨_,rfl,.inr ⟨rfl,h⟩⟩)
 . rintro _ (⟨rfl,h⟩|⟨rfl,h⟩)
   . exact aM (by simp[h])
   . exact aM (by simp;exact ma hab fun j hj=>h j (td.2 hj))
theorem DX{kn:List AQ}{x:AI}:∀{a r:List AI},(∀y∈a,x.g≠y.g)->ee kn x (a++r)=a++ee kn x r
 |[],_,_=>rfl
 |y::a,r,h=>by
  show ee kn x (y::(a++r))=y::(a++ee kn x r);rw[ee,if_neg (h y cK),DX fun z hz=>h z (cH _ hz)]
def ox(s:St)(x:AI):Prop:=x.pos<s.known.length/\x.g.length=s.n/\∀v∈x.g,dl v<=8
theorem tJ{K:Nat}{s:St}{x:AI}(hs:gu K s)(hx:ox s x):Tm (fun N=>kO N s.to x.to) (·=(add s x).to):=by
 have hL:cX=1099511627776:=rfl;have hK:=hs.K;have hil:=hs.il;unfold kO;have hmap:(s.items.map AI.to).length=s.items.length:=cN ..;refine Tm.bind (Q:=fun r=>(r=.inl ()/\(∀y∈s.items,x.g≠y.g))\/r=.inr (add s x).to) (eL s.items.length (fun k t=>t=(k:Int)/\∀y∈s.items.take k,x.g≠y.g) ⟨rfl,by simp⟩ ?_) ?_
 . rintro k hk t ⟨rfl,hp⟩;dsimp only[yF];refine aY (fun hlt=>?_) (fun hge=>aM ?_)
   . have hlt:k<s.items.length:=by rw[show s.to.items.length=s.items.length from hmap]at hlt;omega
     obtain⟨y1,y2,y3⟩:=hs.i _ (du hlt);refine aN (a:=(s.items[k]).to) (by show idx (s.items.map AI.to) _=_;rw[dd (by rw[hmap];exact hlt),kM]) ?_;generalize hy:s.items[k]=y at*;refine aU (OI (a:=x.g) (b:=y.g) (by have:=hx.2.1;have:=hs.n;omega) (hx.2.1.trans y2.symm) (fun v hv=>bO (hx.2.2 v hv) (by decide)) (fun v hv=>bO (y3 v hv) (by decide))) ?_;refine aY (fun he=>?_) (fun he=>aM ⟨hlt,ed (by omega),fun z hz=>?_⟩)
     . have he:x.g=y.g:=by simpa using he
       have hsplit:s.items=s.items.take k++y::s.items.drop (k+1):=by
        rw[<-hy,<-fx hlt,mY]
       have hadd:ee s.known x s.items=if(aI s.known x.pos).b<(aI s.known y.pos).b then s.items.set k x else s.items:=by
        conv=>lhs;rw[hsplit]
        rw[DX hp,ee,if_pos he];split
        . rw[Uu,if_pos hlt]
        . exact hsplit.symm
       refine aU (rE hx.1) (aU (rE y1) (aU (j2 (bO (hs.k _ (eK hx.1)).1.2 (by omega)) (bO (hs.k _ (eK y1)).1.2 (by omega))) ?_));refine aY (fun h1=>?_) (fun h1=>aM ?_)
       . have h1:(aI s.known x.pos).b<(aI s.known y.pos).b:=by unfold bM at h1;(repeat' split at h1)<;>omega
         refine aN (a:=y.to) (by show idx (s.items.map AI.to) _=_;rw[dd (by rw[hmap];exact hlt),kM,hy]) ?_;refine aN (eh rfl (by show _<(s.items.map AI.to).length;rw[hmap];exact hlt)) (aM (.inr ?_));unfold add;rw[hadd,if_pos h1];unfold St.to;dsimp only;rw[B2]
       . have h1:¬(aI s.known x.pos).b<(aI s.known y.pos).b:=by unfold bM at h1;(repeat' split at h1)<;>omega
         refine .inr ?_;unfold add;rw[hadd,if_neg h1]
     . rw[<-jW hlt,hy]at hz;rcases fE.1 hz with hz|hz
       . exact hp z hz
       . rw[cL.1 hz];intro e;exact he (by simp[e])
   . rw[show s.to.items.length=s.items.length from hmap]at hge;refine .inl ⟨rfl,fun y hy=>hp y ?_⟩;rwa[fh (by omega)]
 . rintro r (⟨rfl,h⟩|rfl)
   . refine aN (dO (by show((s.items.map AI.to).length+_)*_<=_;rw[hmap];simp only[cA,dP];omega) (by decide)) (aM ?_);have:ee s.known x s.items=s.items++[x]:=by
      have:=DX (kn:=s.known) (x:=x) (a:=s.items) (r:=[]) h;rw[me]at this;rw[this];rfl
     unfold add;rw[this];unfold St.to;simp
   . exact aM rfl
def jd(m:Nat)(s:St):Prop:=s.known.length+m<=1073741824/\s.steps.length+m<=1073741824/\s.items.length+m<=1073741824
theorem tY{kn:List AQ}{x:AI}:∀{l:List AI},l.length<=(ee kn x l).length/\(ee kn x l).length<=l.length+1
 |[]=>by simp[ee]
 |y::l=>by
  have:=tY (kn:=kn) (x:=x) (l:=l);rw[ee];split
  . split<;>simp
  . simp;omega
theorem lR{kn:List AQ}{x z:AI}:∀{l:List AI},z∈ee kn x l->z=x\/z∈l
 |[],h=>by simp[ee]at h;exact .inl h
 |y::l,h=>by
  rw[ee]at h;split at h
  . split at h
    . rcases dZ.1 h with h|h
      . exact .inl h
      . exact .inr (cH _ h)
    . exact .inr h
  . rcases dZ.1 h with h|h
    . exact .inr (h▸cK)
    . rcases lR h with h|h
      . exact .inl h
      . exact .inr (cH _ h)
theorem Mc{K m:Nat}{s:St}{x:AI}(hs:gu K s)(hx:ox s x)(hr:jd (m+1) s):gu K (add s x)/\jd m (add s x):=by
 have h1:=tY (kn:=s.known) (x:=x) (l:=s.items);obtain⟨r1,r2,r3⟩:=hr;refine⟨⟨hs.n,hs.kl,hs.sl,?_,hs.k,fun z hz=>?_,hs.K⟩,?_,?_,?_⟩
 . show(ee s.known x s.items).length<=_;omega
 . rcases lR hz with rfl|hz
   . exact hx
   . exact hs.i z hz
 . show s.known.length+m<=_;omega
 . show s.steps.length+m<=_;omega
 . show(ee s.known x s.items).length+m<=_;omega
theorem Jf{K K' m:Nat}{s:St}{g:List Int}{us:List AU}(hs:gu K s)(h:gz K' s g us)(hk:K'+6<=K)(hr:jd (m+1) s):gu K (dst s g us)/\jd m (dst s g us)/\(dst s g us).items.length+m+1<=1073741824:=by
 obtain⟨r1,r2,r3⟩:=hr;unfold dst;split
 . refine⟨⟨hs.n,by simp;omega,by simp;omega,hs.il,fun q hq=>?_,fun z hz=>?_,hs.K⟩,⟨by simp;omega,by simp;omega,by show s.items.length+m<=_;omega⟩,by show s.items.length+m+1<=_;omega⟩
   . rcases fE.1 hq with hq|hq
     . exact hs.k q hq
     . rw[cL.1 hq];exact⟨(Dd h).1.mono hk,(Dd h).2⟩
   . obtain⟨z1,z2⟩:=hs.i z hz;exact⟨by simp;omega,z2⟩
 . exact⟨hs,⟨by omega,by omega,by omega⟩,by omega⟩
theorem Jq{K':Nat}{s:St}{g:List Int}{us:List AU}(h:gz K' s g us):ox (dst s g us) (kP s g us):=
 ⟨yE h,by rw[ER];exact fb,O0 (eb (qh g)) h.g⟩
theorem Lk{K K' m:Nat}{s:St}{g:List Int}{us:List AU}(hs:gu K s)(h:gz K' s g us)(hk:K'+6<=K)(hr:jd (m+1) s):gu K (put s g us).2/\jd m (put s g us).2:=by
 obtain⟨h1,h2,h3⟩:=Jf hs h hk hr;unfold put;dsimp only;split
 . have:=tY (kn:=(dst s g us).known) (x:=kP s g us) (l:=(dst s g us).items);refine⟨⟨h1.n,h1.kl,h1.sl,?_,h1.k,fun z hz=>?_,h1.K⟩,h2.1,h2.2.1,?_⟩
   . show(ee _ _ _).length<=_;omega
   . rcases lR hz with rfl|hz
     . exact Jq h
     . exact h1.i z hz
   . show(ee _ _ _).length+m<=_;omega
 . exact⟨h1,h2⟩
theorem KA{K K':Nat}{s:St}{g:List Int}{us:List AU}(hs:gu K s)(h:gz K' s g us)(hk:K'+6<=K)(hr:jd 1 s):Tm (fun N=>mW N s.to (mB g) (us.map AU.to)) (·=((put s g us).1,(put s g us).2.to)):=by
 obtain⟨h1,h2,h3⟩:=Jf (m:=0) hs h hk hr;unfold mW;refine aU (N4 hs h (by omega)) ?_;dsimp only;have hn:s.to.n=(dst s g us).to.n:=by show(s.n:Int)=(dst s g us).n;rw[ER]
 have e1:∀x:aR,s.to.n=x.n->aR.mk s.to.n x.known x.steps x.u x.status x.value x.items x.stack=x:=fun x hx=>ir hx;refine Tm.bind (Q:=fun t=>aR.mk s.to.n t.1 t.2.1 t.2.2.1 t.2.2.2.1 t.2.2.2.2.1 t.2.2.2.2.2.1 t.2.2.2.2.2.2=(put s g us).2.to) (aY (fun h0=>?_) (fun h0=>aM ?_)) ?_
 . rw[e1 _ hn];refine aU (tJ h1 (Jq h)) (aM ?_);dsimp only;rw[e1 (D.add (dst s g us) (kP s g us)).to hn];unfold put;dsimp only;rw[if_pos (by simpa using h0)]
 . dsimp only;rw[e1 _ hn];unfold put;dsimp only;rw[if_neg (by simpa using h0)]
 . rintro⟨a,b,c,d,e,f,g'⟩ ht;refine aM ?_;dsimp only at ht⊢;rw[ht];rfl
inductive Act where
 |add (x:AI)
 |put (g:List Int) (us:List AU)
def bU:St->List Act->Bool×St
 |s,[]=>(true,s)
 |s,.add x::r=>bU (add s x) r
 |s,.put g us::r=>if(put s g us).1=true then bU (put s g us).2 r else(false,(put s g us).2)
def k9(K:Nat)(s:St):Act->Prop
 |.add x=>ox s x
 |.put g us=>gz K s g us
theorem lL.app{n K:Nat}{kn e:List AQ}{u:AU}(h:lL n K kn u):lL n K (kn++e) u:=by
 obtain⟨h1,h2,h3,h4,h5⟩:=h;exact⟨by simp;omega,h2,h3,by rw[iz h1];exact h4,by rw[iz h1];exact h5⟩
theorem k9.app{K:Nat}{s s':St}{a:Act}(h:k9 K s a)(hn:s'.n=s.n){e:List AQ}(he:s'.known=s.known++e):k9 K s' a:=by
 cases a with
 |add x=>exact⟨by rw[he];have:=h.1;simp;omega,by rw[hn];exact h.2.1,h.2.2⟩
 |put g us=>exact⟨by rw[hn];exact h.gl,h.g,h.ul,h.u0,fun u hu=>by rw[hn,he];exact(h.u u hu).app⟩
theorem A5(s:St)(g:List Int)(us:List AU):∃e,(put s g us).2.known=s.known++e/\e.length<=1:=by
 unfold put;dsimp only;split<;>exact Hx s g us
theorem BH(s:St)(g:List Int)(us:List AU):(put s g us).2.n=s.n:=by
 unfold put;dsimp only;split<;>exact ER s g us
structure iC (K:Nat)(s0:St)(L:List Act)(k:Nat)(s:St):Prop where
 run:bU s0 L=bU s (L.drop k)
 ok:gu K s
 room:jd (L.length-k) s
 pre:∃e,s.known=s0.known++e
 n:s.n=s0.n
theorem iC.first{K:Nat}{s0:St}{L:List Act}(h:gu K s0)(hr:jd L.length s0):iC K s0 L 0 s0:=⟨rfl,h,hr,⟨[],by simp⟩,rfl⟩
theorem iC.add{K K0:Nat}{s0 s:St}{L:List Act}{k:Nat}{x:AI}(h:iC K s0 L k s)(hk:k<L.length)(hL:L[k]=.add x)(hx:k9 K0 s0 (.add x)):ox s x/\iC K s0 L (k+1) (add s x):=by
 obtain⟨e,he⟩:=h.pre;have hx':ox s x:=hx.app h.n he;obtain⟨m,hm⟩:∃m,L.length-k=m+1:=⟨L.length-k-1,by omega⟩;have h1:=Mc (m:=m) h.ok hx' (by rw[<-hm];exact h.room);refine⟨hx',?_,h1.1,by rw[show L.length-(k+1)=m by omega];exact h1.2,⟨e,he⟩,h.n⟩;rw[h.run,fx hk,hL];rfl
theorem iC.put{K K0:Nat}{s0 s:St}{L:List Act}{k:Nat}{g:List Int}{us:List AU}(h:iC K s0 L k s)(hk:k<L.length)(hL:L[k]=.put g us)(hx:k9 K0 s0 (.put g us))(hK:K0+6<=K):
 Tm (fun N=>mW N s.to (mB g) (us.map AU.to)) (·=((put s g us).1,(put s g us).2.to))/\((put s g us).1=true->iC K s0 L (k+1) (put s g us).2)/\((put s g us).1=false->bU s0 L=(false,(put s g us).2))/\(put s g us).2.n=s0.n:=by
 obtain⟨e,he⟩:=h.pre;have hx':gz K0 s g us:=hx.app h.n he;obtain⟨m,hm⟩:∃m,L.length-k=m+1:=⟨L.length-k-1,by omega⟩;have hr:jd (m+1) s:=by rw[<-hm];exact h.room
 have hr1:jd 1 s:=⟨by have:=hr.1;omega,by have:=hr.2.1;omega,by have:=hr.2.2;omega⟩;have h1:=Lk (m:=m) h.ok hx' hK hr;obtain⟨e',he',_⟩:=A5 s g us;have hrun:bU s0 L=if(D.put s g us).1=true then bU (D.put s g us).2 (L.drop (k+1))else(false,(D.put s g us).2):=by
  rw[h.run,fx hk,hL];rfl
 refine⟨KA h.ok hx' hK hr1,fun ht=>⟨?_,h1.1,by rw[show L.length-(k+1)=m by omega];exact h1.2,⟨e++e',by rw[he',he,jb]⟩,(BH s g us).trans h.n⟩,fun hf=>?_,(BH s g us).trans h.n⟩
 . rw[hrun,if_pos ht]
 . rw[hrun,if_neg (by rw[hf];simp)]
theorem iC.last{K:Nat}{s0 s:St}{L:List Act}(h:iC K s0 L L.length s):bU s0 L=(true,s):=by
 rw[h.run,B5];rfl
abbrev Pt:=(List bB)×(List Step)×(List (List aB))×(List Int)×(List aB)×(List aX)×(List dI)
def ik(s:St):Pt:=(s.to.known,s.to.steps,s.to.u,s.to.status,s.to.value,s.to.items,s.to.stack)
def gn(s:St):List Act:=(List.range s.known.length).map fun i=>.put (aI s.known i).c [⟨i,1⟩]
theorem Px{K K0:Nat}{s:St}(hs:gu K s)(hr:jd s.known.length s)(hK:K0+6<=K)(h:∀q∈s.known,fA K0 q/\∀v∈q.c,dl v<=8):Tm (fun N=>tH N s.to) (·=((bU s (gn s)).1,(bU s (gn s)).2.to)):=by
 have hl:(gn s).length=s.known.length:=by simp[gn]
 have hmap:s.to.known.length=s.known.length:=cN ..;have hkl:=hs.kl;unfold tH;refine Tm.bind (Q:=fun r=>(∃s',r=.inl (ik s')/\bU s (gn s)=(true,s')/\s'.n=s.n)\/(r=.inr ((bU s (gn s)).1,(bU s (gn s)).2.to))) (eL s.known.length (fun k t=>∃s',iC K s (gn s) k s'/\t=(s'.to.known,s'.to.steps,s'.to.u,s'.to.status,s'.to.value,s'.to.items,s'.to.stack,(k:Int))) ⟨s,iC.first hs (by rw[hl];exact hr),rfl⟩ ?_) ?_
 . rintro k hk _ ⟨s',hi,rfl⟩;dsimp only[DC];refine aY (fun hlt=>?_) (fun hge=>aM (.inl ⟨s',rfl,?_,hi.n⟩))
   . have hlt:k<s.known.length:=by omega
     obtain⟨e,he⟩:=hi.pre;have hq:=h _ (eK hlt);have hql:=(hs.k _ (eK hlt)).2;refine aN (a:=(aI s.known k).to) (by show idx (s'.known.map AQ.to) _=_;rw[nW (by rw[he];simp;omega),he,iz hlt]) ?_;refine aU (a:=mB (aI s.known k).c) ?_ ?_
     . unfold ns;refine aN (dO (by show(_+(mB _).length)*_<=_;rw[dH,hql];have:=hs.n;simp only[dP];omega) (by decide)) (aM rfl)
     have hLk:(gn s)[k]'(by rw[hl];exact hlt)=.put (aI s.known k).c [⟨k,1⟩]:=by simp[gn]
     have hact:k9 K0 s (.put (aI s.known k).c [⟨k,1⟩]):=⟨hql,hq.2,by simp,by simp,fun u hu=>by
      rw[cL.1 hu];exact⟨hlt,Gf 1,bO jA (by decide),hq.1,hql⟩⟩
     obtain⟨p1,p2,p3,p4⟩:=hi.put (by rw[hl];exact hlt) hLk hact hK;refine aU (jP (by decide) (by decide)) ?_;rw[ir (x:=s'.to) (by show(s.n:Int)=s'.n;rw[hi.n])];refine aU p1 (aY (fun hf=>aM ?_) (fun ht=>aM ⟨hlt,_,p2 (by simpa using ht),?_⟩))
     . dsimp only;rw[ir (by show(s.n:Int)=_;rw[show(D.put s' (aI s.known k).c [⟨k,1⟩]).2.to.n=((D.put s' (aI s.known k).c [⟨k,1⟩]).2.n:Int) from rfl,p4])];rw[p3 (by simpa using hf)];exact .inr rfl
     . dsimp only;rw[ed (by omega)]
   . have:k=s.known.length:=by omega
     subst this;exact iC.last (by rw[hl];exact hi)
 . rintro r (⟨s',rfl,h1,h2⟩|rfl)
   . refine aM ?_;show(true,aR.mk s.to.n s'.to.known s'.to.steps s'.to.u s'.to.status s'.to.value s'.to.items s'.to.stack)=_;rw[ir (x:=s'.to) (by show(s.n:Int)=s'.n;rw[h2]),h1]
   . exact aM rfl
open Go Go.X
def jJ(n K:Nat)(l:List Int):Prop:=l.length=n/\∀v∈l,dl v<=K
theorem jJ.vf{n K:Nat}{l:List Int}(h:jJ n K l)(j:Nat):dl (vf l j)<=K:=by
 rcases cv j l.length with hj|hj
 . exact h.2 _ (gh hj)
 . rw[mr hj,ie];omega
structure SU (K:Nat)(s:St):Prop where
 u:s.u.length=s.n/\∀r∈s.u,jJ s.n K r
 st:s.status.length=s.n
 v:jJ s.n K s.value
def lk(j p:Nat)(q:Int)(l:List Int):List Int:=l.set j (vf l j-q*vf l p)
def kI(s:St)(j p:Nat)(q:Int):St:={s with u:=s.u.map (lk j p q),items:=s.items.map fun x=>{x with g:=lk j p q x.g}}
theorem AD{l:List Int}(h:l.length<=1000):Tm (fun N=>ns N (mB l)) (·=mB l):=by
 unfold ns;exact aN (dO (by rw[dH];simp only[dP];omega) (by decide)) (aM rfl)
theorem Lt{n K:Nat}{l:List Int}{j p:Nat}{q:Int}(hn:n<=512)(hl:jJ n K l)(hj:j<n)(hp:p<n)(hK:K+dl q<=cX):Tm (fun N=>l5 N (mB l) (j:Int) (B q) (p:Int)) (·=mB (lk j p q l)):=by
 have hll:=hl.1;have h1:=hl.vf j;have h2:=hl.vf p;have h3:=kh q (vf l p);unfold l5;refine aU (AD (by omega)) (aN (ej (by omega)) (aN (ej (by omega)) (aU (nT (by omega) (by omega)) (aU (l6 (by omega) (by omega)) (aN (ej (by omega)) (aN (eh rfl (by rw[dH];omega)) (aM ?_)))))));rw[uZ];rfl
theorem J6{n K:Nat}{l:List Int}{p:Nat}(hn:n<=512)(hl:jJ n K l)(hp:p<n)(hK:K<=cX):Tm (fun N=>l7 N (mB l) (p:Int)) (·=mB (l.set p (-vf l p))):=by
 have hll:=hl.1;have h1:=hl.vf p;unfold l7;refine aU (AD (by omega)) (aN (ej (by omega)) (aU (nF (by omega)) (aN (ej (by omega)) (aN (eh rfl (by rw[dH];omega)) (aM ?_)))));rw[uZ]
theorem xu{α β:Type}{l:List α}{f:α->β}{d:α}:(List.range l.length).map (fun k=>f (l.getD k d))=l.map f:=by
 apply pK (by simp);intro i h1 h2;simp at h2;simp[cy,bV h2]
theorem Nx{K:Nat}{s:St}{j p:Nat}{q:Int}(hu:SU K s)(hn:s.n<=512)(hil:s.items.length<=1073741824)(hi:∀x∈s.items,jJ s.n K x.g)(hj:j<s.n)(hp:p<s.n)(hK:K+dl q<=cX):
 Tm (fun N=>wv N s.to (j:Int) (p:Int) (B q)) (·=(kI s j p q).to):=by
 unfold wv;have hmu:s.to.u.length=s.u.length:=cN ..;have hmi:s.to.items.length=s.items.length:=cN ..;have hul:=hu.u.1;refine aU (a:=s.u.map fun r=>mB (lk j p q r)) ?_ ?_
 . refine(Tm.fill (n:=s.u.length) (by omega) (c0:=s.to.u) (fun k=>mB (lk j p q (s.u.getD k []))) hmu (fin:=id) ?_ ?_).mono ?_
   . intro k hk c hc hi';have e0:s.to.u[k]?=some (mB s.u[k]):=by show(s.u.map mB)[k]?=_;rw[gM,bV hk];rfl
     rw[e0]at hi';dsimp only[Am];refine cT (by rw[hmu];omega) (aN (kF hi') (aU (Lt hn (hu.u.2 _ (du hk)) hj hp hK) (aN (kF hi') (aN (eh rfl (by omega)) (aM ?_)))));rw[cy,bV hk];rfl
   . intro c hc;dsimp only[Am];exact cz (by rw[hmu];omega) (aM rfl)
   . intro r hr;rw[hr,id,xu (f:=fun r=>mB (lk j p q r))]
 . refine aU (a:=s.items.map fun x=>({x with g:=lk j p q x.g}:AI).to) ?_ ?_
   . refine(Tm.fill (n:=s.items.length) (by omega) (c0:=s.to.items) (fun k=>({s.items.getD k ⟨0,[]⟩with g:=lk j p q (s.items.getD k ⟨0,[]⟩).g}:AI).to) hmi (fin:=id) ?_ ?_).mono ?_
     . intro k hk c hc hi';have e0:s.to.items[k]?=some (s.items[k]).to:=by show(s.items.map AI.to)[k]?=_;rw[gM,bV hk];rfl
       rw[e0]at hi';dsimp only[zw];refine cT (by rw[hmi];omega) (aN (kF hi') (aU (Lt hn (hi _ (du hk)) hj hp hK) (aN (kF hi') (aN (eh rfl (by omega)) (aM ?_)))));rw[cy,bV hk];rfl
     . intro c hc;dsimp only[zw];exact cz (by rw[hmi];omega) (aM rfl)
     . intro r hr;rw[hr,id,xu (f:=fun x:AI=>({x with g:=lk j p q x.g}:AI).to)]
   . refine aM ?_;unfold kI St.to;dsimp only;rw[mi,mi];rfl
def flS(s:St)(p:Nat):St:={s with u:=s.u.map (fun l=>l.set p (-vf l p)),items:=s.items.map fun x=>{x with g:=x.g.set p (-vf x.g p)}}
theorem R7{K:Nat}{s:St}{p:Nat}(hu:SU K s)(hn:s.n<=512)(hil:s.items.length<=1073741824)(hi:∀x∈s.items,jJ s.n K x.g)(hp:p<s.n)(hK:K<=cX):
 Tm (fun N=>xM N s.to (p:Int)) (·=(flS s p).to):=by
 unfold xM;have hmu:s.to.u.length=s.u.length:=cN ..;have hmi:s.to.items.length=s.items.length:=cN ..;have hul:=hu.u.1;refine aU (a:=s.u.map fun r=>mB (r.set p (-vf r p))) ?_ ?_
 . refine(Tm.fill (n:=s.u.length) (by omega) (c0:=s.to.u) (fun k=>mB ((s.u.getD k []).set p (-vf (s.u.getD k []) p))) hmu (fin:=id) ?_ ?_).mono ?_
   . intro k hk c hc hi';have e0:s.to.u[k]?=some (mB s.u[k]):=by show(s.u.map mB)[k]?=_;rw[gM,bV hk];rfl
     rw[e0]at hi';dsimp only[Bf];refine cT (by rw[hmu];omega) (aN (kF hi') (aU (J6 hn (hu.u.2 _ (du hk)) hp hK) (aN (kF hi') (aN (eh rfl (by omega)) (aM ?_)))));rw[cy,bV hk];rfl
   . intro c hc;dsimp only[Bf];exact cz (by rw[hmu];omega) (aM rfl)
   . intro r hr;rw[hr,id,xu (f:=fun r:List Int=>mB (r.set p (-vf r p)))]
 . refine aU (a:=s.items.map fun x=>({x with g:=x.g.set p (-vf x.g p)}:AI).to) ?_ ?_
   . refine(Tm.fill (n:=s.items.length) (by omega) (c0:=s.to.items) (fun k=>({s.items.getD k ⟨0,[]⟩with g:=(s.items.getD k ⟨0,[]⟩).g.set p (-vf (s.items.getD k ⟨0,[]⟩).g p)}:AI).to) hmi (fin:=id) ?_ ?_).mono ?_
     . intro k hk c hc hi';have e0:s.to.items[k]?=some (s.items[k]).to:=by show(s.items.map AI.to)[k]?=_;rw[gM,bV hk];rfl
       rw[e0]at hi';dsimp only[zO];refine cT (by rw[hmi];omega) (aN (kF hi') (aU (J6 hn (hi _ (du hk)) hp hK) (aN (kF hi') (aN (eh rfl (by omega)) (aM ?_)))));rw[cy,bV hk];rfl
     . intro c hc;dsimp only[zO];exact cz (by rw[hmi];omega) (aM rfl)
     . intro r hr;rw[hr,id,xu (f:=fun x:AI=>({x with g:=x.g.set p (-vf x.g p)}:AI).to)]
   . refine aM ?_;unfold flS St.to;dsimp only;rw[mi,mi];rfl
def ri(a:List Int)(p:Nat):Prop:=p<a.length/\vf a p≠0/\∀j,j<a.length->vf a j≠0->(vf a p).natAbs<=(vf a j).natAbs
theorem absB(v:Int):aB.mk false (B v).aP=B (v.natAbs:Int):=by
 show aB.mk false (pR v.natAbs)=aB.mk (decide ((v.natAbs:Int)<0)) (pR ((v.natAbs:Int)).natAbs);rw[MT,decide_eq_false (by omega)]
theorem Ha(v:Int):dl (v.natAbs:Int)=dl v:=Nat.le_antisymm (sJ (by omega)) (sJ (by omega))
theorem ou{a:Int}:bM a 0≠0↔a≠0:=by unfold bM;(repeat' split)<;>omega
theorem nY{a b:Int}:bM a b<0↔a<b:=by unfold bM;(repeat' split)<;>omega
theorem T8{x:AI}(hl:x.g.length<=1000)(hd:∀v∈x.g,dl v<=cX)(h0:∃j,j<x.g.length/\vf x.g j≠0):Tm (fun N=>bK (y7 N x.to) N ((-1),0)) (fun r=>∃p:Nat,r=(p:Int)/\ri x.g p):=by
 have hxl:x.to.g.length=x.g.length:=dH _;refine eL x.g.length (fun k t=>t.2=(k:Int)/\((t.1=-1/\∀j,j<k->vf x.g j=0)\/∃p:Nat,t.1=(p:Int)/\p<k/\vf x.g p≠0/\∀j,j<k->vf x.g j≠0->(vf x.g p).natAbs<=(vf x.g j).natAbs)) ⟨rfl,.inl ⟨rfl,fun j hj=>by omega⟩⟩ ?_;rintro k hk ⟨p,i⟩ ⟨rfl,hp⟩;dsimp only at hp;dsimp only[y7];refine aY (fun hlt=>?_) (fun hge=>aM ?_)
 . have hlt:k<x.g.length:=by omega
   have hdk:=hd _ (gh hlt);have hidx:idx x.to.g (k:Int)=some (B (vf x.g k)):=ej hlt;refine Tm.bind (Q:=fun r:Int=>(r=(k:Int)/\vf x.g k≠0/\∀j,j<k->vf x.g j≠0->(vf x.g k).natAbs<=(vf x.g j).natAbs)\/(r=p/\(vf x.g k=0\/∃p':Nat,p=(p':Int)/\(vf x.g p').natAbs<=(vf x.g k).natAbs))) ?_ ?_
   . refine Tm.bind (Q:=fun c=>(c=true/\vf x.g k≠0/\∀j,j<k->vf x.g j≠0->(vf x.g k).natAbs<=(vf x.g j).natAbs)\/(c=false/\(vf x.g k=0\/∃p':Nat,p=(p':Int)/\(vf x.g p').natAbs<=(vf x.g k).natAbs))) ?_ ?_
     . refine aN hidx (aU (jm hdk) (aY (fun h1=>?_) (fun h1=>aM (.inr ⟨rfl,.inl ?_⟩))))
       . have h1:=ou.1 h1;rcases hp with⟨rfl,hz⟩|⟨p',rfl,hpk,hp0,hpm⟩
         . exact cT (by decide) (aM (.inl ⟨rfl,h1,fun j hj hj0=>absurd (hz j hj) hj0⟩))
         . refine cz (by omega) ?_;refine aN hidx (aN (a:=B (vf x.g k).natAbs) (congrArg some (absB _)) ?_);refine aN (ej (l:=x.g) (k:=p') (by omega)) (aN (a:=B (vf x.g p').natAbs) (congrArg some (absB _)) ?_);refine aU (j2 (by rw[Ha];exact hdk) (by rw[Ha];exact hd _ (gh (by omega)))) (aM ?_);by_cases hc:(vf x.g k).natAbs<(vf x.g p').natAbs
           . exact .inl ⟨decide_eq_true (nY.2 (by omega)),h1,fun j hj hj0=>by have:=hpm j hj hj0;omega⟩
           . exact .inr ⟨decide_eq_false (fun e=>hc (by have:=nY.1 e;omega)),.inr ⟨p',rfl,by omega⟩⟩
       . exact jD fun e=>h1 (ou.2 e)
     . rintro c (⟨rfl,h1⟩|⟨rfl,h1⟩)
       . exact cT rfl (aM (.inl ⟨rfl,h1⟩))
       . exact cz (by simp) (aM (.inr ⟨rfl,h1⟩))
   . rintro r hr;refine aM ⟨hlt,ed (by omega),?_⟩;dsimp only;rcases hr with⟨rfl,h1,h2⟩|⟨rfl,h1⟩
     . refine .inr ⟨k,rfl,by omega,h1,fun j hj hj0=>?_⟩;rcases cv j k with h3|h3
       . exact h2 j h3 hj0
       . obtain rfl:j=k:=by omega
         exact bI _
     . rcases hp with⟨e,hz⟩|⟨p',e,hpk,hp0,hpm⟩
       . rcases h1 with h1|⟨p',e',_⟩
         . refine .inl ⟨e,fun j hj=>?_⟩;rcases cv j k with h3|h3
           . exact hz j h3
           . obtain rfl:j=k:=by omega
             exact h1
         . omega
       . refine .inr ⟨p',e,by omega,hp0,fun j hj hj0=>?_⟩;rcases cv j k with h3|h3
         . exact hpm j h3 hj0
         . obtain rfl:j=k:=by omega
           rcases h1 with h1|⟨p'',e',h4⟩
           . exact absurd h1 hj0
           . obtain rfl:p''=p':=by omega
             exact h4
 . have:k=x.g.length:=by omega
   subst this;rcases hp with⟨rfl,hz⟩|⟨p',rfl,hpk,hp0,hpm⟩
   . obtain⟨j,hj,hj0⟩:=h0;exact absurd (hz j hj) hj0
   . exact⟨p',rfl,hpk,hp0,hpm⟩
def bW(a:List Int)(p k:Nat)(l:List Int):List Int:=vec l.length fun j=>if j<k/\j≠p then vf l j-(vf a j).fdiv (vf a p)*vf l p else vf l j
def fm(s:St)(a:List Int)(p k:Nat):St:={s with u:=s.u.map (bW a p k),items:=s.items.map fun x=>{x with g:=bW a p k x.g}}
theorem o5{a:List Int}{p k:Nat}{l:List Int}:(bW a p k l).length=l.length:=fb
theorem Tl{a:List Int}{p:Nat}{l:List Int}:bW a p 0 l=l:=by
 refine ma fb fun j hj=>?_;rw[show(bW a p 0 l).length=l.length from fb]at hj;unfold bW;rw[dJ hj,if_neg (by omega)]
theorem GW{a:List Int}{p k:Nat}{l:List Int}(hp:p<l.length)(hk:k<l.length)(hkp:k≠p):lk k p ((vf a k).fdiv (vf a p)) (bW a p k l)=bW a p (k+1) l:=by
 refine ma (by unfold lk;rw[iP];exact fb.trans fb.symm) fun j hj=>?_;unfold lk at hj⊢;rw[iP,o5]at hj;have e1:vf (bW a p k l) k=vf l k:=by unfold bW;rw[dJ hk,if_neg (by omega)]
 have e2:vf (bW a p k l) p=vf l p:=by unfold bW;rw[dJ hp,if_neg (by omega)]
 rw[jM (by rw[o5];exact hk),e1,e2];have e3:vf (bW a p (k+1) l) j=if j<k+1/\j≠p then vf l j-(vf a j).fdiv (vf a p)*vf l p else vf l j:=by unfold bW;rw[dJ hj]
 have e4:vf (bW a p k l) j=if j<k/\j≠p then vf l j-(vf a j).fdiv (vf a p)*vf l p else vf l j:=by unfold bW;rw[dJ hj]
 rw[e3];by_cases e:k=j
 . subst e;rw[if_pos rfl,if_pos ⟨by omega,hkp⟩]
 . rw[if_neg e,e4];by_cases h2:j<k/\j≠p
   . rw[if_pos h2,if_pos ⟨by omega,h2.2⟩]
   . rw[if_neg h2,if_neg (by omega)]
theorem Tw{a:List Int}{p k:Nat}{l:List Int}(h:k=p\/vf a k=0):bW a p (k+1) l=bW a p k l:=by
 unfold bW;refine IG fun j hj=>?_;by_cases e:j=k
 . subst e;have h2:¬(j<j/\j≠p):=by omega
   rcases h with h|h
   . have h1:¬(j<j+1/\j≠p):=by omega
     rw[if_neg h1,if_neg h2]
   . rw[if_neg h2,h];split
     . rw[yu];omega
     . rfl
 . by_cases h2:j<k/\j≠p
   . rw[if_pos h2,if_pos ⟨by omega,h2.2⟩]
   . rw[if_neg h2,if_neg (by omega)]
theorem QA(s:St)(a:List Int)(p:Nat):fm s a p 0=s:=by
 unfold fm;rw[show bW a p 0=id from funext fun l=>Tl];simp
theorem ON{s:St}{a:List Int}{p k:Nat}(h:k=p\/vf a k=0):fm s a p (k+1)=fm s a p k:=by
 unfold fm;rw[show bW a p (k+1)=bW a p k from funext fun l=>Tw h]
theorem Nf{s:St}{a:List Int}{p k:Nat}(hu:∀r∈s.u,r.length=s.n)(hi:∀x∈s.items,x.g.length=s.n)(hp:p<s.n)(hk:k<s.n)(hkp:k≠p):kI (fm s a p k) k p ((vf a k).fdiv (vf a p))=fm s a p (k+1):=by
 unfold kI fm;dsimp only;rw[mi,mi];congr 1
 . apply B6;intro r hr;exact GW (by rw[hu r hr];exact hp) (by rw[hu r hr];exact hk) hkp
 . apply B6;intro x hx;show AI.mk _ _=AI.mk _ _;rw[show lk k p ((vf a k).fdiv (vf a p)) (bW a p k x.g)=bW a p (k+1) x.g from GW (by rw[hi x hx];exact hp) (by rw[hi x hx];exact hk) hkp]
theorem D3{n K:Nat}{a:List Int}{p k:Nat}{l:List Int}(hl:jJ n K l)(ha:∀j,dl (vf a j)<=8):jJ n (K+9) (bW a p k l):=by
 refine⟨o5.trans hl.1,fun v hv=>?_⟩;obtain⟨j,hj,rfl⟩:=gB hv;rw[o5]at hj;unfold bW;rw[dJ hj];split
 . have h1:=hl.vf j;have h2:=hl.vf p;have h3:=kh ((vf a j).fdiv (vf a p)) (vf l p);have h4:=se (vf a j) (vf a p);have h5:=ha j;exact jL (K:=K+8) (by omega) (by omega)
 . have:=hl.vf j;omega
theorem RD{K:Nat}{s0 s:St}{i p:Nat}(hu:SU K s)(hn:s.n<=512)(hn0:s0.n=s.n)(hil:s.items.length<=1073741824)(hi:∀x∈s.items,jJ s.n 8 x.g)(hii:i<s.items.length)(hp:p<s.n)(hK8:8<=K)(hK:K+30<=cX)(c0:Bool):
 Tm (fun N=>bK (Ad N s0.to (i:Int) (s.items[i]).to (p:Int)) N (s.to.known,s.to.steps,s.to.u,s.to.status,s.to.value,s.to.items,s.to.stack,c0,0))
  (fun r=>∃c,r=((fm s (s.items[i]).g p s.n).to.known,(fm s (s.items[i]).g p s.n).to.steps,(fm s (s.items[i]).g p s.n).to.u,(fm s (s.items[i]).g p s.n).to.status,(fm s (s.items[i]).g p s.n).to.value,(fm s (s.items[i]).g p s.n).to.items,(fm s (s.items[i]).g p s.n).to.stack,c)/\(c=true↔c0=true/\∀j,j<s.n->j≠p->vf (s.items[i]).g j=0)):=by
 generalize hx:s.items[i]=x;have hxm:x∈s.items:=hx▸du hii;obtain⟨xl,xd⟩:=hi x hxm;have hxl:x.to.g.length=s.n:=(dH _).trans xl;have ha:∀j,dl (vf x.g j)<=8:=jJ.vf ⟨xl,xd⟩;refine eL s.n (fun k t=>∃c,t=((fm s x.g p k).to.known,(fm s x.g p k).to.steps,(fm s x.g p k).to.u,(fm s x.g p k).to.status,(fm s x.g p k).to.value,(fm s x.g p k).to.items,(fm s x.g p k).to.stack,c,(k:Int))/\(c=true↔c0=true/\∀j,j<k->j≠p->vf x.g j=0)) ⟨c0,by rw[QA];rfl,by simp⟩ ?_;rintro k hk _ ⟨c,rfl,hc⟩;dsimp only[Ad];refine aY (fun hlt=>?_) (fun hge=>aM ?_)
 . have hlt:k<s.n:=by rw[hxl]at hlt;omega
   have hik:∀z∈(fm s x.g p k).items,jJ s.n (8+9) z.g:=by
    intro z hz;obtain⟨w,hw,rfl⟩:=dL.1 hz;exact D3 (hi w hw) ha
   have hgk:(fm s x.g p k).items[i]?=some {x with g:=bW x.g p k x.g}:=by
    show(s.items.map _)[i]?=_;rw[gM,bV hii,hx];rfl
   refine Tm.bind (Q:=fun r=>(r.1,r.2.1,r.2.2.1,r.2.2.2.1,r.2.2.2.2.1,r.2.2.2.2.2.1,r.2.2.2.2.2.2.1)=ik (fm s x.g p (k+1))/\(r.2.2.2.2.2.2.2=true↔c0=true/\∀j,j<k+1->j≠p->vf x.g j=0)) (Tm.bind (Q:=fun b=>b=decide (k≠p/\vf x.g k≠0)) (aY (fun hkp=>?_) (fun hkp=>aM ?_)) ?_) ?_
   . have hkp:k≠p:=by omega
     refine aN (a:=({x with g:=bW x.g p k x.g}:AI).to) (kF (by show((fm s x.g p k).items.map AI.to)[i]?=_;rw[gM,hgk];rfl)) ?_;refine aN (ej (l:=bW x.g p k x.g) (by rw[o5];omega)) ?_;have e:vf (bW x.g p k x.g) k=vf x.g k:=by unfold bW;rw[dJ (by omega),if_neg (by omega)]
     rw[e];refine aU (jm (bO (ha k) (by decide))) (aM ?_);apply decide_eq_decide.2;rw[ou];exact⟨fun h=>⟨hkp,h⟩,fun h=>h.2⟩
   . rw[decide_eq_false];omega
   . rintro _ rfl;refine aY (fun h1=>?_) (fun h1=>aM ?_)
     . obtain⟨hkp,hk0⟩:=of_decide_eq_true h1;refine aN (ej (l:=x.g) (by omega)) (aN (ej (l:=x.g) (k:=p) (by omega)) (Tm.bind (qz (bO (ha k) (by decide)) (bO (ha p) (by decide))) ?_));intro r hr;rw[hr,ir (x:=(fm s x.g p k).to) (by show(s0.n:Int)=s.n;rw[hn0])];have hSUk:SU (K+9) (fm s x.g p k):=⟨⟨by show(s.u.map _).length=_;rw[cN];exact hu.u.1,fun l hl=>by
        obtain⟨w,hw,rfl⟩:=dL.1 hl;exact D3 (hu.u.2 w hw) ha⟩,hu.st,⟨hu.v.1,fun v hv=>by have:=hu.v.2 v hv;omega⟩⟩
       have hq:=se (vf x.g k) (vf x.g p);have hq8:=ha k;refine aU (Nx (s:=fm s x.g p k) hSUk hn (by show(s.items.map _).length<=_;rw[cN];exact hil) (fun z hz=>⟨(hik z hz).1,fun v hv=>by have:=(hik z hz).2 v hv;omega⟩) hlt hp (by omega)) (aM ?_);rw[Nf (fun r hr=>(hu.u.2 r hr).1) (fun z hz=>(hi z hz).1) hp hlt hkp];refine⟨rfl,?_⟩;dsimp only;exact⟨fun e=>(by cases e),fun e=>absurd (e.2 k (by omega) hkp) hk0⟩
     . have h2:k=p\/vf x.g k=0:=by
        have:¬(k≠p/\vf x.g k≠0):=fun e=>h1 (decide_eq_true e);omega
       rw[ON h2];refine⟨rfl,?_⟩;dsimp only;rw[hc];refine and_congr_right fun _=>⟨fun h j hj hjp=>?_,fun h j hj hjp=>h j (by omega) hjp⟩;rcases cv j k with h3|h3
       . exact h j h3 hjp
       . obtain rfl:j=k:=by omega
         rcases h2 with h2|h2
         . exact absurd h2 hjp
         . exact h2
   . rintro⟨r1,r2,r3,r4,r5,r6,r7,r8⟩ ⟨h1,h2⟩;dsimp only at h1 h2⊢;obtain⟨rfl,rfl,rfl,rfl,rfl,rfl,rfl⟩:=by simpa[ik]using h1
     exact aM ⟨hlt,r8,by rw[ed (by omega)],h2⟩
 . have:k=s.n:=by rw[hxl]at hge;omega
   subst this;exact⟨c,rfl,hc⟩
open Go Go.X
def bE(f g:Nat->Int):Nat->Int
 |0=>0
 |n+1=>bE f g n+f n*g n
theorem eF{f f' g g':Nat->Int}:∀{n:Nat},(∀j,j<n->f j=f' j)->(∀j,j<n->g j=g' j)->bE f g n=bE f' g' n
 |0,_,_=>rfl
 |n+1,h,h'=>by simp only[bE];rw[eF (n:=n) (fun j hj=>h j (by omega)) (fun j hj=>h' j (by omega)),h n (by omega),h' n (by omega)]
theorem u6{f h g:Nat->Int}{k:Int}:∀n,bE (fun j=>f j+k*h j) g n=bE f g n+k*bE h g n
 |0=>by simp[bE]
 |n+1=>by simp only[bE,u6 n];grind
theorem sf{f g:Nat->Int}{k:Int}:∀n,bE (fun j=>k*f j) g n=k*bE f g n
 |0=>by simp[bE]
 |n+1=>by simp only[bE,sf n];grind
theorem pA{f g:Nat->Int}:∀n,bE f g n=bE g f n
 |0=>rfl
 |n+1=>by simp only[bE,pA n];grind
theorem sy{f g:Nat->Int}:∀{n:Nat},(∀j,j<n->f j=0)->bE f g n=0
 |0,_=>rfl
 |n+1,h=>by simp only[bE];rw[sy (n:=n) fun j hj=>h j (by omega),h n (by omega)];simp
theorem pO{f g:Nat->Int}{p:Nat}:∀{n:Nat},p<n->(∀j,j<n->j≠p->f j=0)->bE f g n=f p*g p
 |n+1,hp,h=>by
  simp only[bE];by_cases e:n=p
  . subst e;rw[sy fun j hj=>h j (by omega) (by omega)];simp
  . rw[pO (n:=n) (by omega) fun j hj=>h j (by omega),h n (by omega) e];simp
def cI(y:Nat->Int)(v:Nat)(z:Int):Nat->Int:=fun j=>if j=v then z else y j
theorem vv{f y:Nat->Int}{v:Nat}{z:Int}:∀{n:Nat},v<n->bE f (cI y v z) n=bE f y n+f v*(z-y v)
 |n+1,hv=>by
  simp only[bE];by_cases e:n=v
  . subst e;rw[eF (f:=f) (f':=f) (g:=cI y n z) (g':=y) (n:=n) (fun _ _=>rfl) fun j hj=>by unfold cI;rw[if_neg (by omega)]];unfold cI;rw[if_pos rfl];grind
  . rw[vv (n:=n) (by omega)];unfold cI;rw[if_neg e];grind
theorem mo{c y:Nat->Int}{U:Nat->Nat->Int}{n:Nat}:∀{m:Nat},bE c (fun i=>bE (U i) y n) m=bE (fun j=>bE c (fun i=>U i j) m) y n
 |0=>by simp only[bE];rw[sy fun _ _=>rfl]
 |m+1=>by
  simp only[bE];rw[mo (m:=m)];have:=u6 (f:=fun j=>bE c (fun i=>U i j) m) (h:=fun j=>U m j) (g:=y) (k:=c m) n;exact this.symm
theorem DT{f g:Nat->Int}{d:Int}:∀{n:Nat},(∀j,j<n->d∣f j)->d∣bE f g n
 |0,_=>yv d
 |n+1,h=>Int.dvd_add (DT fun j hj=>h j (by omega)) (Int.dvd_trans (h n (by omega)) (Int.dvd_mul_right ..))
def mx(u:List (List Int))(i j:Nat):Int:=vf (u.getD i []) j
def ux(s:St)(y:Nat->Int)(i:Nat):Int:=bE (mx s.u i) y s.n
def cu(u:List (List Int))(n:Nat)(c:List Int)(j:Nat):Int:=bE (vf c) (fun i=>mx u i j) n
theorem Bj(s:St)(c:List Int)(y:Nat->Int):bE (vf c) (ux s y) s.n=bE (cu s.u s.n c) y s.n:=mo
theorem Hw{s:St}{y:Nat->Int}{v:Nat}{z:Int}{i:Nat}(hv:v<s.n):ux s (cI y v z) i=ux s y i+mx s.u i v*(z-y v):=vv hv
def Unim(u:List (List Int))(n:Nat)(w:Nat->Nat->Int):Prop:=(∀i,i<n->∀k,k<n->bE (mx u i) (fun j=>w j k) n=if i=k then 1 else 0)/\∀i,i<n->∀k,k<n->bE (w i) (fun j=>mx u j k) n=if i=k then 1 else 0
theorem oN{c:Nat->Int}{n k:Nat}(hk:k<n):bE c (fun i=>if i=k then 1 else 0) n=c k:=by
 rw[pA,pO hk fun j _ hj=>if_neg hj,if_pos rfl];omega
theorem AK{u:List (List Int)}{n:Nat}{w:Nat->Nat->Int}(h:Unim u n w){c:List Int}{k:Nat}(hk:k<n):vf c k=bE (cu u n c) (fun j=>w j k) n:=by
 have:bE (cu u n c) (fun j=>w j k) n=bE (vf c) (fun i=>bE (mx u i) (fun j=>w j k) n) n:=mo.symm;rw[this,eF (f':=vf c) (g':=fun i=>if i=k then 1 else 0) (fun _ _=>rfl) (fun i hi=>h.1 i hi k hk),oN hk]
theorem zG{u:List (List Int)}{n:Nat}{a b:List Int}{k:Int}{j:Nat}{c:List Int}(h:∀i,i<n->vf c i=vf a i+k*vf b i):cu u n c j=cu u n a j+k*cu u n b j:=by
 unfold cu;rw[eF (f':=fun i=>vf a i+k*vf b i) (g':=fun i=>mx u i j) h fun _ _=>rfl,u6]
theorem zD{u:List (List Int)}{n:Nat}{a c:List Int}{k:Int}{j:Nat}(h:∀i,i<n->vf c i=k*vf a i):cu u n c j=k*cu u n a j:=by
 unfold cu;rw[eF (f':=fun i=>k*vf a i) (g':=fun i=>mx u i j) h fun _ _=>rfl,sf]
structure Inv (s:St):Prop where
 ul:s.u.length=s.n/\∀r∈s.u,r.length=s.n
 fV:s.status.length=s.n
 vl:s.value.length=s.n
 kl:∀q∈s.known,q.c.length=s.n
 it:∀x∈s.items,x.pos<s.known.length/\x.g.length=s.n
 df:∀x∈s.items,∀j,j<s.n->vf x.g j=cu s.u s.n (aI s.known x.pos).c j
 nf:∀x∈s.items,∀j,j<s.n->vf s.status j≠0->vf x.g j=0
 gG:∀x∈s.items,dc x.g=1
 j6:s.items.Pairwise fun x y=>x.g≠y.g
 kd:∃w,Unim s.u s.n w
 stat:∀j,j<s.n->vf s.status j=0\/vf s.status j=1\/vf s.status j=2
 sv:∀e∈s.stack,e.v<s.n/\vf s.status e.v=2/\∀p∈e.items,p<s.known.length
 s2:∀j,j<s.n->vf s.status j=2->∃e∈s.stack,e.v=j
 sd:s.stack.Pairwise fun e' e=>e'.v≠e.v/\∀p∈e.items,cu s.u s.n (aI s.known p).c e'.v=0
def IH(s:St)(y:Nat->Int)(x:AI):Prop:=bE (vf x.g) y s.n<=(aI s.known x.pos).b
def hx(s:St)(x:Nat->Int)(p:Nat):Prop:=bE (vf (aI s.known p).c) x s.n<=(aI s.known p).b
theorem vg{s:St}(h:Inv s){x:AI}(hx':x∈s.items){y:Nat->Int}:IH s y x↔hx s (ux s y) x.pos:=by
 unfold IH hx;rw[Bj,eF (f:=vf x.g) (f':=cu s.u s.n (aI s.known x.pos).c) (g:=y) (g':=y) (h.df x hx') fun _ _=>rfl]
def Fx(s:St)(y:Nat->Int):Prop:=∀j,j<s.n->vf s.status j=1->y j=vf s.value j
def Hs(s:St)(y:Nat->Int)(k:Nat):Prop:=Fx s y/\(∀x∈s.items,IH s y x)/\∀e∈s.stack.drop k,∀p∈e.items,hx s (ux s y) p
structure gN (s s':St):Prop where
 n:s'.n=s.n
 kn:∃e,s'.known=s.known++e
 dM:∃t,s'.stack=s.stack++t
 col:∀j,j<s.n->vf s.status j≠0->vf s'.status j=vf s.status j/\(vf s.status j=1->vf s'.value j=vf s.value j)/\∀i,i<s.n->mx s'.u i j=mx s.u i j
 tr:∀y',∃y,(∀i,i<s.n->ux s' y' i=ux s y i)/\(∀j,j<s.n->vf s.status j≠0->y j=y' j)/\∀k,k<=s.stack.length->Hs s' y' k->Hs s y k
theorem gN.refl(s:St):gN s s:=⟨rfl,⟨[],by simp⟩,⟨[],by simp⟩,fun j _ _=>⟨rfl,fun _=>rfl,fun _ _=>rfl⟩,fun y=>⟨y,fun _ _=>rfl,fun _ _ _=>rfl,fun _ _ h=>h⟩⟩
theorem gN.trans{a b c:St}(h:gN a b)(h':gN b c):gN a c:=by
 obtain⟨e1,h1⟩:=h.kn;obtain⟨e2,h2⟩:=h'.kn;obtain⟨t1,g1⟩:=h.dM;obtain⟨t2,g2⟩:=h'.dM;refine⟨h'.n.trans h.n,⟨e1++e2,by rw[h2,h1,jb]⟩,⟨t1++t2,by rw[g2,g1,jb]⟩,fun j hj hs=>?_,fun y''=>?_⟩
 . obtain⟨c1,c2,c3⟩:=h.col j hj hs;obtain⟨d1,d2,d3⟩:=h'.col j (by rw[h.n];exact hj) (by rw[c1];exact hs);exact⟨d1.trans c1,fun e=>(d2 (by rw[c1];exact e)).trans (c2 e),fun i hi=>(d3 i (by rw[h.n];exact hi)).trans (c3 i hi)⟩
 . obtain⟨y',p1,p2,p3⟩:=h'.tr y'';obtain⟨y,q1,q2,q3⟩:=h.tr y';refine⟨y,fun i hi=>(p1 i (by rw[h.n];exact hi)).trans (q1 i hi),fun j hj hs=>(q2 j hj hs).trans (p2 j (by rw[h.n];exact hj) (by rw[(h.col j hj hs).1];exact hs)),fun k hk hh=>q3 k hk (p3 k (by rw[g1];simp;omega) hh)⟩
structure RF (sys:List AQ)(s:St):Prop where
 R:∀y,Hs s y 0->∀q∈sys,bE (vf q.c) (ux s y) s.n<=q.b
 F:∀k e,s.stack[k]?=some e->e.dw=false->∀y,Hs s y (k+1)->∃z,∀p∈e.items,hx s (ux s (cI y e.v z)) p
theorem sx{s s':St}(hn:s'.n=s.n){e:List AQ}(h:s'.known=s.known++e){p:Nat}(hp:p<s.known.length){x x':Nat->Int}(hx':∀i,i<s.n->x' i=x i):hx s' x' p↔hx s x p:=by
 unfold hx;rw[h,iz hp,hn,eF (f:=vf (aI s.known p).c) (f':=vf (aI s.known p).c) (fun _ _=>rfl) hx']
theorem gN.R{sys:List AQ}{s s':St}(h:gN s s')(hr:∀y,Hs s y 0->∀q∈sys,bE (vf q.c) (ux s y) s.n<=q.b):∀y,Hs s' y 0->∀q∈sys,bE (vf q.c) (ux s' y) s'.n<=q.b:=by
 intro y' hy q hq;obtain⟨y,h1,h2,h3⟩:=h.tr y';have:=hr y (h3 0 (fy _) hy) q hq;rw[h.n,eF (f:=vf q.c) (f':=vf q.c) (fun _ _=>rfl) h1];exact this
theorem gN.F{s s':St}(h:gN s s')(hI:Inv s){k:Nat}{e:AE}(hk:s.stack[k]?=some e)(hf:∀y,Hs s y (k+1)->∃z,∀p∈e.items,hx s (ux s (cI y e.v z)) p):∀y,Hs s' y (k+1)->∃z,∀p∈e.items,hx s' (ux s' (cI y e.v z)) p:=by
 intro y' hy;obtain⟨y,h1,h2,h3⟩:=h.tr y';have hkl:k<s.stack.length:=(dR.1 hk).1;obtain⟨z,hz⟩:=hf y (h3 (k+1) hkl hy);have hm:e∈s.stack:=mX hk;obtain⟨e1,e2,e3⟩:=hI.sv e hm;obtain⟨ek,hek⟩:=h.kn;refine⟨z,fun p hp=>(sx h.n hek (e3 p hp) fun i hi=>?_).2 (hz p hp)⟩;rw[Hw (by rw[h.n];exact e1),Hw e1,h1 i hi,h2 e.v e1 (by omega),(h.col e.v e1 (by omega)).2.2 i hi]
def Bp(s:St)(us:List AU)(j:Nat):Int:=cu s.u s.n (vec s.n (dX s.known us)) j
structure nm (s:St)(g:List Int)(us:List AU):Prop where
 df:∀j,j<s.n->vf g j=Bp s us j
 nf:∀j,j<s.n->vf s.status j≠0->vf g j=0
theorem Cv{g:List Int}{n j:Nat}(hl:g.length=n)(hj:j<n):vf (vec n fun j=>vf g j/dv g) j*dv g=vf g j:=by
 rw[dJ hj];refine MU ?_;unfold dv;split
 . exact Int.one_dvd _
 . exact rH (gh (by omega))
theorem JT{s:St}{g:List Int}{us:List AU}(hI:Inv s)(hl:g.length=s.n)(h:nm s g us){i:Nat}(hi:i<s.n):dv g∣dX s.known us i:=by
 obtain⟨w,hw⟩:=hI.kd;have h1:=AK hw (c:=vec s.n (dX s.known us)) hi;rw[dJ hi]at h1;rw[h1];refine DT fun j hj=>?_;rw[<-show Bp s us j=cu s.u s.n (vec s.n (dX s.known us)) j from rfl,<-h.df j hj];unfold dv;split
 . exact Int.one_dvd _
 . exact rH (gh (by omega))
theorem Kj{K:Nat}{s:St}{g:List Int}{us:List AU}(hI:Inv s)(hp:gz K s g us)(h:nm s g us):∀j,j<s.n->vf (kP s g us).g j=cu s.u s.n (aI (dst s g us).known (iF s g us)).c j:=by
 intro j hj;show vf (vec s.n fun j=>vf g j/dv g) j=_;have hd:=qh g;have h1:=Cv (j:=j) hp.gl hj;by_cases hm:many g us=true
 . have e:aI (dst s g us).known (iF s g us)=mM s.n s.known us (dv g):=by
    unfold dst iF;rw[if_pos hm,if_pos hm];exact pt
   rw[e];have h2:cu s.u s.n (vec s.n (dX s.known us)) j=dv g*cu s.u s.n (mM s.n s.known us (dv g)).c j:=zD fun i hi=>by
    rw[dJ hi];show _=dv g*vf (vec s.n _) i;rw[dJ hi,fF,MU (JT hI hp.gl h hi)]
   rw[h.df j hj]at h1;have h3:dv g*vf (vec s.n fun j=>vf g j/dv g) j=dv g*cu s.u s.n (mM s.n s.known us (dv g)).c j:=by
    rw[<-h2,fF,h1];rfl
   exact Mw (by omega) h3
 . have hm':=hm;have e:aI (dst s g us).known (iF s g us)=aI s.known (us.headD ⟨0,0⟩).ix:=by
    unfold dst iF;rw[if_neg hm,if_neg hm]
   rw[e];unfold many at hm;simp only[vJ,decide_eq_true_eq,not_or,Nat.not_lt,tj]at hm;obtain⟨m1,m2,m3⟩:=hm;have hu0:=hp.u0
   match us,hu0,m1 with
   |[u],_,_=>
    have m2:u.n=1:=m2;have h1:vf (vec s.n fun j=>vf g j/dv g) j=vf g j:=by
     have h2:=h1;rwa[show∀z:Int,z*dv g=z from fun z=>by rw[m3];omega]at h2
    rw[h1,h.df j hj];show cu s.u s.n (vec s.n (dX s.known [u])) j=cu s.u s.n (aI s.known u.ix).c j;unfold cu;refine eF (fun i hi=>?_) fun _ _=>rfl;rw[dJ hi];show u.n*vf (aI s.known u.ix).c i+0=_;rw[m2];omega
theorem LF{K:Nat}{s:St}{g:List Int}{us:List AU}(hp:gz K s g us):(aI (dst s g us).known (iF s g us)).b=fW s.known us/dv g:=by
 by_cases hm:many g us=true
 . have e:aI (dst s g us).known (iF s g us)=mM s.n s.known us (dv g):=by
    unfold dst iF;rw[if_pos hm,if_pos hm];exact pt
   rw[e];rfl
 . have e:aI (dst s g us).known (iF s g us)=aI s.known (us.headD ⟨0,0⟩).ix:=by
    unfold dst iF;rw[if_neg hm,if_neg hm]
   rw[e];unfold many at hm;simp only[vJ,decide_eq_true_eq,not_or,Nat.not_lt,tj]at hm;obtain⟨m1,m2,m3⟩:=hm;have hu0:=hp.u0
   match us,hu0,m1 with
   |[u],_,_=>
    have m2:u.n=1:=m2;show(aI s.known u.ix).b=(u.n*(aI s.known u.ix).b+0)/dv g;rw[m2,m3];omega
theorem NV{g:List Int}{n:Nat}(hl:g.length=n)(h:dc g≠0):dc (vec n fun j=>vf g j/dv g)=1:=by
 generalize hk:dc (vec n fun j=>vf g j/dv g)=k;have hd:dv g=(dc g:Nat):=by unfold dv;rw[if_neg h]
 have h1:((k*dc g:Nat):Int)∣((dc g:Nat):Int):=oR fun x hx=>by
  obtain⟨j,hj,rfl⟩:=gB hx;have h2:=Cv (g:=g) (n:=n) (j:=j) hl (by omega);rw[<-h2,hd,FW];refine Int.mul_dvd_mul ?_ (Int.dvd_refl _);rw[<-hk];rw[<-hd];exact rH (gh (by rw[fb];omega))
 have h2:k*dc g∣dc g:=MV.1 h1;obtain⟨c,hc⟩:=h2;have:0<dc g:=by omega
 have h3:dc g*(k*c)=dc g*1:=by rw[Nat.mul_one,<-Nat.mul_assoc,Nat.mul_comm (dc g) k];exact hc.symm
 have h4:=Nat.eq_of_mul_eq_mul_left this h3;exact Nat.eq_one_of_mul_eq_one_right h4
theorem KM{kn:List AQ}{x:AI}:∀{l:List AI},l.Pairwise (fun x y=>x.g≠y.g)->(ee kn x l).Pairwise fun x y=>x.g≠y.g
 |[],_=>by simp[ee]
 |y::l,h=>by
  obtain⟨h1,h2⟩:=yw.1 h;rw[ee];split
  . rename_i e;split
    . exact yw.2 ⟨fun z hz=>by rw[e];exact h1 z hz,h2⟩
    . exact h
  . rename_i e;refine yw.2 ⟨fun z hz=>?_,KM h2⟩;rcases lR hz with rfl|hz
    . exact fun e'=>e e'.symm
    . exact h1 z hz
theorem Ba{s:St}{x:AI}{y:Nat->Int}:∀{l:List AI},(∀z∈ee s.known x l,IH s y z)->(∀z∈l,IH s y z)/\IH s y x
 |[],h=>⟨fun z hz=>(by cases hz),h x (by simp[ee])⟩
 |w::l,h=>by
  rw[ee]at h;split at h
  . rename_i e;split at h
    . rename_i hb;have hx:=h x cK;refine⟨fun z hz=>?_,hx⟩;rcases dZ.1 hz with rfl|hz
      . unfold IH at hx⊢;rw[<-e];omega
      . exact h z (cH _ hz)
    . rename_i hb;refine⟨h,?_⟩;have hw:=h w cK;unfold IH at hw⊢;rw[e];omega
  . have h1:=Ba (l:=l) fun z hz=>h z (cH _ hz);refine⟨fun z hz=>?_,h1.2⟩;rcases dZ.1 hz with rfl|hz
    . exact h z cK
    . exact h1.1 z hz
structure ky (s:St)(x:AI):Prop where
 pos:x.pos<s.known.length
 gl:x.g.length=s.n
 df:∀j,j<s.n->vf x.g j=cu s.u s.n (aI s.known x.pos).c j
 nf:∀j,j<s.n->vf s.status j≠0->vf x.g j=0
 gG:dc x.g=1
theorem Inv.add{s:St}(h:Inv s){x:AI}(hx:ky s x):Inv (add s x)where
 ul:=h.ul
 fV:=h.fV
 vl:=h.vl
 kl:=h.kl
 it z hz:=(lR hz).elim (fun e=>by subst e;exact⟨hx.pos,hx.gl⟩) (fun hz=>h.it z hz)
 df z hz:=(lR hz).elim (fun e=>by subst e;exact hx.df) (fun hz=>h.df z hz)
 nf z hz:=(lR hz).elim (fun e=>by subst e;exact hx.nf) (fun hz=>h.nf z hz)
 gG z hz:=(lR hz).elim (fun e=>by subst e;exact hx.gG) (fun hz=>h.gG z hz)
 j6:=KM h.j6
 kd:=h.kd
 stat:=h.stat
 sv:=h.sv
 s2:=h.s2
 sd:=h.sd
theorem Inv.known{s:St}(h:Inv s){kn e:List AQ}{st:List AS}(hk:kn=s.known++e)(he:∀q∈e,q.c.length=s.n):Inv {s with known:=kn,steps:=st}where
 ul:=h.ul
 fV:=h.fV
 vl:=h.vl
 kl q hq:=by
  have hq:q∈kn:=hq;rw[hk]at hq;rcases fE.1 hq with hq|hq
  . exact h.kl q hq
  . exact he q hq
 it z hz:=⟨by have:=(h.it z hz).1;show _<kn.length;rw[hk];simp;omega,(h.it z hz).2⟩
 df z hz j hj:=by rw[h.df z hz j hj];show _=cu s.u s.n (aI kn z.pos).c j;rw[hk,iz (h.it z hz).1]
 nf:=h.nf
 gG:=h.gG
 j6:=h.j6
 kd:=h.kd
 stat:=h.stat
 sv e' he':=⟨(h.sv e' he').1,(h.sv e' he').2.1,fun p hp=>by have:=(h.sv e' he').2.2 p hp;show _<kn.length;rw[hk];simp;omega⟩
 s2:=h.s2
 sd:=by
  have hsv:=h.sv;have:∀a b,a∈s.stack->b∈s.stack->(a.v≠b.v/\∀p∈b.items,cu s.u s.n (aI s.known p).c a.v=0)->(a.v≠b.v/\∀p∈b.items,cu s.u s.n (aI kn p).c a.v=0):=fun a b ha hb hab=>⟨hab.1,fun p hp=>by rw[hk,iz ((hsv b hb).2.2 p hp)];exact hab.2 p hp⟩;exact MW (fun{a b} ha hb hab=>this a b ha hb hab) h.sd
theorem Inv.dst{K:Nat}{s:St}(h:Inv s){g:List Int}{us:List AU}(hp:gz K s g us):Inv (dst s g us):=by
 unfold D.dst;split
 . exact h.known rfl fun q hq=>by rw[cL.1 hq];exact fb
 . exact h
theorem Fp(s:St)(g:List Int)(us:List AU):(dst s g us).u=s.u/\(dst s g us).status=s.status/\(dst s g us).value=s.value/\(dst s g us).stack=s.stack/\(dst s g us).n=s.n/\(dst s g us).items=s.items:=by
 unfold dst;split<;>exact⟨rfl,rfl,rfl,rfl,rfl,rfl⟩
theorem T2(s:St)(g:List Int)(us:List AU):(put s g us).2.u=s.u/\(put s g us).2.status=s.status/\(put s g us).2.value=s.value/\(put s g us).2.stack=s.stack/\(put s g us).2.n=s.n:=by
 obtain⟨h1,h2,h3,h4,h5,_⟩:=Fp s g us;unfold put;dsimp only;split<;>exact⟨h1,h2,h3,h4,h5⟩
theorem Tg{K:Nat}{s:St}(h:Inv s){g:List Int}{us:List AU}(hp:gz K s g us)(hs:nm s g us)(h0:dc g≠0):ky (dst s g us) (kP s g us):=by
 obtain⟨h1,h2,h3,h4,h5,_⟩:=Fp s g us;refine⟨yE hp,by rw[h5];exact fb,fun j hj=>?_,fun j hj hst=>?_,NV hp.gl h0⟩
 . rw[h5]at hj⊢;rw[h1];exact Kj h hp hs j hj
 . rw[h5]at hj;rw[h2]at hst;show vf (vec s.n fun j=>vf g j/dv g) j=0;rw[dJ hj,hs.nf j hj hst];simp
theorem Inv.put{K:Nat}{s:St}(h:Inv s){g:List Int}{us:List AU}(hp:gz K s g us)(hs:nm s g us):Inv (put s g us).2:=by
 unfold D.put;dsimp only;split
 . rename_i h0;exact(h.dst hp).add (Tg h hp hs h0)
 . exact h.dst hp
theorem xa{s s':St}(hn:s'.n=s.n){e:List AQ}(he:s'.known=s.known++e){x:AI}(hx:x.pos<s.known.length){y:Nat->Int}:IH s' y x↔IH s y x:=by
 unfold IH;rw[hn,he,iz hx]
theorem NP{K:Nat}{s:St}(h:Inv s){g:List Int}{us:List AU}(hp:gz K s g us)(hs:nm s g us)(hok:(put s g us).1=true){y:Nat->Int}(hy:∀z∈(put s g us).2.items,IH (put s g us).2 y z):
 (∀z∈s.items,IH s y z)/\bE (vf g) y s.n<=fW s.known us:=by
 obtain⟨e,he,_⟩:=Hx s g us;obtain⟨f1,f2,f3,f4,f5,f6⟩:=Fp s g us;have hd:=qh g;have hb:=LF hp;by_cases h0:dc g≠0
 . have e2:(D.put s g us).2=add (dst s g us) (kP s g us):=by unfold D.put;dsimp only;rw[if_pos h0]
   rw[e2]at hy;obtain⟨h1,h2⟩:=Ba (s:=dst s g us) hy;rw[f6]at h1;refine⟨fun z hz=>(xa f5 he (h.it z hz).1).1 (h1 z hz),?_⟩;unfold IH at h2;rw[f5]at h2;have h3:bE (vf g) y s.n=dv g*bE (vf (kP s g us).g) y s.n:=by
    rw[<-sf];refine eF (fun j hj=>?_) fun _ _=>rfl;rw[fF];exact(Cv hp.gl hj).symm
   rw[show(aI (dst s g us).known (kP s g us).pos).b=fW s.known us/dv g from hb]at h2;have h4:=gg h2 (eb hd);have h5:=Int.mul_ediv_self_le (x:=fW s.known us) (k:=dv g) (by omega);omega
 . have e2:(D.put s g us).2=dst s g us:=by unfold D.put;dsimp only;rw[if_neg h0]
   rw[e2,f6]at hy;refine⟨fun z hz=>(xa f5 he (h.it z hz).1).1 (hy z hz),?_⟩;have h0:=tj.1 h0;have hz:=KD h0;rw[sy fun j hj=>hz _ (gh (by rw[hp.gl];exact hj))];have:mH s g us=true:=hok;unfold mH at this;rw[hb]at this;have hd1:dv g=1:=by unfold dv;rw[if_pos h0]
   rw[hd1,Int.ediv_one]at this;simpa[h0]using this
theorem Pc{K:Nat}{s:St}(h:Inv s){g:List Int}{us:List AU}(hp:gz K s g us)(hs:nm s g us)(hok:(put s g us).1=false):∃q∈(put s g us).2.known,(∀j,j<s.n->vf q.c j=0)/\q.b<0:=by
 have hk:mH s g us=false:=hok;unfold mH at hk;simp only[FY,decide_eq_false_iff_not,ne_eq,tj,Int.not_le]at hk;obtain⟨h0,hb⟩:=hk;have e2:(D.put s g us).2=dst s g us:=by unfold D.put;dsimp only;rw[if_neg (by simpa using h0)]
 rw[e2];refine⟨_,eK (yE hp),fun j hj=>?_,hb⟩;obtain⟨w,hw⟩:=h.kd;rw[AK hw hj];refine sy fun i hi=>?_;rw[<-Kj h hp hs i hi];show vf (vec s.n fun j=>vf g j/dv g) i=0;rw[dJ hi,KD h0 _ (gh (by rw[hp.gl];exact hi))];simp
open Go Go.X
structure pT (n:Nat)(R:List Int->List Int)(T T':Nat->Nat->Int)(st:Nat->Int):Prop where
 len:∀l,l.length=n->(R l).length=n
 row:∀l,l.length=n->∀j,j<n->vf (R l) j=bE (vf l) (fun k=>T k j) n
 one:∀i,i<n->∀k,k<n->bE (T i) (fun j=>T' j k) n=if i=k then 1 else 0
 two:∀i,i<n->∀k,k<n->bE (T' i) (fun j=>T j k) n=if i=k then 1 else 0
 nf:∀j,j<n->st j≠0->∀k,k<n->T k j=(if k=j then 1 else 0)/\T j k=(if k=j then 1 else 0)
theorem Pp{c:Nat->Int}{n k:Nat}(hk:k<n):bE (fun i=>if i=k then 1 else 0) c n=c k:=by
 rw[pA,oN hk]
theorem K9{c:Nat->Int}{n k:Nat}(hk:k<n):bE c (fun i=>if k=i then 1 else 0) n=c k:=by
 rw[<-oN (c:=c) hk];exact eF (fun _ _=>rfl) fun j _=>by by_cases e:k=j<;>simp[e,eq_comm]
def gR(s:St)(R:List Int->List Int):St:={s with u:=s.u.map R,items:=s.items.map fun x=>{x with g:=R x.g}}
section
variable {s:St} {R:List Int->List Int} {T T':Nat->Nat->Int}
theorem xz(h:Inv s)(b:pT s.n R T T' (vf s.status)){i j:Nat}(hi:i<s.n)(hj:j<s.n):mx (gR s R).u i j=bE (mx s.u i) (fun k=>T k j) s.n:=by
 have hl:i<s.u.length:=by rw[h.ul.1];exact hi
 unfold mx;have e:(gR s R).u.getD i []=R (s.u.getD i []):=by
  show(s.u.map R).getD i []=_;rw[cy,cy,gM,bV hl];rfl
 rw[e];refine b.row _ ?_ j hj;rw[cy,bV hl];exact h.ul.2 _ (du hl)
theorem Hj(h:Inv s)(b:pT s.n R T T' (vf s.status)){c:List Int}{j:Nat}(hj:j<s.n):cu (gR s R).u s.n c j=bE (cu s.u s.n c) (fun k=>T k j) s.n:=by
 unfold cu;rw[eF (f':=vf c) (g':=fun i=>bE (mx s.u i) (fun k=>T k j) s.n) (fun _ _=>rfl) fun i hi=>xz h b hi hj];exact mo
theorem DL(b:pT s.n R T T' (vf s.status)){f:Nat->Int}{j:Nat}(hj:j<s.n)(hst:vf s.status j≠0):bE f (fun k=>T k j) s.n=f j:=by
 rw[eF (f:=f) (f':=f) (g':=fun k=>if k=j then 1 else 0) (fun _ _=>rfl) fun k hk=>(b.nf j hj hst k hk).1];exact oN hj
theorem CZ(b:pT s.n R T T' (vf s.status)){l:List Int}(hl:l.length=s.n){k:Nat}(hk:k<s.n):vf l k=bE (vf (R l)) (fun j=>T' j k) s.n:=by
 rw[eF (f':=fun j=>bE (vf l) (fun m=>T m j) s.n) (g':=fun j=>T' j k) (fun j hj=>b.row l hl j hj) fun _ _=>rfl];have:bE (fun j=>bE (vf l) (fun m=>T m j) s.n) (fun j=>T' j k) s.n=bE (vf l) (fun m=>bE (T m) (fun j=>T' j k) s.n) s.n:=mo.symm;rw[this,eF (f:=vf l) (f':=vf l) (g':=fun m=>if m=k then 1 else 0) (fun _ _=>rfl) fun m hm=>b.one m hm k hk,oN hk]
theorem Inv.ch(h:Inv s)(b:pT s.n R T T' (vf s.status)):Inv (gR s R)where
 ul:=⟨by show(s.u.map R).length=_;rw[cN];exact h.ul.1,fun r hr=>by
  obtain⟨l,hl,rfl⟩:=dL.1 hr;exact b.len l (h.ul.2 l hl)⟩
 fV:=h.fV
 vl:=h.vl
 kl:=h.kl
 it x hx:=by
  obtain⟨z,hz,rfl⟩:=dL.1 hx;exact⟨(h.it z hz).1,b.len _ (h.it z hz).2⟩
 df x hx j hj:=by
  obtain⟨z,hz,rfl⟩:=dL.1 hx;show vf (R z.g) j=cu (gR s R).u s.n (aI s.known z.pos).c j;rw[Hj h b hj,b.row z.g (h.it z hz).2 j hj];exact eF (h.df z hz) fun _ _=>rfl
 nf x hx j hj hst:=by
  obtain⟨z,hz,rfl⟩:=dL.1 hx;show vf (R z.g) j=0;rw[b.row z.g (h.it z hz).2 j hj,DL b hj hst];exact h.nf z hz j hj hst
 gG x hx:=by
  obtain⟨z,hz,rfl⟩:=dL.1 hx;have h1:=h.gG z hz;have hzl:=(h.it z hz).2;have h2:((dc (R z.g):Nat):Int)∣((dc z.g:Nat):Int):=oR fun v hv=>by
   obtain⟨k,hk,rfl⟩:=gB hv;rw[CZ b hzl (by omega)];exact DT fun j hj=>rH (gh (by rw[b.len _ hzl];exact hj))
  rw[h1]at h2;exact Gg (MV.1 h2)
 j6:=by
  show(s.items.map _).Pairwise _;rw[Gh];refine MW (fun{x y} hx hy hne e=>hne ?_) h.j6;have e:R x.g=R y.g:=e;have hxl:=(h.it x hx).2;have hyl:=(h.it y hy).2;refine ma (hxl.trans hyl.symm) fun k hk=>?_;rw[CZ b hxl (by omega),CZ b hyl (by omega),e]
 kd:=by
  obtain⟨w,hw⟩:=h.kd;refine⟨fun j k=>bE (T' j) (fun m=>w m k) s.n,fun i hi k hk=>?_,fun i hi k hk=>?_⟩
  . show bE (mx (gR s R).u i) (fun j=>bE (T' j) (fun m=>w m k) s.n) s.n=_;rw[mo];rw[eF (f':=mx s.u i) (g':=fun m=>w m k) (fun m hm=>?_) fun _ _=>rfl]
    . exact hw.1 i hi k hk
    . rw[eF (f':=fun j=>bE (mx s.u i) (fun k=>T k j) s.n) (g':=fun j=>T' j m) (fun j hj=>xz h b hi hj) fun _ _=>rfl];have:bE (fun j=>bE (mx s.u i) (fun k=>T k j) s.n) (fun j=>T' j m) s.n=bE (mx s.u i) (fun r=>bE (T r) (fun j=>T' j m) s.n) s.n:=mo.symm;rw[this,eF (f:=mx s.u i) (f':=mx s.u i) (g':=fun r=>if r=m then 1 else 0) (fun _ _=>rfl) fun r hr=>b.one r hr m hm,oN hm]
  . show bE (fun k'=>bE (T' i) (fun m=>w m k') s.n) (fun j=>mx (gR s R).u j k) s.n=_;rw[eF (f:=fun k'=>bE (T' i) (fun m=>w m k') s.n) (f':=fun k'=>bE (T' i) (fun m=>w m k') s.n) (g':=fun j=>bE (mx s.u j) (fun r=>T r k) s.n) (fun _ _=>rfl) fun j hj=>xz h b hj hk];rw[mo];rw[eF (f':=T' i) (g':=fun r=>T r k) (fun r hr=>?_) fun _ _=>rfl]
    . exact b.two i hi k hk
    . have:bE (fun k'=>bE (T' i) (fun m=>w m k') s.n) (fun j=>mx s.u j r) s.n=bE (T' i) (fun m=>bE (w m) (fun j=>mx s.u j r) s.n) s.n:=mo.symm;rw[this,eF (f:=T' i) (f':=T' i) (g':=fun m=>if m=r then 1 else 0) (fun _ _=>rfl) fun m hm=>hw.2 m hm r hr,oN hr]
 stat:=h.stat
 sv:=h.sv
 s2:=h.s2
 sd:=by
  refine MW (fun{a e} ha he hae=>⟨hae.1,fun p hp=>?_⟩) h.sd;obtain⟨a1,a2,_⟩:=h.sv a ha;show cu (gR s R).u s.n (aI s.known p).c a.v=0;rw[Hj h b a1,DL b a1 (by omega)];exact hae.2 p hp
theorem gN.ch(h:Inv s)(b:pT s.n R T T' (vf s.status)):gN s (gR s R):=by
 refine⟨rfl,⟨[],by simp[gR]⟩,⟨[],by simp[gR]⟩,fun j hj hst=>⟨rfl,fun _=>rfl,fun i hi=>?_⟩,fun y'=>?_⟩
 . rw[xz h b hi hj,DL b hj hst]
 . have hux:∀i,i<s.n->ux (gR s R) y' i=ux s (fun k=>bE (T k) y' s.n) i:=fun i hi=>by
    unfold ux;show bE (mx (gR s R).u i) y' s.n=_;rw[eF (f':=fun j=>bE (mx s.u i) (fun k=>T k j) s.n) (g':=y') (fun j hj=>xz h b hi hj) fun _ _=>rfl];exact mo.symm
   have hnf:∀j,j<s.n->vf s.status j≠0->bE (T j) y' s.n=y' j:=fun j hj hst=>by
    rw[eF (f':=fun k=>if k=j then 1 else 0) (g':=y') (fun k hk=>(b.nf j hj hst k hk).2) fun _ _=>rfl];exact Pp hj
   refine⟨fun k=>bE (T k) y' s.n,hux,hnf,fun k hk ⟨h1,h2,h3⟩=>⟨fun j hj hst=>?_,fun x hx=>?_,fun e he p hp=>?_⟩⟩
   . show bE (T j) y' s.n=_;rw[hnf j hj (by omega)];exact h1 j hj hst
   . have:=h2 {x with g:=R x.g} (dL.2 ⟨x,hx,rfl⟩);unfold IH at this⊢;have e:bE (vf (R x.g)) y' s.n=bE (vf x.g) (fun k=>bE (T k) y' s.n) s.n:=by
      rw[eF (f':=fun j=>bE (vf x.g) (fun k=>T k j) s.n) (g':=y') (fun j hj=>b.row x.g (h.it x hx).2 j hj) fun _ _=>rfl];exact mo.symm
     rw[<-e];exact this
   . have:=h3 e he p hp;unfold hx at this⊢;show bE (vf (aI s.known p).c) _ s.n<=_;rw[eF (f:=vf (aI s.known p).c) (f':=vf (aI s.known p).c) (g:=ux s fun k=>bE (T k) y' s.n) (g':=ux (gR s R) y') (fun _ _=>rfl) fun i hi=>(hux i hi).symm];exact this
end
theorem SO{f g:Nat->Int}{p k n:Nat}(hp:p<n)(hk:k<n)(hne:k≠p)(h:∀j,j<n->j≠p->j≠k->f j=0):bE f g n=f k*g k+f p*g p:=by
 have h1:=u6 (f:=fun j=>if j=k then f j else 0) (h:=fun j=>if j=p then f j else 0) (g:=g) (k:=1) n;rw[pO (f:=fun j=>if j=k then f j else 0) hk fun j _ hj=>if_neg hj,pO (f:=fun j=>if j=p then f j else 0) hp fun j _ hj=>if_neg hj]at h1;simp only[if_true]at h1;rw[eF (f':=fun j=>(if j=k then f j else 0)+1*(if j=p then f j else 0)) (g':=g) (fun j hj=>?_) fun _ _=>rfl,h1]
 . omega
 . by_cases e1:j=k
   . subst e1;rw[if_pos rfl,if_neg hne];omega
   . by_cases e2:j=p
     . subst e2;rw[if_neg e1,if_pos rfl];omega
     . rw[if_neg e1,if_neg e2,h j hj e2 e1];omega
def rT(p:Nat)(q:Nat->Int)(k j:Nat):Int:=if k=j then 1 else if k=p then-q j else 0
theorem GM{p:Nat}{q:Nat->Int}{n j:Nat}{f:Nat->Int}(hp:p<n)(hj:j<n):bE f (fun k=>rT p q k j) n=if j=p then f j else f j-q j*f p:=by
 rw[pA];by_cases e:j=p
 . subst e;rw[if_pos rfl,pO hj fun i _ hi=>by unfold rT;rw[if_neg hi,if_neg hi]];unfold rT;rw[if_pos rfl];omega
 . rw[if_neg e,SO hp hj e fun i _ h1 h2=>by unfold rT;rw[if_neg h2,if_neg h1]];unfold rT;rw[if_pos rfl,if_neg (by omega),if_pos rfl];grind
theorem LG{p:Nat}{q:Nat->Int}{n i k:Nat}(hp:p<n)(hi:i<n)(hk:k<n):bE (rT p q i) (fun j=>rT p (fun j=>-q j) j k) n=if i=k then 1 else 0:=by
 rw[GM hp hk];by_cases e:k=p
 . subst e;rw[if_pos rfl];unfold rT;by_cases e2:i=k
   . rw[if_pos e2,if_pos e2]
   . rw[if_neg e2,if_neg e2,if_neg e2]
 . rw[if_neg e];unfold rT;by_cases e2:i=k
   . subst e2;rw[if_pos rfl,if_neg e,if_neg e];simp
   . rw[if_neg e2];by_cases e3:i=p
     . subst e3;rw[if_pos rfl,if_pos rfl,if_neg e2];omega
     . rw[if_neg e3,if_neg e3,if_neg e3,if_neg e2];simp
theorem QV{s:St}{a:List Int}{p:Nat}(hp:p<s.n)(hps:vf s.status p=0)(ha:∀j,j<s.n->vf s.status j≠0->vf a j=0):
 pT s.n (bW a p s.n) (rT p fun j=>(vf a j).fdiv (vf a p)) (rT p fun j=>-(vf a j).fdiv (vf a p)) (vf s.status)where
 len l hl:=o5.trans hl
 row l hl j hj:=by
  rw[GM hp hj];unfold bW;rw[dJ (by omega)];by_cases e:j=p
  . rw[if_neg (by omega),if_pos e]
  . rw[if_pos ⟨hj,e⟩,if_neg e]
 one i hi k hk:=LG hp hi hk
 two i hi k hk:=by
  have:=LG (q:=fun j=>-(vf a j).fdiv (vf a p)) hp hi hk;rw[<-this];refine eF (fun _ _=>rfl) fun j _=>?_;unfold rT;simp
 nf j hj hst k hk:=by
  have hjp:j≠p:=fun e=>hst (e▸hps);have h0:=ha j hj hst;unfold rT;constructor
  . by_cases e:k=j
    . rw[if_pos e,if_pos e]
    . rw[if_neg e,if_neg e];dsimp only;rw[h0,yu];simp
  . by_cases e:k=j
    . rw[if_pos e.symm,if_pos e]
    . rw[if_neg (fun h=>e h.symm),if_neg hjp,if_neg e]
theorem SJ(s:St)(a:List Int)(p:Nat):fm s a p s.n=gR s (bW a p s.n):=rfl
def fT(p k j:Nat):Int:=if k=j then(if k=p then-1 else 1)else 0
theorem Ig{p n j:Nat}{f:Nat->Int}(hj:j<n):bE f (fun k=>fT p k j) n=if j=p then-f j else f j:=by
 rw[pA,pO hj fun i _ hi=>by unfold fT;rw[if_neg hi]];unfold fT;rw[if_pos rfl];split<;>omega
theorem Lw{p n i k:Nat}(hi:i<n)(hk:k<n):bE (fT p i) (fun j=>fT p j k) n=if i=k then 1 else 0:=by
 rw[Ig hk];unfold fT;by_cases e:i=k
 . subst e;by_cases e2:i=p
   . simp[e2]
   . simp[e2]
 . simp[e]
theorem Nj{s:St}{p:Nat}(hp:p<s.n)(hps:vf s.status p=0):pT s.n (fun l=>l.set p (-vf l p)) (fT p) (fT p) (vf s.status)where
 len l hl:=by rw[iP];exact hl
 row l hl j hj:=by
  rw[Ig hj,jM (by omega)];by_cases e:p=j
  . subst e;simp
  . rw[if_neg e,if_neg fun h=>e h.symm]
 one i hi k hk:=Lw hi hk
 two i hi k hk:=Lw hi hk
 nf j hj hst k hk:=by
  have hjp:j≠p:=fun e=>hst (e▸hps);unfold fT;constructor
  . by_cases e:k=j
    . subst e;rw[if_pos rfl,if_neg hjp,if_pos rfl]
    . rw[if_neg e,if_neg e]
  . by_cases e:k=j
    . rw[if_pos e.symm,if_neg hjp,if_pos e]
    . rw[if_neg (fun h=>e h.symm),if_neg e]
theorem QK(s:St)(p:Nat):flS s p=gR s fun l=>l.set p (-vf l p):=rfl
open Go Go.X
theorem vP{p m M:Int}(hp:0<p)(h1:p*m<=p*M)(h2:-(p*M)<=p*m):-M<=m/\m<=M:=by
 refine⟨?_,Gi h1 hp⟩;refine Gi (a:=p) ?_ hp;rw[nj];exact h2
theorem LC{p m m' u v U V A B M:Int}(hp:0<p)(e':p*m'=u*A-v*B)(e:p*m=U*A-V*B)(u0:0<=u)(uU:u<=U)(v0:0<=v)(vV:v<=V)(up:u<=p)(vp:v<=p)
 (hA:-M<=A/\A<=M)(hB:-M<=B/\B<=M)(hm:-M<=m/\m<=M):-M<=m'/\m'<=M:=by
 have M0:0<=M:=by omega
 have hpm1:=gg hm.2 (eb hp);have hpm2:=gg hm.1 (eb hp);rw[nj]at hpm2;have upM:u*M<=p*M:=fj up M0;have vpM:v*M<=p*M:=fj vp M0;rcases vN 0 A with a|a<;>rcases vN 0 B with b|b
 . have h1:=gg hA.2 u0;have h2:=gg hB.2 v0;have h3:=eH u0 a;have h4:=eH v0 b;exact vP hp (by omega) (by omega)
 . have h1:=fj uU a;have h2:=fj vV (show 0≤-B by omega);have h3:=eH u0 a;have h4:=eH v0 (show 0≤-B by omega);rw[nj]at h2 h4;rw[nj]at h2;exact vP hp (by omega) (by omega)
 . have h1:=fj uU (show 0≤-A by omega);have h2:=fj vV b;have h3:=eH u0 (show 0≤-A by omega);have h4:=eH v0 b;rw[nj]at h1 h3;rw[nj]at h1;exact vP hp (by omega) (by omega)
 . have h1:=gg (show-A<=M by omega) u0;have h2:=gg (show-B<=M by omega) v0;have h3:=eH u0 (show 0≤-A by omega);have h4:=eH v0 (show 0≤-B by omega);rw[nj]at h1 h2 h3 h4;exact vP hp (by omega) (by omega)
theorem H4{p m' u v A B M:Int}(hp:0<p)(e':p*m'=u*A-v*B)(hu:-p<=u/\u<=p)(hv:-p<=v/\v<=p)(hA:-M<=A/\A<=M)(hB:-M<=B/\B<=M):-(2*M)<=m'/\m'<=2*M:=by
 have key:∀{x y:Int},-p<=x->x<=p→-M<=y->y<=M→-(p*M)<=x*y/\x*y<=p*M:=by
  intro x y h1 h2 h3 h4;have M0:0<=M:=by omega
  rcases vN 0 x with a|a<;>rcases vN 0 y with b|b
  . have g1:=ni h2 h4 b (by omega);have g2:=eH a b;have g3:=eH (eb hp) M0;omega
  . have g1:=ni h2 (show-y<=M by omega) (by omega) (by omega);have g2:=eH a (show 0≤-y by omega);rw[nj]at g1 g2;have g3:=eH (eb hp) M0;omega
  . have g1:=ni (show-x<=p by omega) h4 b (by omega);have g2:=eH (show 0≤-x by omega) b;rw[lE]at g1 g2;have g3:=eH (eb hp) M0;omega
  . have g1:=ni (show-x<=p by omega) (show-y<=M by omega) (by omega) (by omega);have g2:=eH (show 0≤-x by omega) (show 0≤-y by omega);rw[Int.neg_mul_neg]at g1 g2;have g3:=eH (eb hp) M0;omega
 have h1:=key hu.1 hu.2 hA.1 hA.2;have h2:=key hv.1 hv.2 hB.1 hB.2;have e3:p*(2*M)=2*(p*M):=by grind
 exact vP hp (by omega) (by omega)
def Mi(a x:List Int)(j k:Nat):Int:=vf a j*vf x k-vf a k*vf x j
def MB(n:Nat)(a x:List Int)(M:Int):Prop:=∀j,j<n->∀k,k<n→-M<=Mi a x j k/\Mi a x j k<=M
def SG(n:Nat)(a:List Int):Prop:=(∀j,j<n->0<=vf a j)\/∀j,j<n->vf a j<=0
theorem p5{a p:Int}(hp:0<p):0<=a-a.fdiv p*p/\a-a.fdiv p*p<p:=by
 have h1:=Gd a p;have h2:=Int.fmod_nonneg_of_pos a hp;have h3:=Int.fmod_lt_of_pos a hp;rw[fF]at h1;omega
theorem Sr{a p:Int}(hp:p<0):a-a.fdiv p*p<=0/\p<a-a.fdiv p*p:=by
 have h:=p5 (a:=-a) (p:=-p) (by omega);rw[Gc,nj]at h;omega
section
variable {n p:Nat} {a x:List Int}
theorem mu(hp:p<n)(hl:x.length=n):vf (bW a p n x) p=vf x p:=by unfold bW;rw[dJ (by omega),if_neg (by omega)]
theorem nL{j:Nat}(hj:j<n)(hl:x.length=n)(hjp:j≠p):vf (bW a p n x) j=vf x j-(vf a j).fdiv (vf a p)*vf x p:=by unfold bW;rw[dJ (by omega),if_pos ⟨hj,hjp⟩]
theorem od(hp:ri a p)(hl:a.length=n){j:Nat}(hj:j<n)(hjp:j≠p):(vf (bW a p n a) j).natAbs<(vf a p).natAbs/\(0<vf a p->0<=vf (bW a p n a) j)/\(vf a p<0->vf (bW a p n a) j<=0):=by
 rw[nL hj hl hjp];have h0:=hp.2.1;rcases tm h0 with h|h
 . have:=Sr (a:=vf a j) h;omega
 . have:=p5 (a:=vf a j) h;omega
theorem Lx{j k:Nat}(hp:p<n)(ha:a.length=n)(hx:x.length=n)(hj:j<n)(hk:k<n)(hjp:j≠p)(hkp:k≠p):
 vf a p*Mi (bW a p n a) (bW a p n x) j k=vf (bW a p n a) j*Mi a x p k-vf (bW a p n a) k*Mi a x p j:=by
 unfold Mi;rw[nL hj ha hjp,nL hk ha hkp,nL hj hx hjp,nL hk hx hkp];generalize(vf a j).fdiv (vf a p)=q;generalize(vf a k).fdiv (vf a p)=r;grind
theorem RL{j k:Nat}:vf a p*Mi a x j k=vf a j*Mi a x p k-vf a k*Mi a x p j:=by unfold Mi;grind
theorem wM{k:Nat}(hp:p<n)(ha:a.length=n)(hx:x.length=n)(hk:k<n):Mi (bW a p n a) (bW a p n x) p k=Mi a x p k:=by
 unfold Mi;rw[mu hp ha,mu hp hx];by_cases e:k=p
 . subst e;rw[mu hk ha,mu hk hx]
 . rw[nL hk ha e,nL hk hx e];grind
theorem LH{j k:Nat}:Mi a x j k=-Mi a x k j:=by unfold Mi;omega
theorem Og{M:Int}(hM:0<=M)(hp:ri a p)(ha:a.length=n)(hx:x.length=n)(h:MB n a x M):MB n (bW a p n a) (bW a p n x) (2*M):=by
 have hpn:p<n:=by have:=hp.1;omega
 intro j hj k hk;by_cases e:j=p
 . subst e;rw[wM hj ha hx hk];have:=h j hj k hk;omega
 by_cases e2:k=p
 . subst e2;rw[LH,wM hk ha hx hj];have:=h k hk j hj;omega
 have h1:=Lx hpn ha hx hj hk e e2;have hA:=h p hpn k hk;have hB:=h p hpn j hj;have sj:=(od hp ha hj e).1;have sk:=(od hp ha hk e2).1;rcases tm hp.2.1 with h0|h0
 . refine H4 (p:=-vf a p) (u:=-vf (bW a p n a) j) (v:=-vf (bW a p n a) k) (A:=Mi a x p k) (B:=Mi a x p j) (by omega) ?_ (by omega) (by omega) hA hB;rw[lE,lE,lE,h1];omega
 . exact H4 (p:=vf a p) h0 h1 (by omega) (by omega) hA hB
theorem Pj{M:Int}(hp:ri a p)(hs:SG n a)(ha:a.length=n)(hx:x.length=n)(h:MB n a x M):MB n (bW a p n a) (bW a p n x) M:=by
 have hpn:p<n:=by have:=hp.1;omega
 intro j hj k hk;by_cases e:j=p
 . subst e;rw[wM hj ha hx hk];exact h j hj k hk
 by_cases e2:k=p
 . subst e2;rw[LH,wM hk ha hx hj];have:=h k hk j hj;omega
 have h1:=Lx hpn ha hx hj hk e e2;have h2:=RL (a:=a) (x:=x) (p:=p) (j:=j) (k:=k);have hA:=h p hpn k hk;have hB:=h p hpn j hj;have hm:=h j hj k hk;obtain⟨sj,sj1,sj2⟩:=od hp ha hj e;obtain⟨sk,sk1,sk2⟩:=od hp ha hk e2;have pj:=hp.2.2 j (by omega);have pk:=hp.2.2 k (by omega);have zj:vf a j=0->vf (bW a p n a) j=0:=fun z=>by rw[nL hj ha e,z,yu];omega
 have zk:vf a k=0->vf (bW a p n a) k=0:=fun z=>by rw[nL hk ha e2,z,yu];omega
 rcases tm hp.2.1 with h0|h0
 . have hs':∀j,j<n->vf a j<=0:=by
    rcases hs with hs|hs
    . have:=hs p hpn;omega
    . exact hs
   have hj':=hs' j hj;have hk':=hs' k hk;refine LC (p:=-vf a p) (m:=Mi a x j k) (u:=-vf (bW a p n a) j) (v:=-vf (bW a p n a) k) (U:=-vf a j) (V:=-vf a k) (A:=Mi a x p k) (B:=Mi a x p j) (by omega) ?_ ?_ ?_ ?_ ?_ ?_ ?_ ?_ hA hB hm
   . rw[lE,lE,lE,h1];omega
   . rw[lE,lE,lE,h2];omega
   . have:=sj2 h0;omega
   . by_cases z:vf a j=0
     . have:=zj z;omega
     . have:=pj z;omega
   . have:=sk2 h0;omega
   . by_cases z:vf a k=0
     . have:=zk z;omega
     . have:=pk z;omega
   . omega
   . omega
 . have hs':∀j,j<n->0<=vf a j:=by
    rcases hs with hs|hs
    . exact hs
    . have:=hs p hpn;omega
   have hj':=hs' j hj;have hk':=hs' k hk;refine LC (p:=vf a p) (m:=Mi a x j k) (u:=vf (bW a p n a) j) (v:=vf (bW a p n a) k) (U:=vf a j) (V:=vf a k) (A:=Mi a x p k) (B:=Mi a x p j) h0 h1 h2 (sj1 h0) ?_ (sk1 h0) ?_ ?_ ?_ hA hB hm
   . by_cases z:vf a j=0
     . have:=zj z;omega
     . have:=pj z;omega
   . by_cases z:vf a k=0
     . have:=zk z;omega
     . have:=pk z;omega
   . omega
   . omega
theorem Qt(hp:ri a p)(ha:a.length=n):SG n (bW a p n a):=by
 have hpn:p<n:=by have:=hp.1;omega
 rcases tm hp.2.1 with h0|h0
 . refine .inr fun j hj=>?_;by_cases e:j=p
   . subst e;rw[mu hj ha];omega
   . exact(od hp ha hj e).2.2 h0
 . refine .inl fun j hj=>?_;by_cases e:j=p
   . subst e;rw[mu hj ha];omega
   . exact(od hp ha hj e).2.1 h0
theorem Ui{M X:Nat}(hp:ri a p)(ha:a.length=n)(hx:x.length=n)(h:MB n a x M)(hX:∀j,j<n->(vf x j).natAbs<=X):∀j,j<n->(vf (bW a p n x) j).natAbs<=M+X:=by
 have hpn:p<n:=by have:=hp.1;omega
 intro j hj;by_cases e:j=p
 . subst e;rw[mu hj hx];have:=hX j hj;omega
 have h1:=wM (k:=j) hpn ha hx hj;have h2:=h p hpn j hj;have hs:=(od hp ha hj e).1;have hxp:=hX p hpn;unfold Mi at h1;rw[mu hpn ha,mu hpn hx]at h1;have h3:vf a p*vf (bW a p n x) j=Mi a x p j+vf (bW a p n a) j*vf x p:=by unfold Mi;omega
 have h4:(vf a p).natAbs*(vf (bW a p n x) j).natAbs<=M+(vf a p).natAbs*X:=by
  rw[<-yt,h3];have g1:(vf (bW a p n a) j*vf x p).natAbs<=(vf a p).natAbs*X:=by
   rw[yt];exact iO (by omega) hxp
  omega
 have hpos:0<(vf a p).natAbs:=by have:=hp.2.1;omega
 have h5:(vf a p).natAbs*(vf (bW a p n x) j).natAbs<=(vf a p).natAbs*(M+X):=by
  rw[Nat.mul_add];have:1*M<=(vf a p).natAbs*M:=sZ _ hpos;omega
 exact Nat.le_of_mul_le_mul_left h5 hpos
end
def jN(a:List Int):Nat->Nat
 |0=>0
 |n+1=>jN a n+(vf a n).natAbs
theorem JK{a b:List Int}:∀{n:Nat},(∀j,j<n->(vf a j).natAbs<=(vf b j).natAbs)->jN a n<=jN b n
 |0,_=>bI _
 |n+1,h=>by
  have:=JK (n:=n) fun j hj=>h j (by omega);have:=h n (by omega);simp only[jN];omega
theorem KZ{a b:List Int}{k:Nat}:∀{n:Nat},k<n->(∀j,j<n->(vf a j).natAbs<=(vf b j).natAbs)->(vf a k).natAbs<(vf b k).natAbs->jN a n<jN b n
 |n+1,hk,h,hlt=>by
  simp only[jN];by_cases e:k=n
  . subst e;have:=JK (n:=k) fun j hj=>h j (by omega);omega
  . have:=KZ (n:=n) (by omega) (fun j hj=>h j (by omega)) hlt;have:=h n (by omega);omega
theorem KL{a:List Int}{C:Nat}:∀{n:Nat},(∀j,j<n->(vf a j).natAbs<=C)->jN a n<=n*C
 |0,_=>by simp[jN]
 |n+1,h=>by
  have:=KL (n:=n) fun j hj=>h j (by omega);have:=h n (by omega);simp only[jN];rw[gL];omega
theorem PM{a:List Int}{n p:Nat}(hp:ri a p)(ha:a.length=n){k:Nat}(hk:k<n)(hkp:k≠p)(hk0:vf a k≠0):jN (bW a p n a) n<jN a n:=by
 have hpn:p<n:=by have:=hp.1;omega
 have key:∀j,j<n->(vf (bW a p n a) j).natAbs<=(vf a j).natAbs:=fun j hj=>by
  by_cases e:j=p
  . subst e;rw[mu hj ha];exact bI _
  . by_cases z:vf a j=0
    . rw[nL hj ha e,z,yu];simp
    . have:=(od hp ha hj e).1;have:=hp.2.2 j (by omega) z;omega
 exact KZ hk key (by have:=(od hp ha hk hkp).1;have:=hp.2.2 k (by omega) hk0;omega)
open Go Go.X
structure lM (K C:Nat)(s:St)(i p:Nat)(s':St):Prop where
 sim:gN s s'
 inv:Inv s'
 kn:s'.known=s.known
 st:s'.steps=s.steps
 status:s'.status=s.status
 value:s'.value=s.value
 dM:s'.stack=s.stack
 n:s'.n=s.n
 pos:s'.items.map AI.pos=s.items.map AI.pos
 pn:p<s.n
 free:vf s.status p=0
 unit:∀x,s'.items[i]?=some x->∀j,j<s.n->vf x.g j=if j=p then 1 else 0
 co:∀x∈s'.items,∀j,j<s.n->j≠p->(vf x.g j).natAbs<=4*(C*C)
 big:∀x∈s'.items,∀j,j<s.n->(vf x.g j).natAbs<=C+s.n*C*(4*(C*C))
 su:SU (K+9*(s.n*C)) s'
theorem Qe{n C:Nat}{a x:List Int}(ha:∀j,j<n->(vf a j).natAbs<=C)(hx:∀j,j<n->(vf x j).natAbs<=C):MB n a x ((2*(C*C):Nat):Int):=by
 intro j hj k hk;have key:∀{y z:Int},y.natAbs<=C->z.natAbs<=C->(y*z).natAbs<=C*C:=fun h1 h2=>by rw[yt];exact iO h1 h2
 have h1:=key (ha j hj) (hx k hk);have h2:=key (ha k hk) (hx j hj);unfold Mi;omega
structure IsoI (K C:Nat)(s:St)(i:Nat)(μ0:Nat)(g:St):Prop where
 sim:gN s g
 inv:Inv g
 kn:g.known=s.known
 st:g.steps=s.steps
 status:g.status=s.status
 value:g.value=s.value
 dM:g.stack=s.stack
 n:g.n=s.n
 pos:g.items.map AI.pos=s.items.map AI.pos
 t:∃t a,(g.items[i]?).map AI.g=some a/\a.length=s.n/\t+jN a s.n<=μ0/\SU (K+9*t) g/\(∀j,j<s.n->(vf a j).natAbs<=C)/\
  (∀x∈g.items,∀j,j<s.n->(vf x.g j).natAbs<=C+t*(4*(C*C)))/\
  ((t=0/\∀x∈g.items,MB s.n a x.g ((2*(C*C):Nat):Int))\/(SG s.n a/\∀x∈g.items,MB s.n a x.g ((4*(C*C):Nat):Int)))
theorem ug{s0 s:St}(h:s0.n=s.n):aR.mk s0.to.n s.to.known s.to.steps s.to.u s.to.status s.to.value s.to.items s.to.stack=s.to:=ir (x:=s.to) (by show(s0.n:Int)=s.n;rw[h])
theorem Rk{K C:Nat}{s:St}{i:Nat}(hI:Inv s)(hu:SU K s)(hn:s.n<=4)(hil:s.items.length<=1073741824)(hi:i<s.items.length)(hC:∀x∈s.items,∀j,j<s.n->(vf x.g j).natAbs<=C)(hCb:C<=4294967296)(hK8:8<=K)(hK:K+9*(s.n*C)+40<=cX):
 Tm (fun N=>vZ N s.to (i:Int)) (fun r=>∃(p:Nat) (s':St),r=((p:Int),s'.to)/\lM K C s i p s'):=by
 have hL:cX=1099511627776:=rfl;unfold vZ;have hC2:C*C<=4294967296*4294967296:=iO hCb hCb;have hnC:s.n*C<=4*4294967296:=iO hn hCb;have hbig:s.n*C*(4*(C*C))<=4*4294967296*(4*(4294967296*4294967296)):=iO hnC (by omega);have ha0:s.items[i]∈s.items:=du hi;refine Tm.bind (Q:=fun r=>∃(p:Nat) (s':St),r=((p:Int),s'.to)/\lM K C s i p s')
  (Tm.wy (fun(g:St) t=>t=ik g/\IsoI K C s i (s.n*C) g) (fun g=>jN (((g.items[i]?).map AI.g).getD []) s.n) s ⟨rfl,gN.refl s,hI,rfl,rfl,rfl,rfl,rfl,rfl,rfl,?_⟩ ?_) fun r hr=>aM hr
 . refine⟨0,(s.items[i]).g,by rw[bV hi];rfl,(hI.it _ ha0).2,?_,hu,hC _ ha0,fun x hx j hj=>by have:=hC x hx j hj;omega,.inl ⟨rfl,fun x hx=>Qe (hC _ ha0) (hC x hx)⟩⟩;have:=KL (a:=(s.items[i]).g) (n:=s.n) (C:=C) (hC _ ha0);omega
 . rintro g _ ⟨rfl,hg⟩;obtain⟨t,a,ea,al,hμ,hsu,hac,hX,hM⟩:=hg.t;have hgl:g.items.length=s.items.length:=by have:=congrArg List.length hg.pos;simpa using this
   have hig:i<g.items.length:=by omega
   have eai:(g.items[i]).g=a:=by rw[bV hig]at ea;exact iN ea
   have hxm:g.items[i]∈g.items:=du hig;have ht:t*(4*(C*C))<=s.n*C*(4*(C*C)):=sZ _ (by omega);have hfit:∀x∈g.items,jJ g.n 8 x.g:=fun x hx=>⟨(hg.inv.it x hx).2,fun v hv=>by
    obtain⟨j,hj,rfl⟩:=gB hv;have h1:=hX x hx j (by rw[(hg.inv.it x hx).2,hg.n]at hj;exact hj);refine bO (ra (k:=4) ?_) (by decide);have:aC^4=340282366920938463463374607431768211456:=by decide
    omega⟩
   have hnz:∃j,j<(g.items[i]).g.length/\vf (g.items[i]).g j≠0:=by
    refine jD fun h=>?_;have h1:=hg.inv.gG _ hxm;have h2:(2:Int)∣((dc (g.items[i]).g:Nat):Int):=oR fun v hv=>by
     obtain⟨j,hj,rfl⟩:=gB hv;have:vf (g.items[i]).g j=0:=jD fun e=>h ⟨j,hj,e⟩;rw[this];exact yv 2
    rw[h1]at h2;omega
   show Tm (fun N=>yQ N s.to (i:Int) (g.to.known,g.to.steps,g.to.u,g.to.status,g.to.value,g.to.items,g.to.stack)) _;unfold yQ;refine aN (a:=(g.items[i]).to) (by show idx (g.items.map AI.to) _=_;rw[dd (by simpa using hig),kM]) ?_;refine Tm.bind (T8 (x:=g.items[i]) (by rw[(hg.inv.it _ hxm).2,hg.n];omega) (fun v hv=>bO ((hfit _ hxm).2 v hv) (by decide)) hnz) ?_;rintro _ ⟨p,rfl,hp⟩;rw[eai]at hp hnz;have hpn:p<s.n:=by have:=hp.1;omega
   have hpg:p<g.n:=by rw[hg.n];exact hpn
   have hfree:vf g.status p=0:=by
    refine jD fun e=>hp.2.1 ?_;rw[<-eai];exact hg.inv.nf _ hxm p hpg e
   have hanf:∀j,j<g.n->vf g.status j≠0->vf a j=0:=fun j hj hst=>by rw[<-eai];exact hg.inv.nf _ hxm j hj hst
   have hr:=RD (s0:=s) (s:=g) (i:=i) (p:=p) hsu (by rw[hg.n];omega) hg.n.symm (by omega) hfit hig hpg (by omega) (by omega) true;rw[eai]at hr;refine Tm.bind hr ?_;rintro _ ⟨c,rfl,hc⟩;dsimp only;rw[SJ]at*;have hb:=QV (s:=g) (a:=a) hpg hfree hanf;have hsim2:=gN.ch hg.inv hb;have hinv2:=Inv.ch hg.inv hb;have hsu2:SU (K+9*(t+1)) (gR g (bW a p g.n)):=by
    refine⟨⟨by show(g.u.map _).length=_;rw[cN];exact hsu.u.1,fun l hl=>?_⟩,hsu.st,⟨hsu.v.1,fun v hv=>by have:=hsu.v.2 v hv;omega⟩⟩;obtain⟨w,hw,rfl⟩:=dL.1 hl;have:=D3 (a:=a) (p:=p) (k:=g.n) (hsu.u.2 w hw) (fun j=>by rw[<-eai];exact(hfit _ hxm).vf j);exact⟨this.1,fun v hv=>by have:=this.2 v hv;omega⟩
   cases c with
   |true=>
    refine cT rfl ?_;have hz:=(hc.1 rfl).2;rw[hg.n]at hz;have hzero:∀j,j<s.n->j≠p->vf a j=0:=hz;have hrow:∀l:List Int,bW a p g.n l=l:=fun l=>by
     refine ma o5 fun j hj=>?_;rw[o5]at hj;unfold bW;rw[dJ hj];split
     . rename_i h;rw[hzero j (by have:=h.1;rw[hg.n]at this;exact this) h.2,yu];omega
     . rfl
    have hsame:gR g (bW a p g.n)=g:=by
     unfold gR;rw[show bW a p g.n=id from funext hrow];simp
    rw[hsame];have hap:(vf a p).natAbs=1:=by
     have h1:=hg.inv.gG _ hxm;rw[eai]at h1;have h2:vf a p∣((dc a:Nat):Int):=oR fun v hv=>by
      obtain⟨j,hj,rfl⟩:=gB hv;by_cases e:j=p
      . subst e;exact Int.dvd_refl _
      . rw[hzero j (by omega) e];exact yv _
     rw[h1]at h2;have:=Int.natAbs_dvd_natAbs.2 h2;exact Gg this
    have hco:∀x∈g.items,∀j,j<s.n->j≠p->(vf x.g j).natAbs<=4*(C*C):=fun x hx j hj hjp=>by
     have hm:-((4*(C*C):Nat):Int)<=Mi a x.g p j/\Mi a x.g p j<=((4*(C*C):Nat):Int):=by
      rcases hM with⟨_,hM⟩|⟨_,hM⟩
      . have:=hM x hx p hpn j hj;omega
      . exact hM x hx p hpn j hj
     unfold Mi at hm;rw[hzero j hj hjp,Int.zero_mul,Gj]at hm;have:(vf a p*vf x.g j).natAbs=(vf x.g j).natAbs:=by rw[yt,hap,yj]
     omega
    have hbg:∀x∈g.items,∀j,j<s.n->(vf x.g j).natAbs<=C+s.n*C*(4*(C*C)):=fun x hx j hj=>by have:=hX x hx j hj;omega
    have hgi:idx (mB (g.items[i]).g) (p:Int)=some (B (vf a p)):=by rw[eai];exact ej (by omega)
    refine aN hgi (aU (jm (bO (j9 (by omega)) (by decide))) ?_);have hsu3:SU (K+9*(s.n*C)) g:=⟨⟨hsu.u.1,fun r hr=>⟨(hsu.u.2 r hr).1,fun v hv=>by have:=(hsu.u.2 r hr).2 v hv;omega⟩⟩,hsu.st,⟨hsu.v.1,fun v hv=>by have:=hsu.v.2 v hv;omega⟩⟩;refine Tm.bind (Q:=fun r=>∃s',r=ik s'/\lM K C s i p s') (aY (fun h0=>?_) (fun h0=>aM ⟨g,rfl,?_⟩)) ?_
    . have hneg:vf a p<0:=nY.1 h0;rw[ug hg.n.symm];have hbf:=Nj (s:=g) hpg hfree;refine aU (R7 (K:=K+9*(s.n*C)) hsu3 (by rw[hg.n];omega) (by omega) (fun x hx=>⟨(hfit x hx).1,fun v hv=>by have:=(hfit x hx).2 v hv;omega⟩) hpg (by omega)) (aM ⟨flS g p,rfl,?_⟩);rw[QK];have hvs:∀x∈g.items,∀j,vf (x.g.set p (-vf x.g p)) j=if p=j then-vf x.g p else vf x.g j:=fun x hx j=>jM (by rw[(hg.inv.it x hx).2];exact hpg);refine⟨hg.sim.trans (gN.ch hg.inv hbf),Inv.ch hg.inv hbf,hg.kn,hg.st,hg.status,hg.value,hg.dM,hg.n,?_,hpn,by rw[<-hg.status];exact hfree,fun x hx j hj=>?_,fun x hx j hj hjp=>?_,fun x hx j hj=>?_,?_⟩
      . show(g.items.map _).map AI.pos=_;rw[mi,<-hg.pos];rfl
      . have hx':(g.items[i]?).map (fun x:AI=>({x with g:=x.g.set p (-vf x.g p)}:AI))=some x:=by rw[<-gM];exact hx
        rw[bV hig]at hx';obtain rfl:=iN hx';show vf ((g.items[i]).g.set p _) j=_;rw[hvs _ hxm j,eai];by_cases e:p=j
        . subst e;rw[if_pos rfl,if_pos rfl];omega
        . rw[if_neg e,if_neg fun h=>e h.symm];exact hzero j hj fun h=>e h.symm
      . obtain⟨z,hz',rfl⟩:=dL.1 hx;show(vf (z.g.set p _) j).natAbs<=_;rw[hvs z hz' j,if_neg fun h=>hjp h.symm];exact hco z hz' j hj hjp
      . obtain⟨z,hz',rfl⟩:=dL.1 hx;show(vf (z.g.set p _) j).natAbs<=_;rw[hvs z hz' j];split
        . have:=hbg z hz' p hpn;omega
        . exact hbg z hz' j hj
      . refine⟨⟨by show(g.u.map _).length=_;rw[cN];exact hsu3.u.1,fun l hl=>?_⟩,hsu3.st,hsu3.v⟩;obtain⟨w,hw,rfl⟩:=dL.1 hl;have hw':=hsu3.u.2 w hw;refine⟨by rw[iP];exact hw'.1,fun v hv=>?_⟩;rcases pH hv with hv|rfl
        . exact hw'.2 v hv
        . rw[fR];exact hw'.vf p
    . have hpos:¬vf a p<0:=fun e=>h0 (nY.2 e);refine⟨hg.sim,hg.inv,hg.kn,hg.st,hg.status,hg.value,hg.dM,hg.n,hg.pos,hpn,by rw[<-hg.status];exact hfree,fun x hx j hj=>?_,hco,hbg,hsu3⟩;rw[bV hig]at hx;obtain rfl:=iN hx;rw[eai];by_cases e:j=p
      . subst e;rw[if_pos rfl];omega
      . rw[if_neg e];exact hzero j hj e
    . rintro⟨r1,r2,r3,r4,r5,r6,r7⟩ ⟨s',hs',hP⟩;obtain⟨rfl,rfl,rfl,rfl,rfl,rfl,rfl⟩:=by simpa[ik]using hs'
      refine aM ⟨p,s',?_,hP⟩;dsimp only;rw[ug hP.n.symm]
   |false=>
    refine cz (by simp) (aM ?_);have hex:∃k,k<s.n/\k≠p/\vf a k≠0:=jD fun h=>by
     have:=hc.2 ⟨rfl,fun j hj hjp=>jD fun e=>h ⟨j,by rw[<-hg.n];exact hj,hjp,e⟩⟩;cases this
    obtain⟨k,hk,hkp,hk0⟩:=hex;have hlt:=PM hp al hk hkp hk0;have hgn:=hg.n;have e1:(((gR g (bW a p g.n)).items[i]?).map AI.g)=some (bW a p s.n a):=by
     show((g.items.map _)[i]?).map AI.g=_;rw[gM,bV hig];show some (bW a p g.n (g.items[i]).g)=_;rw[eai,hgn]
    have e0:((g.items[i]?).map AI.g)=some a:=ea;refine⟨gR g (bW a p g.n),⟨rfl,hg.sim.trans hsim2,hinv2,hg.kn,hg.st,hg.status,hg.value,hg.dM,hg.n,?_,t+1,bW a p s.n a,e1,o5.trans al,by omega,hsu2,fun j hj=>?_,fun x hx j hj=>?_,.inr ⟨Qt hp al,fun x hx=>?_⟩⟩,?_⟩
    . show(g.items.map _).map AI.pos=_;rw[mi,<-hg.pos];rfl
    . by_cases e:j=p
      . subst e;rw[mu hj al];exact hac j hj
      . have:=(od hp al hj e).1;have:=hac p hpn;omega
    . obtain⟨z,hz',rfl⟩:=dL.1 hx;show(vf (bW a p g.n z.g) j).natAbs<=_;rw[hgn];have hzl:z.g.length=s.n:=(hg.inv.it z hz').2.trans hgn;have hMz:MB s.n a z.g ((4*(C*C):Nat):Int):=by
       rcases hM with⟨_,hM⟩|⟨_,hM⟩
       . intro j hj k hk;have:=hM z hz' j hj k hk;omega
       . exact hM z hz'
      have:=Ui hp al hzl hMz (hX z hz') j hj;rw[gL];omega
    . obtain⟨z,hz',rfl⟩:=dL.1 hx;show MB s.n (bW a p s.n a) (bW a p g.n z.g) _;rw[hgn];have hzl:z.g.length=s.n:=(hg.inv.it z hz').2.trans hgn;rcases hM with⟨_,hM⟩|⟨hS,hM⟩
      . have:=Og (M:=((2*(C*C):Nat):Int)) (by omega) hp al hzl (hM z hz');intro j hj k hk;have:=this j hj k hk;omega
      . exact Pj hp hS al hzl (hM z hz')
    . show jN ((((gR g (bW a p g.n)).items[i]?).map AI.g).getD []) s.n<jN (((g.items[i]?).map AI.g).getD []) s.n;rw[e1,e0];exact hlt
open Go Go.X
structure Ac (n:Nat)(l:List AQ)(s:AS)(q:AQ):Prop where
 d:0<s.d
 dl:dl s.d<=4
 len:s.cE.length<=2
 cE:∀u∈s.cE,u.ix<l.length/\0<=u.n/\D.dl u.n<=4
 dvd:∀j,j<n->s.d∣dX l s.cE j
 q:q=mM n l s.cE s.d
inductive gU (n:Nat)(base:List AQ):List AS->List AQ->Prop where
 |nil:gU n base [] base
 |snoc {ss:List AS} {l:List AQ} {s:AS} {q:AQ} (h:gU n base ss l) (hs:Ac n l s q):gU n base (ss++[s]) (l++[q])
structure Kept (s s':St):Prop where
 u:s'.u=s.u
 status:s'.status=s.status
 value:s'.value=s.value
 dM:s'.stack=s.stack
 n:s'.n=s.n
 kn:∃e,s'.known=s.known++e
theorem Kept.refl(s:St):Kept s s:=⟨rfl,rfl,rfl,rfl,rfl,[],by simp⟩
theorem Kept.trans{a b c:St}(h:Kept a b)(h':Kept b c):Kept a c:=by
 obtain⟨e,he⟩:=h.kn;obtain⟨e',he'⟩:=h'.kn;exact⟨h'.u.trans h.u,h'.status.trans h.status,h'.value.trans h.value,h'.dM.trans h.dM,h'.n.trans h.n,e++e',by rw[he',he,jb]⟩
theorem DO(s:St)(g:List Int)(us:List AU):Kept s (put s g us).2:=by
 obtain⟨h1,h2,h3,h4,h5⟩:=T2 s g us;obtain⟨e,he,_⟩:=A5 s g us;exact⟨h1,h2,h3,h4,h5,e,he⟩
theorem Ck(s:St)(x:AI):Kept s (add s x):=⟨rfl,rfl,rfl,rfl,rfl,[],by simp[add]⟩
theorem yP:∀(L:List Act) (s:St),Kept s (bU s L).2
 |[],s=>Kept.refl s
 |.add x::r,s=>(Ck s x).trans (yP r _)
 |.put g us::r,s=>by
  unfold bU;split
  . exact(DO s g us).trans (yP r _)
  . exact DO s g us
def mA(K:Nat)(s:St):Act->Prop
 |.add x=>ky s x
 |.put g us=>gz K s g us/\nm s g us/\dl (dv g)<=4
def Cl(s:St)(y:Nat->Int):Act->Prop
 |.add x=>IH s y x
 |.put g us=>bE (vf g) y s.n<=fW s.known us
theorem J2{kn e:List AQ}{j:Nat}:∀{us:List AU},(∀u∈us,u.ix<kn.length)->dX (kn++e) us j=dX kn us j
 |[],_=>rfl
 |u::us,h=>by
  show _+dX (kn++e) us j=_;rw[J2 fun v hv=>h v (cH _ hv),iz (h u cK)];rfl
theorem He{kn e:List AQ}:∀{us:List AU},(∀u∈us,u.ix<kn.length)->fW (kn++e) us=fW kn us
 |[],_=>rfl
 |u::us,h=>by
  show _+fW (kn++e) us=_;rw[He fun v hv=>h v (cH _ hv),iz (h u cK)];rfl
theorem ky.kept{s s':St}{x:AI}(h:ky s x)(k:Kept s s'):ky s' x:=by
 obtain⟨e,he⟩:=k.kn;exact⟨by rw[he];have:=h.pos;simp;omega,by rw[k.n];exact h.gl,fun j hj=>by rw[k.n]at hj⊢;rw[k.u,he,iz h.pos];exact h.df j hj,fun j hj hst=>by rw[k.n]at hj;rw[k.status]at hst;exact h.nf j hj hst,h.gG⟩
theorem mA.kept{K:Nat}{s s':St}{a:Act}(h:mA K s a)(k:Kept s s'):mA K s' a:=by
 obtain⟨e,he⟩:=k.kn;cases a with
 |add x=>exact ky.kept h k
 |put g us=>
  obtain⟨h1,h2,h3⟩:=h;have hix:∀u∈us,u.ix<s.known.length:=fun u hu=>(h1.u u hu).1;refine⟨k9.app (a:=.put g us) h1 k.n he,⟨fun j hj=>?_,fun j hj hst=>?_⟩,h3⟩
  . rw[k.n]at hj;rw[h2.df j hj];unfold Bp;rw[k.u,k.n,he];congr 1;exact IG fun i _=>(J2 hix).symm
  . rw[k.n]at hj;rw[k.status]at hst;exact h2.nf j hj hst
theorem Cl.kept{K:Nat}{s s':St}{a:Act}{y:Nat->Int}(hs:mA K s a)(k:Kept s s'):Cl s' y a↔Cl s y a:=by
 obtain⟨e,he⟩:=k.kn;cases a with
 |add x=>exact xa k.n he (ky.pos hs)
 |put g us=>
  show bE (vf g) y s'.n<=fW s'.known us↔_;rw[k.n,he,He fun u hu=>(hs.1.u u hu).1];rfl
theorem G0{K n:Nat}{base:List AQ}{s:St}(h:Inv s){g:List Int}{us:List AU}(hn:n=s.n)(hp:gz K s g us)(hs:nm s g us)(hd:dl (dv g)<=4)(hD:gU n base s.steps s.known):gU n base (put s g us).2.steps (put s g us).2.known:=by
 have e:(put s g us).2.steps=(dst s g us).steps/\(put s g us).2.known=(dst s g us).known:=by
  unfold put;dsimp only;split<;>exact⟨rfl,rfl⟩
 rw[e.1,e.2];unfold dst;split
 . refine hD.snoc ⟨qh g,hd,hp.ul,fun u hu=>⟨(hp.u u hu).1,(hp.u u hu).2.1,(hp.u u hu).2.2.1⟩,fun j hj=>JT h hp.gl hs (by omega),by rw[hn]⟩
 . exact hD
def GB(M:Nat)(g:List Int):Prop:=∀v∈g,v.natAbs<=M
def vX(M:Nat):Act->Prop
 |.add x=>GB M x.g
 |.put g _=>GB M g
theorem RW{M n:Nat}{g:List Int}{d:Int}(hd:0<=d)(h:GB M g):GB M (vec n fun j=>vf g j/d):=fun v hv=>by
 obtain⟨j,hj,rfl⟩:=gB hv;rw[fb]at hj;rw[dJ hj];have:=GI (a:=vf g j) (b:=d);rw[jo _ hd]at this;have h2:(vf g j).natAbs<=M:=by
  rcases cv j g.length with h1|h1
  . exact h _ (gh h1)
  . rw[mr h1];omega
 omega
structure wA (K M:Nat)(s:St)(L:List Act)(ok:Bool)(s':St):Prop where
 kept:Kept s s'
 inv:Inv s'
 imp:ok=true->∀y,(∀z∈s'.items,IH s' y z)->(∀z∈s.items,IH s y z)/\∀a∈L,Cl s y a
 bad:ok=false->∃q∈s'.known,(∀j,j<s.n->vf q.c j=0)/\q.b<0
 il:s'.items.length<=s.items.length+L.length
 kl:s'.known.length<=s.known.length+L.length
 sl:s'.steps.length<=s.steps.length+L.length
 gb:∀z∈s'.items,GB M z.g
 jk:∀base,gU s.n base s.steps s.known->gU s.n base s'.steps s'.known
theorem vD{K M:Nat}:∀(L:List Act) (s:St),Inv s->(∀a∈L,mA K s a)->(∀z∈s.items,GB M z.g)->(∀a∈L,vX M a)->wA K M s L (bU s L).1 (bU s L).2
 |[],s,hI,_,hg,_=>⟨Kept.refl s,hI,fun _ y hy=>⟨hy,fun a ha=>(by cases ha)⟩,fun h=>(by cases h),bI _,bI _,bI _,hg,fun _ h=>h⟩
 |.add x::r,s,hI,hA,hg,hB=>by
  have hx:ky s x:=hA _ cK;have k:=Ck s x;have hg':∀z∈(add s x).items,GB M z.g:=fun z hz=>(lR hz).elim (fun e=>by subst e;exact hB _ cK) (hg z);have h:=vD r (add s x) (hI.add hx) (fun a ha=>(hA a (cH _ ha)).kept k) hg' fun a ha=>hB a (cH _ ha);have hl:=tY (kn:=s.known) (x:=x) (l:=s.items);refine⟨k.trans h.kept,h.inv,fun hok y hy=>?_,h.bad,?_,?_,?_,h.gb,h.jk⟩
  . obtain⟨h1,h2⟩:=h.imp hok y hy;obtain⟨g1,g2⟩:=Ba (s:=s) (x:=x) (y:=y) (l:=s.items) h1;refine⟨g1,fun a ha=>?_⟩;rcases dZ.1 ha with rfl|ha
    . exact g2
    . exact(Cl.kept (hA a (cH _ ha)) k).1 (h2 a ha)
  . have:=h.il;have:(add s x).items.length<=s.items.length+1:=hl.2;simp only[cA];show(bU (add s x) r).2.items.length<=_;omega
  . have:=h.kl;have:(add s x).known.length=s.known.length:=rfl;simp only[cA];show(bU (add s x) r).2.known.length<=_;omega
  . have:=h.sl;have:(add s x).steps.length=s.steps.length:=rfl;simp only[cA];show(bU (add s x) r).2.steps.length<=_;omega
 |.put g us::r,s,hI,hA,hg,hB=>by
  obtain⟨hp,hs,hd⟩:gz K s g us/\nm s g us/\dl (dv g)<=4:=hA _ cK;have k:=DO s g us;have hgb:GB M g:=hB (.put g us) cK;have hg':∀z∈(put s g us).2.items,GB M z.g:=fun z hz=>by
   have hi:=JZ s g us;unfold put at hz;dsimp only at hz;split at hz
   . rcases lR hz with e|hz
     . subst e;exact RW (eb (qh g)) hgb
     . rw[hi]at hz;exact hg z hz
   . rw[hi]at hz;exact hg z hz
  have hkl:(put s g us).2.known.length<=s.known.length+1:=by
   obtain⟨e,he,hel⟩:=A5 s g us;rw[he];simp;omega
  have hsl:(put s g us).2.steps.length<=s.steps.length+1:=by
   have:(put s g us).2.steps=(dst s g us).steps:=by unfold put;dsimp only;split<;>rfl
   rw[this];unfold dst;split<;>simp
  have hil:(put s g us).2.items.length<=s.items.length+1:=by
   have hi:=JZ s g us;unfold put;dsimp only;split
   . have:=tY (kn:=(dst s g us).known) (x:=kP s g us) (l:=(dst s g us).items);show(ee _ _ _).length<=_;rw[hi]at this⊢;exact this.2
   . rw[hi];omega
  by_cases hok:(put s g us).1=true
  . have h:=vD r (put s g us).2 (hI.put hp hs) (fun a ha=>(hA a (cH _ ha)).kept k) hg' fun a ha=>hB a (cH _ ha);have e:bU s (.put g us::r)=bU (put s g us).2 r:=by show(if _ then _ else _)=_;rw[if_pos hok]
    rw[e];refine⟨k.trans h.kept,h.inv,fun hok' y hy=>?_,fun hb=>by have:=h.bad hb;rwa[k.n]at this,?_,?_,?_,h.gb,fun base hD=>?_⟩
    . obtain⟨h1,h2⟩:=h.imp hok' y hy;obtain⟨g1,g2⟩:=NP hI hp hs hok h1;refine⟨g1,fun a ha=>?_⟩;rcases dZ.1 ha with rfl|ha
      . exact g2
      . exact(Cl.kept (hA a (cH _ ha)) k).1 (h2 a ha)
    . have:=h.il;simp only[cA];omega
    . have:=h.kl;simp only[cA];omega
    . have:=h.sl;simp only[cA];omega
    . have:=h.jk base (by rw[k.n];exact G0 hI rfl hp hs hd hD);rwa[k.n]at this
  . have e:bU s (.put g us::r)=(false,(put s g us).2):=by show(if _ then _ else _)=_;rw[if_neg hok]
    rw[e];refine⟨k,hI.put hp hs,fun h=>(by cases h),fun _=>Pc hI hp hs (by simpa using hok),?_,?_,?_,hg',fun base hD=>G0 hI rfl hp hs hd hD⟩
    . simp only[cA];omega
    . simp only[cA];omega
    . simp only[cA];omega
open Go Go.X
def bD(s:St)(k:Nat):AI:=s.items.getD k ⟨0,[]⟩
theorem lS{s:St}{k:Nat}(h:k<s.items.length):bD s k=s.items[k]:=by unfold bD;rw[cy,bV h];rfl
theorem gT{s:St}{k:Nat}(h:k<s.items.length):bD s k∈s.items:=by rw[lS h];exact du h
theorem sN{s:St}{k:Nat}(h:k<s.items.length):idx s.to.items (k:Int)=some (bD s k).to:=by
 show idx (s.items.map AI.to) _=_;rw[dd (by simpa using h),kM,lS h]
def eu(s:St)(i p:Nat):St:={s with status:=s.status.set p 1,value:=s.value.set p (aI s.known (bD s i).pos).b,items:=[]}
def ju(s:St)(i j p k:Nat):List Act:= if k=i\/k=j then[]else if vf (bD s k).g p=0 then[.add (bD s k)] else[.put ((bD s k).g.set p 0) [⟨(bD s k).pos,1⟩,if vf (bD s k).g p<0 then⟨(bD s i).pos,-vf (bD s k).g p⟩else⟨(bD s j).pos,vf (bD s k).g p⟩]]
def dY(s:St)(i j p k:Nat):List Act:=((List.range s.items.length).drop k).flatMap (ju s i j p)
theorem LD{s:St}{i j p k:Nat}(h:k<s.items.length):dY s i j p k=ju s i j p k++dY s i j p (k+1):=by
 unfold dY;rw[fx (by simpa using h),B7,List.getElem_range]
theorem LK{s:St}{i j p:Nat}:dY s i j p s.items.length=[]:=by unfold dY;rw[B3 (by simp)];rfl
theorem Gu{s:St}{i j p k:Nat}:(ju s i j p k).length<=1:=by unfold ju;(repeat' split)<;>simp
theorem Fw{s:St}{i j p:Nat}:∀(m k:Nat),k+m=s.items.length->(dY s i j p k).length<=m
  | 0, k, h => by obtain rfl : k = s.items.length := by omega
                  rw[LK];simp
  |m+1,k,h=>by
    rw[LD (s:=s) (by omega),cZ];have:=Fw (s:=s) (i:=i) (j:=j) (p:=p) m (k+1) (by omega);have:=Gu (s:=s) (i:=i) (j:=j) (p:=p) (k:=k);omega
theorem Ry{s:St}{i j p:Nat}{a:Act}(h:a∈dY s i j p 0):∃k,k<s.items.length/\k≠i/\k≠j/\ju s i j p k=[a]:=by
 unfold dY at h;rw[kK,yx]at h;obtain⟨k,hk,ha⟩:=h;have hk:k<s.items.length:=by simpa using hk
 have hl:=Gu (s:=s) (i:=i) (j:=j) (p:=p) (k:=k);refine⟨k,hk,?_,?_,?_⟩
 . rintro rfl;unfold ju at ha;simp at ha
 . rintro rfl;unfold ju at ha;simp at ha
 . match he:ju s i j p k,hl,ha with
   |[b],_,ha=>rw[cL.1 ha]
   |[],_,ha=>cases ha
theorem zl{s:St}{i j p k:Nat}(hk:k<s.items.length){a:Act}(h:a∈ju s i j p k):a∈dY s i j p 0:=by
 unfold dY;rw[kK,yx];exact⟨k,by simpa using hk,h⟩
theorem N8{l:List Int}{p n:Nat}{y:Nat->Int}(hl:l.length=n)(hp:p<n):bE (vf (l.set p 0)) y n=bE (vf l) y n-vf l p*y p:=by
  have h:=vv (f:=y) (y:=vf l) (z:=0) (v:=p) hp;rw[pA (f:=vf l),pA (f:=vf (l.set p 0))]
  rw [eF (f := y) (f' := y) (g := vf (l.set p 0)) (g' := cI (vf l) p 0) (fun _ _ => rfl) (fun j hj => by rw [jM (by omega)]; unfold cI; by_cases e : p = j
                                                                                                         . rw[if_pos e,if_pos e.symm]
                                                                                                         . rw[if_neg e,if_neg fun h=>e h.symm]),h]
  grind
section
variable {K C Kk:Nat} {s s1:St} {i j p:Nat}
structure sh (s:St)(i j:Nat):Prop where
 il:i<s.items.length
 jl:j<s.items.length
 ne:i≠j
 g:∀k,k<s.n->vf (bD s j).g k=-vf (bD s i).g k
 b:(aI s.known (bD s i).pos).b+(aI s.known (bD s j).pos).b=0
theorem nR(h:lM K C s i p s1)(k:Nat)(hk:k<s.items.length):k<s1.items.length/\(bD s1 k).pos=(bD s k).pos:=by
 have hl:s1.items.length=s.items.length:=by have:=congrArg List.length h.pos;simpa using this
 have hk1:k<s1.items.length:=by omega
 refine⟨hk1,?_⟩;rw[lS hk1,lS hk];have:=congrArg (fun l:List Nat=>l[k]?) h.pos;simp only[gM,bV hk1,bV hk,oh,tg]at this;exact this
theorem LO(h:lM K C s i p s1):s1.items.length=s.items.length:=by have:=congrArg List.length h.pos;simpa using this
theorem zm(h:lM K C s i p s1)(he:sh s i j):∀k,k<s.n->vf (bD s1 i).g k=if k=p then 1 else 0:=by
 have hi:=(nR h i he.il).1;exact h.unit _ (by rw[bV hi,lS hi])
theorem CN(hI:Inv s)(h:lM K C s i p s1)(he:sh s i j):∀k,k<s.n->vf (bD s1 j).g k=if k=p then-1 else 0:=by
 intro k hk;obtain⟨hj,hjp⟩:=nR h j he.jl;obtain⟨hi,hip⟩:=nR h i he.il;obtain⟨w,hw⟩:=hI.kd;have hc:∀m,m<s.n->vf (aI s.known (bD s j).pos).c m=0+-1*vf (aI s.known (bD s i).pos).c m:=fun m hm=>by
  rw[AK hw hm,AK hw hm,<-sf,B4];refine eF (fun r hr=>?_) fun _ _=>rfl;rw[<-hI.df _ (gT he.jl) r hr,<-hI.df _ (gT he.il) r hr,he.g r hr];omega
 have h1:=h.inv.df _ (gT hj) k (by rw[h.n];exact hk);have h2:=h.inv.df _ (gT hi) k (by rw[h.n];exact hk);rw[hjp,h.kn,h.n]at h1;rw[hip,h.kn,h.n]at h2;have h3:cu s1.u s.n (aI s.known (bD s j).pos).c k=-1*cu s1.u s.n (aI s.known (bD s i).pos).c k:=zD fun m hm=>by rw[hc m hm];omega
 rw[h1,h3,<-h2,zm h he k hk];split<;>omega
theorem Ug{n C:Nat}(hn:n<=4)(hC:C<=4294967296):C+n*C*(4*(C*C))<340282366920938463463374607431768211456:=by
 have h1:C*C<=4294967296*4294967296:=iO hC hC;have h2:n*C<=4*4294967296:=iO hn hC;have h3:n*C*(4*(C*C))<=4*4294967296*(4*(4294967296*4294967296)):=iO h2 (by omega);omega
theorem yK{v:Int}(h:v.natAbs<340282366920938463463374607431768211456):dl v<=4:=ra (by
 have:aC^4=340282366920938463463374607431768211456:=by decide
 omega)
theorem AO(hn:s.n<=4)(hC:C<=4294967296)(h:lM K C s i p s1){x:AI}(hx:x∈s1.items):∀v∈x.g,dl v<=4:=fun v hv=>by
 obtain⟨k,hk,rfl⟩:=gB hv;have:=h.big x hx k (by rw[(h.inv.it x hx).2,h.n]at hk;exact hk);exact yK (BU this (Ug hn hC))
theorem Lb(hI:Inv s)(hs:gu Kk s)(hn:s.n<=4)(hC:C<=4294967296)(h:lM K C s i p s1)(he:sh s i j):
 ∀a∈dY s1 i j p 0,(k9 Kk (eu s1 i p) a/\vX (4*(C*C)) a)/\mA Kk (eu s1 i p) a:=by
 intro a ha;obtain⟨k,hk,hki,hkj,hke⟩:=Ry ha;have hkm:=gT hk;obtain⟨k1,k2⟩:=h.inv.it _ hkm;have hp1:p<s1.n:=by rw[h.n];exact h.pn
 have hn1:=h.n;have hvs:∀m,vf ((bD s1 k).g.set p 0) m=if p=m then 0 else vf (bD s1 k).g m:=fun m=>jM (by omega);have hstat:∀m,m<s1.n->vf (s1.status.set p 1) m≠0->m=p\/vf s1.status m≠0:=fun m hm hst=>by
  rw[jM (by rw[h.inv.fV];exact hp1)]at hst;by_cases e:p=m
  . exact .inl e.symm
  . rw[if_neg e]at hst;exact .inr hst
 unfold ju at hke;rw[if_neg (by omega)]at hke;split at hke
 . rename_i hc;obtain rfl:=(vM hke).1;refine⟨⟨⟨k1,k2,fun v hv=>bO (AO hn hC h hkm v hv) (by decide)⟩,fun v hv=>?_⟩,⟨k1,k2,h.inv.df _ hkm,fun m hm hst=>?_,h.inv.gG _ hkm⟩⟩
   . obtain⟨m,hm,rfl⟩:=gB hv;by_cases e:m=p
     . subst e;rw[hc];simp
     . exact h.co _ hkm m (by omega) e
   . rcases hstat m hm hst with rfl|hst
     . exact hc
     . exact h.inv.nf _ hkm m hm hst
 . rename_i hc;obtain rfl:=(vM hke).1;obtain⟨hi,hip⟩:=nR h i he.il;obtain⟨hj,hjp⟩:=nR h j he.jl;have hkn:(eu s1 i p).known=s.known:=h.kn;have hq:∀m,m<s1.items.length->lL s1.n Kk s1.known ⟨(bD s1 m).pos,1⟩:=fun m hm=>by
    have h1:=(h.inv.it _ (gT hm)).1;have h2:=hs.k (aI s1.known (bD s1 m).pos) (by rw[<-h.kn];exact eK h1);exact⟨h1,Gf 1,bO jA (by decide),h2.1,h2.2.trans h.n.symm⟩
   have hcdl:dl (vf (bD s1 k).g p)<=4:=AO hn hC h hkm _ (gh (by omega));have hu2:lL s1.n Kk s1.known (if vf (bD s1 k).g p<0 then⟨(bD s1 i).pos,-vf (bD s1 k).g p⟩else⟨(bD s1 j).pos,vf (bD s1 k).g p⟩):=by
    split
    . obtain⟨g1,g2,g3,g4,g5⟩:=hq i hi;exact⟨g1,by dsimp only;omega,by dsimp only;rw[fR];exact hcdl,g4,g5⟩
    . obtain⟨g1,g2,g3,g4,g5⟩:=hq j hj;exact⟨g1,by dsimp only;omega,hcdl,g4,g5⟩
   have hg8:∀v∈(bD s1 k).g.set p 0,dl v<=8:=fun v hv=>by
    rcases pH hv with hv|rfl
    . exact bO (AO hn hC h hkm v hv) (by decide)
    . rw[ie];omega
   have hP:gz Kk (eu s1 i p) ((bD s1 k).g.set p 0) [⟨(bD s1 k).pos,1⟩,if vf (bD s1 k).g p<0 then⟨(bD s1 i).pos,-vf (bD s1 k).g p⟩else⟨(bD s1 j).pos,vf (bD s1 k).g p⟩]:=
    ⟨by rw[iP];exact k2,hg8,by simp,by simp,fun u hu=>by
     rcases dZ.1 hu with rfl|hu
     . exact hq k hk
     . rw[cL.1 hu];exact hu2⟩
   have hgb:GB (4*(C*C)) ((bD s1 k).g.set p 0):=fun v hv=>by
    obtain⟨m,hm,rfl⟩:=gB hv;rw[iP]at hm;rw[hvs m];split
    . simp
    . rename_i e;exact h.co _ hkm m (by omega) fun e'=>e e'.symm
   refine⟨⟨hP,hgb⟩,hP,⟨fun m hm=>?_,fun m hm hst=>?_⟩,?_⟩
   . have hm:m<s1.n:=hm;rw[hvs m];have hup:=zm h he m (by omega);have hdn:=CN hI h he m (by omega);have r0:=h.inv.df _ hkm m hm;have r1:=h.inv.df _ (gT hi) m hm;have r2:=h.inv.df _ (gT hj) m hm;show _=cu s1.u s1.n (vec s1.n (dX s1.known _)) m;by_cases hneg:vf (bD s1 k).g p<0
     . rw[if_pos hneg];have e:cu s1.u s1.n (vec s1.n (dX s1.known [⟨(bD s1 k).pos,1⟩,⟨(bD s1 i).pos,-vf (bD s1 k).g p⟩])) m=cu s1.u s1.n (aI s1.known (bD s1 k).pos).c m+(-vf (bD s1 k).g p)*cu s1.u s1.n (aI s1.known (bD s1 i).pos).c m:=zG fun r hr=>by
        rw[dJ hr];show 1*_+(_+0)=_;dsimp only;omega
       rw[e,<-r0,<-r1,hup];by_cases e2:p=m
       . subst e2;rw[if_pos rfl,if_pos rfl];omega
       . rw[if_neg e2,if_neg fun h=>e2 h.symm];omega
     . rw[if_neg hneg];have e:cu s1.u s1.n (vec s1.n (dX s1.known [⟨(bD s1 k).pos,1⟩,⟨(bD s1 j).pos,vf (bD s1 k).g p⟩])) m=cu s1.u s1.n (aI s1.known (bD s1 k).pos).c m+(vf (bD s1 k).g p)*cu s1.u s1.n (aI s1.known (bD s1 j).pos).c m:=zG fun r hr=>by
        rw[dJ hr];show 1*_+(_+0)=_;dsimp only;omega
       rw[e,<-r0,<-r2,hdn];by_cases e2:p=m
       . subst e2;rw[if_pos rfl,if_pos rfl];omega
       . rw[if_neg e2,if_neg fun h=>e2 h.symm];omega
   . have hm:m<s1.n:=hm;rw[hvs m];rcases hstat m hm hst with rfl|hst
     . rw[if_pos rfl]
     . split
       . rfl
       . exact h.inv.nf _ hkm m hm hst
   . unfold dv;split
     . exact bO jA (by decide)
     . exact uS fun v hv=>by
        have:=hgb v hv;refine yK (BU this ?_);have h1:C*C<=4294967296*4294967296:=iO hC hC;omega
theorem NN(hI:Inv s)(h:lM K C s i p s1):Inv (eu s1 i p)where
 ul:=h.inv.ul
 fV:=by show(s1.status.set p 1).length=_;rw[iP];exact h.inv.fV
 vl:=by show(s1.value.set p _).length=_;rw[iP];exact h.inv.vl
 kl:=h.inv.kl
 it x hx:=by cases hx
 df x hx:=by cases hx
 nf x hx:=by cases hx
 gG x hx:=by cases hx
 j6:=List.Pairwise.nil
 kd:=h.inv.kd
 stat m hm:=by
  show vf (s1.status.set p 1) m=0\/vf (s1.status.set p 1) m=1\/vf (s1.status.set p 1) m=2;rw[jM (by rw[h.inv.fV,h.n];exact h.pn)];split
  . exact .inr (.inl rfl)
  . exact h.inv.stat m hm
 sv e he:=by
  obtain⟨e1,e2,e3⟩:=h.inv.sv e he;refine⟨e1,?_,e3⟩;show vf (s1.status.set p 1) e.v=2;rw[jM (by rw[h.inv.fV,h.n];exact h.pn),if_neg]
  . exact e2
  . intro e';have:=h.free;rw[h.status]at e2;rw[e',e2]at this;omega
 s2 m hm hst:=by
  have hst:vf (s1.status.set p 1) m=2:=hst;rw[jM (by rw[h.inv.fV,h.n];exact h.pn)]at hst;split at hst
  . omega
  . exact h.inv.s2 m hm hst
 sd:=h.inv.sd
theorem Ti(hI:Inv s)(h:lM K C s i p s1)(he:sh s i j){M:Nat}{s3:St}(hA:wA Kk M (eu s1 i p) (dY s1 i j p 0) true s3)(hL:∀a∈dY s1 i j p 0,mA Kk (eu s1 i p) a):gN s s3:=by
 refine h.sim.trans ?_;have hp1:p<s1.n:=by rw[h.n];exact h.pn
 obtain⟨e,hek⟩:=hA.kept.kn;have hst:∀m,vf s3.status m=if p=m then 1 else vf s1.status m:=fun m=>by
  rw[hA.kept.status];exact jM (by rw[h.inv.fV];exact hp1)
 have hva:∀m,vf s3.value m=if p=m then(aI s1.known (bD s1 i).pos).b else vf s1.value m:=fun m=>by
  rw[hA.kept.value];exact jM (by rw[h.inv.vl];exact hp1)
 have hfree:vf s1.status p=0:=by rw[h.status];exact h.free
 have hn3:s3.n=s1.n:=hA.kept.n;have hux:∀y i,ux s3 y i=ux s1 y i:=fun y i=>by unfold ux;rw[hA.kept.u,hn3];rfl
 refine⟨hn3,⟨e,hek⟩,⟨[],by rw[hA.kept.dM];simp[eu]⟩,fun m hm hs=>?_,fun y=>⟨y,fun i _=>hux y i,fun _ _ _=>rfl,fun k hk ⟨h1,h2,h3⟩=>?_⟩⟩
 . have hpm:p≠m:=fun e=>hs (by rw[<-e];exact hfree);exact⟨by rw[hst,if_neg hpm],fun _=>by rw[hva,if_neg hpm],fun i _=>by rw[hA.kept.u];rfl⟩
 . obtain⟨_,hcl⟩:=hA.imp rfl y h2;have hyp:y p=(aI s1.known (bD s1 i).pos).b:=by
    have:=h1 p (by rw[hn3];exact hp1) (by rw[hst,if_pos rfl]);rw[hva,if_pos rfl]at this;exact this
   obtain⟨hi,hip⟩:=nR h i he.il;obtain⟨hj,hjp⟩:=nR h j he.jl;have hbj:(aI s1.known (bD s1 j).pos).b=-(aI s1.known (bD s1 i).pos).b:=by
    have:=he.b;rw[hjp,hip,h.kn];omega
   refine⟨fun m hm hs=>?_,fun x hx=>?_,fun e' he' q hq=>?_⟩
   . have hpm:p≠m:=fun e=>by rw[<-e,hfree]at hs;omega
     have:=h1 m (by rw[hn3];exact hm) (by rw[hst,if_neg hpm];exact hs);rw[hva,if_neg hpm]at this;exact this
   . obtain⟨k',hk',rfl⟩:=nc hx;rw[<-lS hk'];unfold IH;by_cases e1:k'=i
     . subst e1;rw[pO hp1 fun m hm hmp=>by rw[zm h he m (by rw[<-h.n];exact hm),if_neg hmp],zm h he p h.pn,if_pos rfl,hyp];omega
     by_cases e2:k'=j
     . subst e2;rw[pO hp1 fun m hm hmp=>by rw[CN hI h he m (by rw[<-h.n];exact hm),if_neg hmp],CN hI h he p h.pn,if_pos rfl,hyp,hbj];omega
     by_cases hc:vf (bD s1 k').g p=0
     . have:=hcl (.add (bD s1 k')) (zl hk' (by unfold ju;rw[if_neg (by omega),if_pos hc];simp));exact this
     . have:=hcl _ (zl (a:=.put ((bD s1 k').g.set p 0) [⟨(bD s1 k').pos,1⟩,if vf (bD s1 k').g p<0 then⟨(bD s1 i).pos,-vf (bD s1 k').g p⟩else⟨(bD s1 j).pos,vf (bD s1 k').g p⟩]) hk' (by unfold ju;rw[if_neg (by omega),if_neg hc];simp));have this:bE (vf ((bD s1 k').g.set p 0)) y s1.n<=1*(aI s1.known (bD s1 k').pos).b+(_+0):=this;rw[N8 (h.inv.it _ (gT hk')).2 hp1,hyp]at this;generalize hcv:vf (bD s1 k').g p=c at*;by_cases hneg:c<0
       . rw[if_pos hneg]at this;dsimp only at this;rw[show(eu s1 i p).known=s1.known from rfl,show-c*(aI s1.known (bD s1 i).pos).b=-(c*(aI s1.known (bD s1 i).pos).b) by rw[lE]]at this;omega
       . rw[if_neg hneg]at this;dsimp only at this;rw[show(eu s1 i p).known=s1.known from rfl,hbj,show c*-(aI s1.known (bD s1 i).pos).b=-(c*(aI s1.known (bD s1 i).pos).b) by rw[nj]]at this;omega
   . have h4:=h3 e' (by rw[hA.kept.dM];exact he') q hq;exact(sx hn3 hek ((h.inv.sv e' (BX he')).2.2 q hq) fun i _=>hux y i).1 h4
end
end Go.D
set_option maxHeartbeats 1000000
namespace Go.D
open Go Go.X
theorem yI{l:List Int}{k:Nat}(h:k<l.length):idx l (k:Int)=some (vf l k):=by rw[dd h,nt h]
theorem Sx{K C Kk:Nat}{s:St}{i j:Nat}(hI:Inv s)(hs:gu Kk s)(hu:SU K s)(hn:s.n<=4)(he:sh s i j)(hC:∀x∈s.items,∀k,k<s.n->(vf x.g k).natAbs<=C)(hCb:C<=4294967296)(hK8:8<=K)(hK:K+9*(s.n*C)+40<=cX)
 (hkl:s.known.length+s.items.length<=1073741824)(hsl:s.steps.length+s.items.length<=1073741824)(hKk:Kk+6<=1099511627000):
 Tm (fun N=>rU N s.to (i:Int) (j:Int)) (fun r=>∃(p:Nat) (s1:St),lM K C s i p s1/\r=((bU (eu s1 i p) (dY s1 i j p 0)).1,(bU (eu s1 i p) (dY s1 i j p 0)).2.to)):=by
 have hL:cX=1099511627776:=rfl;have hil:=hs.il;unfold rU;refine Tm.bind (Rk hI hu hn hs.il he.il hC hCb hK8 hK) ?_;rintro _ ⟨p,s1,rfl,hP⟩;obtain⟨hi,hip⟩:=nR hP i he.il;obtain⟨hj,hjp⟩:=nR hP j he.jl;have hn1:=hP.n;have hlen:=LO hP;have hp1:p<s1.n:=by rw[hP.n];exact hP.pn
 have hkn:=hP.kn;dsimp only;refine aN (sN hi) (aN (sN hj) ?_);rw[ug hn1.symm];refine aU (rE (hP.inv.it _ (gT hi)).1) ?_;refine aN (yI (l:=s1.status) (by rw[hP.inv.fV];exact hp1)) (aN (eh (xs:=s1.status) rfl (by rw[hP.inv.fV];exact hp1)) ?_);refine aN (ej (l:=s1.value) (by rw[hP.inv.vl];exact hp1)) (aN (eh (xs:=mB s1.value) rfl (by rw[dH,hP.inv.vl];exact hp1)) ?_);have hok2:gu (Kk+6) (eu s1 i p):=⟨by show s1.n<=_;omega,by show s1.known.length<=_;rw[hkn];exact hs.kl,by show s1.steps.length<=_;rw[hP.st];exact hs.sl,by simp[eu],fun q hq=>by
  have hq:q∈s1.known:=hq;rw[hkn]at hq;exact⟨(hs.k q hq).1.mono (by omega),by rw[(hs.k q hq).2];exact hn1.symm⟩,fun x hx=>(by cases hx),hKk⟩
 have hLl:=Fw (s:=s1) (i:=i) (j:=j) (p:=p) s1.items.length 0 (by omega);have hroom:jd (dY s1 i j p 0).length (eu s1 i p):=⟨by show s1.known.length+_<=_;rw[hkn];omega,by show s1.steps.length+_<=_;rw[hP.st];omega,by show 0+_<=_;omega⟩;have hA:=Lb hI hs hn hCb hP he;have hmi:s1.to.items.length=s1.items.length:=cN ..;refine Tm.bind (Q:=fun r=>(∃s',r=.inl (ik s')/\bU (eu s1 i p) (dY s1 i j p 0)=(true,s')/\s'.n=s1.n)\/r=.inr ((bU (eu s1 i p) (dY s1 i j p 0)).1,(bU (eu s1 i p) (dY s1 i j p 0)).2.to))
  (eL s1.items.length (fun k t=>∃s' k',iC (Kk+6) (eu s1 i p) (dY s1 i j p 0) k' s'/\(dY s1 i j p 0).drop k'=dY s1 i j p k/\t=(s'.to.known,s'.to.steps,s'.to.u,s'.to.status,s'.to.value,s'.to.items,s'.to.stack,(k:Int))) ⟨eu s1 i p,0,iC.first hok2 hroom,rfl,?_⟩ ?_) ?_
 . show(s1.to.known,s1.to.steps,s1.to.u,s1.status.set p 1,(mB s1.value).set p _,[],s1.to.stack,(0:Int))=_;rw[uZ];rfl
 . rintro k hk _ ⟨s',k',hv,hd,rfl⟩;dsimp only[CG];refine aY (fun hlt=>?_) (fun hge=>aM ?_)
   . have hlt:k<s1.items.length:=by omega
     have hstp:=LD (i:=i) (j:=j) (p:=p) hlt;have hxg:=(hP.inv.it _ (gT hlt)).2;have hcd:dl (vf (bD s1 k).g p)<=4:=AO hn hCb hP (gT hlt) _ (gh (by omega));have hns:s.to.n=s'.to.n:=by show(s.n:Int)=s'.n;rw[hv.n];show(s.n:Int)=s1.n;rw[hn1]
     refine Tm.bind (Q:=fun r=>(∃s'' k'',r=.inl (ik s'')/\iC (Kk+6) (eu s1 i p) (dY s1 i j p 0) k'' s''/\(dY s1 i j p 0).drop k''=dY s1 i j p (k+1))\/r=.inr ((bU (eu s1 i p) (dY s1 i j p 0)).1,(bU (eu s1 i p) (dY s1 i j p 0)).2.to)) (aN (sN hlt) (Tm.bind (Q:=fun c=>c=decide (k=i\/k=j)) (aY (fun h=>aM ?_) (fun h=>aM ?_)) ?_)) ?_
     . rw[decide_eq_true];omega
     . apply decide_eq_decide.2;omega
     . rintro _ rfl;refine aY (fun h=>aM (.inl ⟨s',k',rfl,hv,?_⟩)) (fun h=>?_)
       . rw[hd,hstp];unfold ju;rw[if_pos (of_decide_eq_true h)];rfl
       have hne:¬(k=i\/k=j):=fun e=>h (decide_eq_true e);refine aN (ej (l:=(bD s1 k).g) (by omega)) (aU (jm (by omega)) (aY (fun h0=>?_) (fun h0=>?_)))
       . have h0:vf (bD s1 k).g p=0:=jD fun e=>ou.2 e h0;have ha:ju s1 i j p k=[.add (bD s1 k)]:=by unfold ju;rw[if_neg hne,if_pos h0]
         rw[ha]at hstp;have hk'l:k'<(dY s1 i j p 0).length:=by
          rcases cv k' (dY s1 i j p 0).length with h1|h1
          . exact h1
          . rw[B3 h1,hstp]at hd;cases hd
         rw[fx hk'l,hstp]at hd;obtain⟨hd1,hd2⟩:=vM hd;obtain⟨g1,g2⟩:=hv.add hk'l hd1 (K0:=Kk) (hA _ (zl hlt (by rw[ha];simp))).1.1;rw[ir (x:=s'.to) hns];refine aU (tJ hv.ok g1) (aM (.inl ⟨add s' (bD s1 k),k'+1,rfl,g2,hd2⟩))
       . have h0:vf (bD s1 k).g p≠0:=ou.1 h0;refine aU (AD (by omega)) (aN (ej (l:=(bD s1 k).g) (by omega)) (aN (eh (xs:=mB (bD s1 k).g) rfl (by rw[dH];omega)) (aU (jm (by omega)) ?_)));have hset:(mB (bD s1 k).g).set p ⟨false,[]⟩=mB ((bD s1 k).g.set p 0):=by rw[<-uZ,B0]
         rw[hset];have ha:ju s1 i j p k=[.put ((bD s1 k).g.set p 0) [⟨(bD s1 k).pos,1⟩,if vf (bD s1 k).g p<0 then⟨(bD s1 i).pos,-vf (bD s1 k).g p⟩else⟨(bD s1 j).pos,vf (bD s1 k).g p⟩]]:=by unfold ju;rw[if_neg hne,if_neg h0]
         refine aU (a:=(if vf (bD s1 k).g p<0 then(⟨(bD s1 i).pos,-vf (bD s1 k).g p⟩:AU)else⟨(bD s1 j).pos,vf (bD s1 k).g p⟩).to) (aY (fun h1=>?_) (fun h1=>aM ?_)) ?_
         . rw[if_pos (nY.1 h1)];exact aU (nF (by omega)) (aM rfl)
         . rw[if_neg fun e=>h1 (nY.2 e)];rfl
         rw[ha]at hstp;have hk'l:k'<(dY s1 i j p 0).length:=by
          rcases cv k' (dY s1 i j p 0).length with h1|h1
          . exact h1
          . rw[B3 h1,hstp]at hd;cases hd
         rw[fx hk'l,hstp]at hd;obtain⟨hd1,hd2⟩:=vM hd;obtain⟨g1,g2,g3,g4⟩:=hv.put hk'l hd1 (K0:=Kk) (hA _ (zl hlt (by rw[ha];simp))).1.1 (by omega);refine aU (jP (by decide) (by decide)) ?_;rw[ir (x:=s'.to) hns];refine aU g1 ?_;have hns2:s.to.n=(put s' ((bD s1 k).g.set p 0) [⟨(bD s1 k).pos,1⟩,if vf (bD s1 k).g p<0 then⟨(bD s1 i).pos,-vf (bD s1 k).g p⟩else⟨(bD s1 j).pos,vf (bD s1 k).g p⟩]).2.to.n:=by
          show(s.n:Int)=((put s' _ _).2.n:Int);rw[g4];show(s.n:Int)=s1.n;rw[hn1]
         refine aY (fun hf=>aM (.inr ?_)) (fun ht=>aM (.inl ⟨_,k'+1,rfl,g2 (by simpa using ht),hd2⟩));dsimp only;rw[ir hns2,g3 (by simpa using hf)]
     . rintro r (⟨s'',k'',rfl,h1,h2⟩|rfl)
       . exact aM ⟨hlt,s'',k'',h1,h2,by rw[ed (by omega)]⟩
       . exact aM (.inr rfl)
   . have:k=s1.items.length:=by omega
     subst this;rw[LK]at hd;refine .inl ⟨s',rfl,?_,hv.n⟩;rw[hv.run,hd];rfl
 . rintro r (⟨s',rfl,h1,h2⟩|rfl)
   . refine aM ⟨p,s1,hP,?_⟩;show(true,aR.mk s.to.n s'.to.known s'.to.steps s'.to.u s'.to.status s'.to.value s'.to.items s'.to.stack)=_;rw[ug (h2.trans hn1).symm,h1]
   . exact aM ⟨p,s1,hP,rfl⟩
theorem EU{K V:Type}[DecidableEq K]{k k':K}{v z:V}:∀{m:List (K×V)},fq (jX m k v) k' z=if k=k' then(v,true)else fq m k' z
 |[]=>by simp only[jX,fq]
 |p::m=>by
  simp only[jX];by_cases e:p.1=k
  . rw[if_pos e];simp only[fq];by_cases e2:k=k'
    . rw[if_pos e2,if_pos e2]
    . rw[if_neg e2,if_neg e2,if_neg (by rw[e];exact e2)]
  . rw[if_neg e];simp only[fq];by_cases e2:p.1=k'
    . rw[if_pos e2];by_cases e3:k=k'
      . exact absurd (e2.trans e3.symm) e
      . rw[if_neg e3,if_pos e2]
    . rw[if_neg e2,EU];by_cases e3:k=k'
      . rw[if_pos e3,if_pos e3]
      . rw[if_neg e3,if_neg e3,if_neg e2]
inductive uv (K:Nat)(s:St):Int×Int×Bool×Bool×aR->Prop where
 |none (h:∀i j,i<s.items.length->j<s.items.length->(∀k,k<s.n->vf (bD s j).g k=-vf (bD s i).g k)->0<(aI s.known (bD s i).pos).b+(aI s.known (bD s j).pos).b):uv K s (0,0,false,true,s.to)
 |some (i j:Nat) (h:sh s i j):uv K s (i,j,true,true,s.to)
 |bad (s':St) (L:List Act) (hL:∀a∈L,mA K s a) (hO:∀a∈L,k9 K s a) (hB:∀a∈L,vX 0 a) (hl:L.length<=1) (hb:bU s L=(false,s')):uv K s (0,0,false,false,s'.to)
theorem wT{n:Nat}:(List.replicate n (0:Int))=vec n fun _=>0:=by
 apply pK (by simp[vec]);intro i h1 h2;simp[vec]
theorem KH:∀m,dc (List.replicate m (0:Int))=0
 |0=>rfl
 |m+1=>by rw[yk];show Int.gcd 0 (dc _:Nat)=0;rw[KH m];rfl
theorem T7{Kk:Nat}{s:St}(hI:Inv s)(hKq:∀q∈s.known,fA Kk q){k o:Nat}(hlt:k<s.items.length)(ho:o<s.items.length)(hog:(bD s o).g=bT (bD s k).g)(hlt0:(aI s.known (bD s k).pos).b+(aI s.known (bD s o).pos).b<0):
 mA Kk s (.put (List.replicate s.n 0) [⟨(bD s k).pos,1⟩,⟨(bD s o).pos,1⟩])/\bU s [.put (List.replicate s.n 0) [⟨(bD s k).pos,1⟩,⟨(bD s o).pos,1⟩]]=(false,(put s (List.replicate s.n 0) [⟨(bD s k).pos,1⟩,⟨(bD s o).pos,1⟩]).2):=by
 have hUO:∀m,m<s.items.length->lL s.n Kk s.known ⟨(bD s m).pos,1⟩:=fun m hm=>by
  have h1:=(hI.it _ (gT hm)).1;exact⟨h1,Gf 1,bO jA (by decide),hKq _ (eK h1),hI.kl _ (eK h1)⟩
 have hP:gz Kk s (List.replicate s.n 0) [⟨(bD s k).pos,1⟩,⟨(bD s o).pos,1⟩]:=⟨by simp,fun v hv=>by rw[(yo.1 hv).2,ie];omega,by simp,by simp,fun u hu=>by
  rcases dZ.1 hu with rfl|hu
  . exact hUO k hlt
  . rw[cL.1 hu];exact hUO o ho⟩
 have hz:∀j,j<s.n->vf (List.replicate s.n (0:Int)) j=0:=fun j hj=>by rw[wT,dJ hj]
 have hgc:dc (List.replicate s.n (0:Int))=0:=KH _;have hdv:dv (List.replicate s.n (0:Int))=1:=by unfold dv;rw[if_pos hgc]
 have hPS:nm s (List.replicate s.n 0) [⟨(bD s k).pos,1⟩,⟨(bD s o).pos,1⟩]:=⟨fun j hj=>by
  rw[hz j hj];have e:Bp s [⟨(bD s k).pos,1⟩,⟨(bD s o).pos,1⟩] j=cu s.u s.n (aI s.known (bD s k).pos).c j+1*cu s.u s.n (aI s.known (bD s o).pos).c j:=zG fun r hr=>by
   rw[dJ hr];show 1*_+(1*_+0)=_;dsimp only;omega
  rw[e,<-hI.df _ (gT hlt) j hj,<-hI.df _ (gT ho) j hj,hog,ig];omega,fun j hj _=>hz j hj⟩
 have hdok:(put s (List.replicate s.n 0) [⟨(bD s k).pos,1⟩,⟨(bD s o).pos,1⟩]).1=false:=by
  show mH s _ _=false;unfold mH;rw[LF hP,hdv,hgc];have:fW s.known [⟨(bD s k).pos,1⟩,⟨(bD s o).pos,1⟩]=(aI s.known (bD s k).pos).b+(aI s.known (bD s o).pos).b:=by
   show 1*_+(1*_+0)=_;dsimp only;omega
  rw[this];simp;omega
 refine⟨⟨hP,hPS,by rw[hdv];exact bO jA (by decide)⟩,?_⟩;show(if _ then _ else _)=_;rw[if_neg (by rw[hdok];simp)]
theorem PE{K Kk:Nat}{s:St}(hI:Inv s)(hs:gu K s)(hK:Kk+6<=K)(hKq:∀q∈s.known,fA Kk q)(hr:jd 1 s):Tm (fun N=>vu N s.to) (uv Kk s):=by
 have hL:cX=1099511627776:=rfl;have hil:=hs.il;have hKK:=hs.K;have hn:=hs.n;have hmi:s.to.items.length=s.items.length:=cN ..;have hgl:∀k,k<s.items.length->(bD s k).g.length=s.n:=fun k hk=>(hI.it _ (gT hk)).2;have hgd:∀k,k<s.items.length->∀v∈(bD s k).g,dl v<=8:=fun k hk=>(hs.i _ (gT hk)).2.2;have hdis:∀i j,i<s.items.length->j<s.items.length->(bD s i).g=(bD s j).g->i=j:=fun i j hi hj e=>by
  have:=MX.1 hI.j6;rcases MQ i j with h|h|h
  . exact absurd (by rw[<-lS hi,<-lS hj];exact e) (this i j hi hj h)
  . exact h
  . exact absurd (by rw[<-lS hi,<-lS hj];exact e.symm) (this j i hj hi h)
 unfold vu;refine Tm.bind (Q:=fun m=>(∀k,k<s.items.length->fq m (keyOf (bD s k).g) (0:Int)=((k:Int),true))/\∀t:List UInt8,(∀k,k<s.items.length->keyOf (bD s k).g≠t)->fq m t (0:Int)=(0,false)) (eL s.items.length (fun k t=>t.2=(k:Int)/\(∀j,j<k->fq t.1 (keyOf (bD s j).g) (0:Int)=((j:Int),true))/\∀u:List UInt8,(∀j,j<k->keyOf (bD s j).g≠u)->fq t.1 u (0:Int)=(0,false)) ⟨rfl,fun j hj=>by omega,fun u _=>rfl⟩ ?_) ?_
 . rintro k hk ⟨m,i⟩ ⟨rfl,h1,h2⟩;dsimp only at h1 h2;dsimp only[Ey];refine aY (fun hlt=>?_) (fun hge=>aM ?_)
   . have hlt:k<s.items.length:=by omega
     refine aN (sN hlt) (aU (Kw (g:=(bD s k).g) (by rw[hgl k hlt];omega) (fun v hv=>bO (hgd k hlt v hv) (by decide))) (aM ⟨hlt,ed (by omega),fun j hj=>?_,fun u hu=>?_⟩))
     . dsimp only;rw[EU];by_cases e:k=j
       . subst e;rw[if_pos rfl]
       . rw[if_neg,h1 j (by omega)];intro e2;exact e (hdis k j hlt (by omega) (GZ (by rw[hgl k hlt,hgl j (by omega)]) e2))
     . dsimp only;rw[EU,if_neg (hu k (by omega)),h2 u fun j hj=>hu j (by omega)]
   . have:k=s.items.length:=by omega
     subst this;exact⟨h1,h2⟩
 rintro m ⟨m1,m2⟩;dsimp only;have hopp:∀k,k<s.items.length->(∃o,o<s.items.length/\(bD s o).g=bT (bD s k).g/\fq m (keyOf (bT (bD s k).g)) (0:Int)=((o:Int),true))\/((∀o,o<s.items.length->(bD s o).g≠bT (bD s k).g)/\fq m (keyOf (bT (bD s k).g)) (0:Int)=(0,false)):=fun k hk=>by
  by_cases h:∃o,o<s.items.length/\(bD s o).g=bT (bD s k).g
  . obtain⟨o,ho,he⟩:=h;exact .inl ⟨o,ho,he,by rw[<-he];exact m1 o ho⟩
  . have h':∀o,o<s.items.length->(bD s o).g≠bT (bD s k).g:=fun o ho e=>h ⟨o,ho,e⟩;refine .inr ⟨h',m2 _ fun o ho e=>h' o ho (GZ (by rw[hgl o ho,iS,hgl k hk]) e)⟩
 have hbd:∀k,k<s.items.length->dl (aI s.known (bD s k).pos).b<=Kk:=fun k hk=>(hKq _ (eK (hI.it _ (gT hk)).1)).2;refine Tm.bind (Q:=fun r=>(r=.inl ()/\∀k o,k<s.items.length->o<s.items.length->k<=o->(bD s o).g=bT (bD s k).g->0<(aI s.known (bD s k).pos).b+(aI s.known (bD s o).pos).b)\/∃z,r=.inr z/\uv Kk s z)
  (eL s.items.length (fun k t=>t=(k:Int)/\∀k' o,k'<k->o<s.items.length->k'<=o->(bD s o).g=bT (bD s k').g->0<(aI s.known (bD s k').pos).b+(aI s.known (bD s o).pos).b) ⟨rfl,fun k' o h=>by omega⟩ ?_) ?_
 . rintro k hk _ ⟨rfl,hp⟩;dsimp only[El];refine aY (fun hlt=>?_) (fun hge=>aM (.inl ⟨rfl,fun k' o h1=>hp k' o (by omega)⟩));have hlt:k<s.items.length:=by omega
   have hng:∀v∈bT (bD s k).g,dl v<=8:=fun v hv=>by rw[<-fR];exact hgd k hlt _ (Fh hv)
   refine Tm.bind (Q:=fun r=>(r=.inl ()/\∀o,o<s.items.length->k<=o->(bD s o).g=bT (bD s k).g->0<(aI s.known (bD s k).pos).b+(aI s.known (bD s o).pos).b)\/∃z,r=.inr z/\uv Kk s z)
    (aN (sN hlt) (aU (rz (l:=(bD s k).g) (K:=8) (by omega) (by rw[hgl k hlt];omega) (hgd k hlt)) (aU (Kw (g:=bT (bD s k).g) (by rw[iS,hgl k hlt];omega) (fun v hv=>bO (hng v hv) (by decide))) ?_))) ?_
   . rcases hopp k hlt with⟨o,ho,hog,hom⟩|⟨hno,hom⟩
     . rw[hom];dsimp only;refine Tm.bind (Q:=fun c=>c=decide ((o:Int)<(k:Int))) (cz (by simp) (aM rfl)) ?_;rintro _ rfl;refine aY (fun hlt'=>aM (.inl ⟨rfl,fun o' ho' hko hg=>?_⟩)) (fun hlt'=>?_)
       . have:o'=o:=hdis o' o ho' ho (hg.trans hog.symm);have:=of_decide_eq_true hlt';omega
       . have hko:k<=o:=by
          have:¬((o:Int)<(k:Int)):=fun e=>hlt' (decide_eq_true e);omega
         have b1:=hbd k hlt;have b2:=hbd o ho;refine aU (rE (hI.it _ (gT hlt)).1) (aN (sN ho) (aU (rE (hI.it _ (gT ho)).1) (aU (mT (by omega) (by omega)) (aU (jm (bO (oO b1 b2) (by omega))) ?_))));refine aY (fun hs1=>?_) (fun hs1=>aY (fun hs2=>aM (.inr ⟨_,rfl,?_⟩)) (fun hs2=>aM (.inl ⟨rfl,fun o' ho' _ hg=>?_⟩)))
         . 
           have hlt0:(aI s.known (bD s k).pos).b+(aI s.known (bD s o).pos).b<0:=nY.1 (by omega);obtain⟨hP,hb⟩:=T7 hI hKq hlt ho hog hlt0;refine aN (ia (n:=s.n) rfl (by omega) (by decide)) (aU (jP (by decide) (by decide)) (aN (sN ho) (aU (jP (by decide) (by decide)) ?_)));rw[<-oC];have hput:=KA hs hP.1 hK hr;refine aU hput (aM (.inr ⟨_,rfl,?_⟩));dsimp only;rw[ir (by show(s.n:Int)=((put s _ _).2.n:Int);rw[BH])];exact .bad _ [.put (List.replicate s.n 0) [⟨(bD s k).pos,1⟩,⟨(bD s o).pos,1⟩]] (fun a ha=>by rw[cL.1 ha];exact hP) (fun a ha=>by rw[cL.1 ha];exact hP.1) (fun a ha=>by rw[cL.1 ha];exact fun v hv=>by rw[(yo.1 hv).2];simp) (by simp) hb
         . refine .some k o ⟨hlt,ho,fun e=>?_,fun m hm=>by rw[hog,ig],?_⟩
           . subst e;have h1:=hI.gG _ (gT hlt);have h2:(2:Int)∣((dc (bD s k).g:Nat):Int):=oR fun v hv=>by
              obtain⟨m,hm,rfl⟩:=gB hv;have:=congrArg (fun l=>vf l m) hog;simp only[ig]at this;have:vf (bD s k).g m=0:=by omega
              rw[this];exact yv 2
             rw[h1]at h2;omega
           . exact jD fun e=>ou.2 e hs2
         . have:o'=o:=hdis o' o ho' ho (hg.trans hog.symm);subst this;revert hs1 hs2;unfold bM;(repeat' split)<;>omega
     . rw[hom];refine Tm.bind (Q:=fun c=>c=true) (cT (by simp) (aM rfl)) ?_;rintro _ rfl;exact cT rfl (aM (.inl ⟨rfl,fun o ho _ hg=>absurd hg (hno o ho)⟩))
   . rintro r (⟨rfl,h⟩|⟨z,rfl,hz⟩)
     . refine aM ⟨hlt,ed (by omega),fun k' o h1 h2 h3 h4=>?_⟩;rcases cv k' k with h5|h5
       . exact hp k' o h5 h2 h3 h4
       . obtain rfl:k'=k:=by omega
         exact h o h2 h3 h4
     . exact aM (.inr ⟨z,rfl,hz⟩)
 . rintro r (⟨rfl,h⟩|⟨z,rfl,hz⟩)
   . refine aM (.none fun i j hi hj hg=>?_);have hg1:(bD s j).g=bT (bD s i).g:=ma (by rw[iS,hgl i hi,hgl j hj]) fun k hk=>by rw[ig];exact hg k (by rw[hgl j hj]at hk;exact hk)
     rcases Nat.le_total i j with h1|h1
     . exact h i j hi hj h1 hg1
     . have:=h j i hj hi h1 (by rw[hg1,Cd]);omega
   . exact aM hz
open Go Go.X
def Fe(N:Nat)(s:aR)(v:Int):((List aX)×(List aX)×Int)->Option (aK ((List aX)×(List aX)×Int) ((List aX)×(List aX)))
 |(a,b,c)=>(if(c:Int)<(List.length s.items:Int)then ((((idx s.items c).bind fun d=>(idx d.g v).bind fun f=>(gx N f).bind fun e=>(if(e:Int)=1 then (cP 32 a [d]).bind fun i=>some (i,b) else (if(e:Int)=(-1)then (cP 32 b [d]).bind fun j=>some (a,j) else some (a,b)))):Option ((List aX)×(List aX)))).bind fun ss=>match ss with
    |(k,l)=>some (aK.next (k,l,(iw (c+1)))) else some (aK.done (a,b)))
def rI(N:Nat)(s:aR)(v:Int):Option ((List aX)×(List aX)):=(bK (Fe N s v) N (([]:(List aX)),([]:(List aX)),0)).bind fun ss=>match ss with
  |(a,b)=>some (a,b)
def LN(N:Nat)(s:aR)(v:Int):((List aX)×(List aX)×Int)->Option (aK ((List aX)×(List aX)×Int) ((List aX)×(List aX)))
 |(a,b,c)=>(if(c:Int)<(List.length s.items:Int)then ((((idx s.items c).bind fun d=>(idx d.g v).bind fun f=>(gx N f).bind fun e=>(if(e:Int)=1 then (cP 32 a [d]).bind fun i=>some (i,b) else (if(e:Int)=(-1)then (cP 32 b [d]).bind fun j=>some (a,j) else some (a,b)))):Option ((List aX)×(List aX)))).bind fun ss=>match ss with
    |(k,l)=>some (aK.next (k,l,(iw (c+1)))) else some (aK.done (a,b)))
def sW(N:Nat)(s:aR)(v:Int):Option ((List aX)×(List aX)):=(bK (LN N s v) N (([]:(List aX)),([]:(List aX)),0)).bind fun ss=>match ss with
  |(a,b)=>some (a,b)
def Ch(N:Nat)(v:Int)(r1:((List aX)×(List aX))):(aB×Int)->Option (aK (aB×Int) aB)
 |(a,b)=>(if(b:Int)<(List.length r1.2:Int)then ((((idx r1.2 b).bind fun d=>(oD N v d r1.1).bind fun c=>(gx N c).bind fun e=>(if(e:Int)≥0 then (fL N 1000).bind fun f=>(iW N c f).bind fun g=>(j1 N a g).bind fun i=>some i else some a)):Option aB)).bind fun ss=>match ss with
    |j=>some (aK.next (j,(iw (b+1)))) else some (aK.done a))
def wg(N:Nat)(s:aR)(v:Int):Option (aB×Bool):=(rI N s v).bind fun r1=>(if((iw ((List.length r1.1:Int)+(List.length r1.2:Int))):Int)=0 then some ((aB.mk false ([]:(List Int))),false) else ((((if((List.length r1.1:Int):Int)=0 then some true else some (decide (((List.length r1.2:Int):Int)=0)))):Option Bool)).bind fun ss=>match ss with
   |x7=>(if x7=true then some ((aB.mk false ([]:(List Int))),true) else (fL N (iw ((List.length r1.1:Int)*(List.length r1.2:Int)))).bind fun a=>(bK (Ch N v r1) N (a,0)).bind fun ss=>match ss with
      |b=>some (b,true)))
def Fj(N:Nat)(s:aR):(Int×Bool×aB×Int)->Option (aK (Int×Bool×aB×Int) (Int×Bool))
 |(c,b,d,a)=>(if(a:Int)<s.n then ((((idx s.status a).bind fun f=>(if(f:Int)≠0 then some (c,b,d) else (wg N s a).bind fun e=>((((if e.2=true then (if(!b)=true then some true else (iE N e.1 d).bind fun g=>some (decide ((g:Int)<0))) else some false)):Option Bool)).bind fun ss=>match ss with
     |i=>(if i=true then some (a,true,e.1) else some (c,b,d)))):Option (Int×Bool×aB))).bind fun ss=>match ss with
    |(j,k,l)=>some (aK.next (j,k,l,(iw (a+1)))) else some (aK.done (c,b)))
def uF(N:Nat)(s:aR):Option (Int×Bool):=(bK (Fj N s) N (0,false,(aB.mk false ([]:(List Int))),0)).bind fun ss=>match ss with
  |(a,b)=>some (a,b)
def uJ(N:Nat)(s:aR)(v:Int):Option Bool:=(rI N s v).bind fun r1=>(if((List.length r1.1:Int):Int)=0 then some true else (Aa N r1.2 (fun y0=>tQ N y0 v r1.1)).bind fun r5=>some (!r5))
def Dq(N:Nat)(r2:(List aX)):((List Int)×Int)->Option (aK ((List Int)×Int) (List Int))
 |(b,a)=>(if(a:Int)<(List.length r2:Int)then (idx r2 a).bind fun c=>(cP 8 b [c.pos]).bind fun d=>some (aK.next (d,(iw (a+1)))) else some (aK.done b))
def zU(N:Nat)(c:(List aB))(d:aX)(e:aB)(f:aX)(i:aB):((List aB)×Int)->Option (aK ((List aB)×Int) (List aB))
 |(b,a)=>(if(a:Int)<(List.length c:Int)then (idx d.g a).bind fun j=>(j1 N e j).bind fun k=>(idx f.g a).bind fun l=>(j1 N i l).bind fun m=>(iW N k m).bind fun n=>(idx b a).bind fun p=>(di b a n).bind fun o=>some (aK.next (o,(iw (a+1)))) else some (aK.done b))
def Ep(N:Nat)(s:aR)(v:Int)(r1:((List aX)×(List aX)))(b:aX):((List bB)×(List Step)×(List (List aB))×(List Int)×(List aB)×(List aX)×(List dI)×Int)->Option (aK ((List bB)×(List Step)×(List (List aB))×(List Int)×(List aB)×(List aX)×(List dI)×Int) (Sum ((List bB)×(List Step)×(List (List aB))×(List Int)×(List aB)×(List aX)×(List dI)) (Bool×aR)))
 |(e,f,i,j,k,l,m,c)=>(if(c:Int)<(List.length r1.2:Int)then (idx r1.2 c).bind fun d=>(idx b.g v).bind fun o=>(idx d.g v).bind fun a0=>(ji N a0).bind fun p=>(fX (α:=aB) 32 (aB.mk false ([]:(List Int))) s.n).bind fun y=>(bK (zU N y b p d o) N (y,0)).bind fun ss=>match ss with
    |a1=>(mW N (aR.mk s.n e f i j k l m) a1 [(dQ.mk b.pos p),(dQ.mk d.pos o)]).bind fun a=>(if(!a.1)=true then some (aK.done (Sum.inr (false,(aR.mk s.n a.2.known a.2.steps a.2.u a.2.status a.2.value a.2.items a.2.stack)))) else some (aK.next (a.2.known,a.2.steps,a.2.u,a.2.status,a.2.value,a.2.items,a.2.stack,(iw (c+1))))) else some (aK.done (Sum.inl (e,f,i,j,k,l,m))))
def Et(N:Nat)(s:aR)(v:Int)(r1:((List aX)×(List aX))):((List bB)×(List Step)×(List (List aB))×(List Int)×(List aB)×(List aX)×(List dI)×Int)->Option (aK ((List bB)×(List Step)×(List (List aB))×(List Int)×(List aB)×(List aX)×(List dI)×Int) (Sum ((List bB)×(List Step)×(List (List aB))×(List Int)×(List aB)×(List aX)×(List dI)) (Bool×aR)))
 |(b,c,d,e,f,g,i,a)=>(if(a:Int)<(List.length r1.1:Int)then (idx r1.1 a).bind fun j=>(bK (Ep N s v r1 j) N (b,c,d,e,f,g,i,0)).bind fun ss=>match ss with
    |(Sum.inl (k,l,m,n,o,p,u))=>some (aK.next (k,l,m,n,o,p,u,(iw (a+1))))
    |(Sum.inr z)=>some (aK.done (Sum.inr z)) else some (aK.done (Sum.inl (b,c,d,e,f,g,i))))
def n9(N:Nat)(s:aR)(v:Int)(dw:Bool):Option (Bool×aR):=(rI N s v).bind fun r1=>(uY N [r1.1,r1.2]).bind fun r2=>(bK (Dq N r2) N (([]:(List Int)),0)).bind fun ss=>match ss with
  |a=>(cP 40 s.stack [(dI.mk v a dw)]).bind fun b=>(idx s.status v).bind fun o=>(di s.status v 2).bind fun c=>(qC N s.items).bind fun d=>(vU N d (fun y0=>tR N y0 v)).bind fun e=>(bK (Et N s v r1) N (s.known,s.steps,s.u,c,s.value,e,b,0)).bind fun ss=>match ss with
    |(Sum.inl (f,g,i,j,k,l,m))=>some (true,(aR.mk s.n f g i j k l m))
    |(Sum.inr z)=>some z
def Cq(N:Nat)(s:aR)(j:Int)(x1:bB):(aB×Int)->Option (aK (aB×Int) aB)
 |(b,a)=>(if(a:Int)<(List.length x1.aZ:Int)then (idx x1.aZ a).bind fun c=>(idx s.u a).bind fun d=>(idx d j).bind fun e=>(j1 N c e).bind fun f=>(iW N b f).bind fun g=>some (aK.next (g,(iw (a+1)))) else some (aK.done b))
def tI(N:Nat)(s:aR)(vat1:Int)(j:Int):Option aB:=(idx s.known vat1).bind fun x1=>(bK (Cq N s j x1) N ((aB.mk false ([]:(List Int))),0)).bind fun ss=>match ss with
  |a=>some a
def Bt(N:Nat)(s:aR)(e:dI)(y:(List aB))(c:Int):(aB×Int)->Option (aK (aB×Int) aB)
 |(b,a)=>(if(a:Int)<(List.length y:Int)then ((((if(a:Int)≠e.v then (tI N s c a).bind fun d=>(idx y a).bind fun f=>(j1 N d f).bind fun g=>(iT N b g).bind fun i=>some i else some b)):Option aB)).bind fun ss=>match ss with
    |j=>some (aK.next (j,(iw (a+1)))) else some (aK.done b))
def Ez(N:Nat)(s:aR)(e:dI)(y:(List aB)):(aB×aB×Bool×Bool×Int)->Option (aK (aB×aB×Bool×Bool×Int) (aB×aB×Bool×Bool))
 |(a,b,c,d,f)=>(if(f:Int)<(List.length e.items:Int)then ((((idx e.items f).bind fun g=>(idx s.known g).bind fun m=>(bK (Bt N s e y g) N (m.dz,0)).bind fun ss=>match ss with
    |j=>(tI N s g e.v).bind fun i=>(gx N i).bind fun n=>(if(n:Int)>0 then (kA N j i).bind fun k=>((((if(!d)=true then some true else (iE N k.1 b).bind fun o=>some (decide ((o:Int)<0)))):Option Bool)).bind fun ss=>match ss with
       |p=>(if p=true then some (a,k.1,c,true) else some (a,b,c,d)) else (ji N i).bind fun u=>(kA N j u).bind fun a0=>(ji N a0.1).bind fun l=>((((if(!c)=true then some true else (iE N l a).bind fun a1=>some (decide ((a1:Int)>0)))):Option Bool)).bind fun ss=>match ss with
       |a2=>(if a2=true then some (l,b,true,d) else some (a,b,c,d)))):Option (aB×aB×Bool×Bool))).bind fun ss=>match ss with
    |(a3,a4,a5,a6)=>some (aK.next (a3,a4,a5,a6,(iw (f+1)))) else some (aK.done (a,b,c,d)))
def nq(N:Nat)(s:aR)(e:dI)(y:(List aB)):Option (aB×Bool):=(bK (Ez N s e y) N ((aB.mk false ([]:(List Int))),(aB.mk false ([]:(List Int))),false,false,0)).bind fun ss=>match ss with
  |(a,b,c,d)=>(if(!c)=true then some (b,true) else (if(!d)=true then some (a,true) else (iE N a b).bind fun f=>some (a,(decide ((f:Int)<=0)))))
def jz(N:Nat)(s:aR):Option bX:= some (bX.mk 1 ([]:(List aB)) (Proof.mk s.steps ([]:(List aB)) (aB.mk false ([]:(List Int))) ([]:(List Proof))) 0)
def Fv(N:Nat)(n:Int):((List (List aB))×Int)->Option (aK ((List (List aB))×Int) (List (List aB)))
 |(b,a)=>(if(a:Int)<n then (fX (α:=aB) 32 (aB.mk false ([]:(List Int))) n).bind fun c=>(fL N 1).bind fun d=>(idx c a).bind fun g=>(di c a d).bind fun e=>(cP 24 b [e]).bind fun f=>some (aK.next (f,(iw (a+1)))) else some (aK.done b))
def wG(N:Nat)(n:Int)(system:(List bB)):Option aR:=(zf N system).bind fun r1=>(fX (α:=Int) 8 0 n).bind fun x2=>(fX (α:=aB) 32 (aB.mk false ([]:(List Int))) n).bind fun x3=>(bK (Fv N n) N (([]:(List (List aB))),0)).bind fun ss=>match ss with
  |a=>some (aR.mk n r1 ([]:(List Step)) a x2 x3 ([]:(List aX)) ([]:(List dI)))
def qI(N:Nat)(s:aR):Option aR:=(Bz N s.known).bind fun r1=>(CE N s.steps).bind fun r2=>(zi N s.u).bind fun r3=>(AW N s.status).bind fun r4=>(ns N s.value).bind fun r5=>(qC N s.items).bind fun r6=>(CW N s.stack).bind fun r7=>some (aR.mk s.n r1 r2 r3 r4 r5 r6 r7)
def mz(N:Nat)(s:aR)(q:bB):Option aR:=(qI N s).bind fun r1=>(cP 56 r1.known [q]).bind fun x2=>some (aR.mk r1.n x2 ([]:(List Step)) r1.u r1.status r1.value r1.items r1.stack)
def qF(N:Nat)(s:aR)(form:(List aB))(bound:aB)(left:bX)(right:bX):Option bX:= some (bX.mk 1 ([]:(List aB)) (Proof.mk s.steps form bound [left.proof,right.proof]) 0)
def ED(N:Nat)(v:Int)(r1:((List aX)×(List aX))):(aB×Int)->Option (aK (aB×Int) aB)
 |(a,b)=>(if(b:Int)<(List.length r1.2:Int)then ((((idx r1.2 b).bind fun d=>(oD N v d r1.1).bind fun c=>(gx N c).bind fun e=>(if(e:Int)≥0 then (fL N 1).bind fun f=>(iW N c f).bind fun g=>(iW N a g).bind fun i=>some i else some a)):Option aB)).bind fun ss=>match ss with
    |j=>some (aK.next (j,(iw (b+1)))) else some (aK.done a))
def w5(N:Nat)(s:aR)(v:Int):Option aB:=(sW N s v).bind fun r1=>(bK (ED N v r1) N ((aB.mk false ([]:(List Int))),0)).bind fun ss=>match ss with
  |a=>some a
def EH(N:Nat)(s:aR)(e:(Int×Bool))(f:aX):(gH×Bool×Int)->Option (aK (gH×Bool×Int) (gH×Bool))
 |(a,b,c)=>(if(c:Int)<(List.length s.items:Int)then ((((idx s.items c).bind fun d=>(uk N d).bind fun i=>((((if(!i.2)=true then some true else (if(i.1:Int)≠e.1 then some true else (idx d.g e.1).bind fun l=>(gx N l).bind fun m=>some (decide ((m:Int)>0))))):Option Bool)).bind fun ss=>match ss with
    |n=>(if n=true then some (a,b) else (xg N s d).bind fun o=>(ji N o).bind fun j=>(xg N s f).bind fun k=>((((if(!b)=true then some true else (iT N k j).bind fun p=>(iT N a.high a.low).bind fun u=>(iE N p u).bind fun v=>some (decide ((v:Int)<0)))):Option Bool)).bind fun ss=>match ss with
       |y=>(if y=true then some ((gH.mk f j k),true) else some (a,b)))):Option (gH×Bool))).bind fun ss=>match ss with
    |(a0,a1)=>some (aK.next (a0,a1,(iw (c+1)))) else some (aK.done (a,b)))
def FF(N:Nat)(s:aR):(gH×Bool×Int)->Option (aK (gH×Bool×Int) (gH×Bool))
 |(a,b,c)=>(if(c:Int)<(List.length s.items:Int)then ((((idx s.items c).bind fun d=>(uk N d).bind fun e=>((((if(!e.2)=true then some true else (idx d.g e.1).bind fun f=>(gx N f).bind fun i=>some (decide ((i:Int)<0)))):Option Bool)).bind fun ss=>match ss with
    |j=>(if j=true then some (a,b) else (bK (EH N s e d) N (a,b,0)).bind fun ss=>match ss with
       |(k,l)=>some (k,l))):Option (gH×Bool))).bind fun ss=>match ss with
    |(m,n)=>some (aK.next (m,n,(iw (c+1)))) else some (aK.done (a,b)))
def wN(N:Nat)(s:aR):Option (gH×Bool):=(bK (FF N s) N ((gH.mk (aX.mk 0 ([]:(List aB))) (aB.mk false ([]:(List Int))) (aB.mk false ([]:(List Int)))),false,0)).bind fun ss=>match ss with
  |(a,b)=>some (a,b)
end Go.D
set_option maxHeartbeats 1000000
namespace Go.D
open Go Go.X
def cx(v:Nat)(l:List AI):List AI:=l.filter fun x=>decide (0<vf x.g v)
def dh(v:Nat)(l:List AI):List AI:=l.filter fun x=>decide (vf x.g v<0)
theorem j4{v:Nat}{l:List AI}{x:AI}:x∈cx v l↔x∈l/\0<vf x.g v:=by simp[cx]
theorem gY{v:Nat}{l:List AI}{x:AI}:x∈dh v l↔x∈l/\vf x.g v<0:=by simp[dh]
def mI(l:List AI):List aX:=l.map AI.to
theorem eY(l:List AI):(mI l).length=l.length:=cN ..
theorem o8{l:List AI}{k:Nat}(h:k<l.length):idx (mI l) (k:Int)=some (l[k]).to:=by
 unfold mI;rw[dd (by simpa using h),kM]
def iH(n:Nat)(l:List AI):Prop:=l.length<=1073741824/\∀x∈l,x.g.length=n/\∀w∈x.g,dl w<=8
theorem iH.vf{n:Nat}{l:List AI}(h:iH n l){x:AI}(hx:x∈l)(v:Nat):dl (vf x.g v)<=8:=jJ.vf ⟨(h.2 x hx).1,(h.2 x hx).2⟩ v
theorem iH.sub{n:Nat}{l m:List AI}(h:iH n l)(hl:m.length<=l.length)(hm:∀x∈m,x∈l):iH n m:=⟨by have:=h.1;omega,fun x hx=>h.2 x (hm x hx)⟩
theorem pC{n v:Nat}{l:List AI}(h:iH n l):iH n (cx v l):=h.sub (th ..) fun x hx=>(j4.1 hx).1
theorem xj{n v:Nat}{l:List AI}(h:iH n l):iH n (dh v l):=h.sub (th ..) fun x hx=>(gY.1 hx).1
theorem KP{a:Int}:bM a 0=1↔0<a:=by unfold bM;(repeat' split)<;>omega
theorem KI{a:Int}:bM a 0=-1↔a<0:=by unfold bM;(repeat' split)<;>omega
theorem T5{a:Int}:bM a 0≥0↔0<=a:=by unfold bM;(repeat' split)<;>omega
theorem R5{v:Nat}{l:List AI}{k:Nat}(h:k<l.length):cx v (l.take (k+1))=cx v (l.take k)++(if 0<vf (l[k]).g v then[l[k]]else[]):=by
 unfold cx;rw[<-jW h,B8];congr 1;by_cases e:0<vf (l[k]).g v<;>simp[e]
theorem N9{v:Nat}{l:List AI}{k:Nat}(h:k<l.length):dh v (l.take (k+1))=dh v (l.take k)++(if vf (l[k]).g v<0 then[l[k]]else[]):=by
 unfold dh;rw[<-jW h,B8];congr 1;by_cases e:vf (l[k]).g v<0<;>simp[e]
theorem zR{s:St}{v:Nat}(hi:iH s.n s.items)(hv:v<s.n):Tm (fun N=>rI N s.to (v:Int)) (·=(mI (cx v s.items),mI (dh v s.items))):=by
 have hl:=hi.1;have hmi:s.to.items.length=s.items.length:=cN ..;unfold rI;refine aU (a:=(mI (cx v s.items),mI (dh v s.items))) (eL s.items.length (fun k t=>t=(mI (cx v (s.items.take k)),mI (dh v (s.items.take k)),(k:Int))) rfl ?_) (aM rfl);rintro k hk _ rfl;dsimp only[Fe];refine aY (fun hlt=>?_) (fun hge=>aM ?_)
 . have hlt:k<s.items.length:=by omega
   have hm:=du hlt;have hd:=hi.vf hm v;have lu:(cx v (s.items.take k)).length<=k:=bO (th ..) (by rw[eR];omega);have ll:(dh v (s.items.take k)).length<=k:=bO (th ..) (by rw[eR];omega);refine aU (a:=(mI (cx v (s.items.take (k+1))),mI (dh v (s.items.take (k+1))))) ?_ (aM ⟨hlt,by rw[ed (by omega)]⟩);rw[R5 hlt,N9 hlt];refine aN (a:=(s.items[k]).to) (by show idx (mI s.items) _=_;exact o8 hlt) (aN (ej (l:=(s.items[k]).g) (by rw[(hi.2 _ hm).1];exact hv)) (aU (jm (bO hd (by decide))) ?_));refine aY (fun h1=>?_) (fun h1=>aY (fun h2=>?_) (fun h2=>aM ?_))
   . have h1:=KP.1 h1;refine aN (dO (by rw[eY];simp only[cA,dP];omega) (by decide)) (aM ?_);rw[if_pos h1,if_neg (by omega)];simp[mI]
   . have h2:=KI.1 h2;refine aN (dO (by rw[eY];simp only[cA,dP];omega) (by decide)) (aM ?_);rw[if_pos h2,if_neg (by omega)];simp[mI]
   . rw[if_neg fun e=>h1 (KP.2 e),if_neg fun e=>h2 (KI.2 e)];simp[mI]
 . show _=_;rw[fh (by omega)]
theorem wx{s:St}{v:Nat}(hi:iH s.n s.items)(hv:v<s.n):Tm (fun N=>sW N s.to (v:Int)) (·=(mI (cx v s.items),mI (dh v s.items))):=zR hi hv
def j5(v:Nat)(l:List AI)(a:Int):Int:=l.foldl (fun a y=>if a<vf y.g v then vf y.g v else a) a
theorem K3{v:Nat}:∀{l:List AI} {a:Int},a<=j5 v l a/\∀x∈l,vf x.g v<=j5 v l a
 |[],a=>⟨mZ _,fun x hx=>by cases hx⟩
 |y::l,a=>by
  obtain⟨h1,h2⟩:=K3 (v:=v) (l:=l) (a:=if a<vf y.g v then vf y.g v else a);refine⟨?_,fun x hx=>?_⟩
  . show a<=j5 v l _;split at h1<;>rename_i h<;>simp only[h,if_true,if_false]<;>omega
  . rcases dZ.1 hx with rfl|hx
    . show _<=j5 v l _;split at h1<;>rename_i h<;>simp only[h,if_true,if_false]<;>omega
    . exact h2 x hx
theorem CK{v:Nat}:∀{l:List AI} {a:Int},j5 v l a=a\/∃x∈l,j5 v l a=vf x.g v
 |[],a=>.inl rfl
 |y::l,a=>by
  have e:j5 v (y::l) a=j5 v l (if a<vf y.g v then vf y.g v else a):=rfl;rw[e];rcases CK (v:=v) (l:=l) (a:=if a<vf y.g v then vf y.g v else a)with h|⟨x,hx,h⟩
  . rw[h];split
    . exact .inr ⟨y,cK,rfl⟩
    . exact .inl rfl
  . exact .inr ⟨x,cH _ hx,h⟩
def dV(v:Nat)(l:List AI):Int:=j5 v l (vf (l.headD ⟨0,[]⟩).g v)
theorem Mb{v:Nat}{l:List AI}:∀x∈l,vf x.g v<=dV v l:=K3.2
theorem EW{v:Nat}{l:List AI}(h:l≠[]):∃x∈l,dV v l=vf x.g v:=by
 cases l with
 |nil=>exact absurd rfl h
 |cons y r=>
  rcases CK (v:=v) (l:=y::r) (a:=vf y.g v)with h|h
  . exact⟨y,cK,h⟩
  . exact h
def gI(v:Nat)(low:AI)(bR:List AI):Int:=(dV v bR*-vf low.g v-dV v bR- -vf low.g v).fdiv (dV v bR)
theorem xD{n v:Nat}{low:AI}{bR:List AI}(h:iH n bR)(h0:bR≠[])(hl:dl (vf low.g v)<=8):dl (gI v low bR)<=18:=by
 obtain⟨x,hx,e⟩:=EW (v:=v) h0;have h1:=h.vf hx v;rw[<-e]at h1;have h2:=kh (dV v bR) (-vf low.g v);rw[fR]at h2;have h3:=jL (K:=16) (a:=dV v bR*-vf low.g v) (b:=dV v bR) (by omega) (by omega);have h4:=jL (K:=17) (a:=dV v bR*-vf low.g v-dV v bR) (b:=-vf low.g v) (by omega) (by rw[fR];omega);exact bO (se _ _) (by omega)
theorem wz{n v:Nat}{low:AI}{bR:List AI}(h:iH n bR)(h0:bR≠[])(hll:low.g.length=n)(hl:dl (vf low.g v)<=8)(hv:v<n):Tm (fun N=>oD N (v:Int) low.to (mI bR)) (·=B (gI v low bR)):=by
 have hL:cX=1099511627776:=rfl;have hul:=h.1;have hlen:0<bR.length:=pL.2 h0;obtain⟨u0,r,hur⟩:∃u r,bR=u::r:=by
  cases bR with
  |nil=>exact absurd rfl h0
  |cons u r=>exact⟨u,r,rfl⟩
 have hmem0:u0∈bR:=by rw[hur];exact cK
 have hdl:∀k,dl (j5 v (bR.take k) (vf u0.g v))<=8:=fun k=>by
  rcases CK (v:=v) (l:=bR.take k) (a:=vf u0.g v)with e|⟨x,hx,e⟩
  . rw[e];exact h.vf hmem0 v
  . rw[e];exact h.vf (qQ hx) v
 unfold oD;refine aN (a:=u0.to) (by rw[hur];rfl) (aN (ej (l:=u0.g) (by rw[(h.2 _ hmem0).1];exact hv)) ?_);refine aU (a:=B (dV v bR)) (eL bR.length (fun k t=>t=(B (j5 v (bR.take k) (vf u0.g v)),(k:Int))) rfl ?_) ?_
 . rintro k hk _ rfl;dsimp only[CF];rw[eY];refine aY (fun hlt=>?_) (fun hge=>aM ?_)
   . have hlt:k<bR.length:=by omega
     have hm:=du hlt;have hstep:j5 v (bR.take (k+1)) (vf u0.g v)=if j5 v (bR.take k) (vf u0.g v)<vf (bR[k]).g v then vf (bR[k]).g v else j5 v (bR.take k) (vf u0.g v):=by
      unfold j5;rw[<-jW hlt,MI];rfl
     have hi:=ej (l:=(bR[k]).g) (k:=v) (by rw[(h.2 _ hm).1];exact hv);have hvk:=h.vf hm v;have hdk:=hdl k;refine aN (o8 hlt) (aN hi (aU (j2 (by omega) (by omega)) (aY (fun h1=>aN hi (aM ⟨hlt,?_⟩)) (fun h1=>aM ⟨hlt,?_⟩))))
     . rw[ed (by omega),hstep,if_pos (by unfold bM at h1;(repeat' split at h1)<;>omega)]
     . rw[ed (by omega),hstep,if_neg (by unfold bM at h1;(repeat' split at h1)<;>omega)]
   . show _=_;rw[fh (by omega)];unfold dV;rw[hur];rfl
 . dsimp only;have ha:dl (dV v bR)<=8:=by
    obtain⟨x,hx,e⟩:=EW (v:=v) h0;rw[e];exact h.vf hx v
   have h2:=kh (dV v bR) (-vf low.g v);rw[fR]at h2;have h3:=jL (K:=16) (a:=dV v bR*-vf low.g v) (b:=dV v bR) (by omega) (by omega);have h4:=jL (K:=17) (a:=dV v bR*-vf low.g v-dV v bR) (b:=-vf low.g v) (by omega) (by rw[fR];omega);refine aN (ej (l:=low.g) (by omega)) (aU (nF (by omega)) (aU (nT (by omega) (by rw[fR];omega)) (aU (l6 (by omega) (by omega)) (aU (l6 (by omega) (by rw[fR];omega)) (Tm.bind (qz (by omega) (by omega)) fun r hr=>aM ?_)))));rw[hr];rfl
theorem Sk{s:St}{v:Nat}(hi:iH s.n s.items)(hv:v<s.n):Tm (fun N=>wg N s.to (v:Int)) (fun r=>(r.2=true↔∃x∈s.items,vf x.g v≠0)/\∃c,r.1=B c/\dl c<=cX):=by
 have hL:cX=1099511627776:=rfl;have hl:=hi.1;have hu:=(pC (v:=v) hi).1;have hw:=(xj (v:=v) hi).1;have hex:(∃x∈s.items,vf x.g v≠0)↔cx v s.items≠[]\/dh v s.items≠[]:=by
  constructor
  . rintro⟨x,hx,h⟩;rcases tm h with h|h
    . exact .inr (Gk (gY.2 ⟨hx,h⟩))
    . exact .inl (Gk (j4.2 ⟨hx,h⟩))
  . rintro(h|h)
    . obtain⟨x,hx⟩:=Uy _ h;exact⟨x,(j4.1 hx).1,by have:=(j4.1 hx).2;omega⟩
    . obtain⟨x,hx⟩:=Uy _ h;exact⟨x,(gY.1 hx).1,by have:=(gY.1 hx).2;omega⟩
 have hul:∀{l:List AI},l≠[]↔l.length≠0:=fun{l}=>by rw[ne_eq,<-mh]
 rw[hex,hul,hul];unfold wg;refine aU (zR hi hv) ?_;dsimp only;rw[eY,eY];refine aY (fun h0=>aM ⟨?_,0,B0.symm,by rw[ie];omega⟩) (fun h0=>?_)
 . rw[bJ (by omega) (by omega)]at h0;exact⟨fun e=>(by cases e),fun e=>by omega⟩
 . rw[bJ (by omega) (by omega)]at h0;refine Tm.bind (Q:=fun c=>c=decide ((cx v s.items).length=0\/(dh v s.items).length=0)) (aY (fun h=>aM ?_) (fun h=>aM ?_)) ?_
   . rw[decide_eq_true];omega
   . apply decide_eq_decide.2;omega
   rintro _ rfl;refine aY (fun h1=>aM ⟨?_,0,B0.symm,by rw[ie];omega⟩) (fun h1=>?_)
   . exact⟨fun _=>by omega,fun _=>rfl⟩
   . have h1:¬((cx v s.items).length=0\/(dh v s.items).length=0):=fun e=>h1 (decide_eq_true e);have hun:cx v s.items≠[]:=hul.2 (by omega);have hmul:((cx v s.items).length:Int)*((dh v s.items).length:Int)<=1073741824*1073741824:=ni (by omega) (by omega) (by omega) (by omega);have hmul0:0<=((cx v s.items).length:Int)*((dh v s.items).length:Int):=eH (by omega) (by omega);rw[bJ (by omega) (by omega)];refine aU (jP (by omega) (by omega)) ?_;refine Tm.bind (Q:=fun r=>∃c,r=B c/\dl c<=cX) (eL (dh v s.items).length (fun k t=>∃c,t=(B c,(k:Int))/\dl c<=2+20*k) ⟨_,rfl,EE (by omega)⟩ ?_) ?_
     . rintro k hk _ ⟨c,rfl,hc⟩;dsimp only[Ch];rw[eY];refine aY (fun hlt=>?_) (fun hge=>aM ⟨c,rfl,by omega⟩);have hlt:k<(dh v s.items).length:=by omega
       have hm:=du hlt;have hlo:=(xj (v:=v) hi);have hsd:=xD (low:=(dh v s.items)[k]) (pC (v:=v) hi) hun (hlo.vf hm v);refine Tm.bind (Q:=fun r=>∃c,r=B c/\dl c<=2+20*(k+1)) (aN (o8 hlt) (aU (wz (pC (v:=v) hi) hun (hlo.2 _ hm).1 (hlo.vf hm v) hv) (aU (jm (by omega)) (aY (fun h2=>?_) (fun h2=>aM ⟨c,rfl,by omega⟩))))) ?_
       . have h1000:dl 1000<=18:=bO (j9 (by decide)) (by decide);have ha:=oO hsd h1000;refine aU (jP (by decide) (by decide)) (aU (mT (by omega) (by omega)) (aU (nT (by omega) (by omega)) (aM ⟨_,rfl,?_⟩)));have:=kh c (gI v (dh v s.items)[k] (cx v s.items)+1000);omega
       . rintro _ ⟨c',rfl,hc'⟩;exact aM ⟨hlt,c',by rw[ed (by omega)],hc'⟩
     . rintro _ ⟨c,rfl,hc⟩;exact aM ⟨⟨fun _=>by omega,fun _=>rfl⟩,c,rfl,hc⟩
theorem TT{s:St}(hi:iH s.n s.items)(hst:s.status.length=s.n)(hn:s.n<=512):Tm (fun N=>uF N s.to) (fun r=>(r.2=true/\∃v:Nat,r.1=(v:Int)/\v<s.n/\vf s.status v=0/\∃x∈s.items,vf x.g v≠0)\/(r.2=false/\∀v,v<s.n->vf s.status v=0->∀x∈s.items,vf x.g v=0)):=by
 have hL:cX=1099511627776:=rfl;unfold uF;refine Tm.bind (Q:=fun r=>(r.2=true/\∃v:Nat,r.1=(v:Int)/\v<s.n/\vf s.status v=0/\∃x∈s.items,vf x.g v≠0)\/(r.2=false/\∀v,v<s.n->vf s.status v=0->∀x∈s.items,vf x.g v=0))
  (eL s.n (fun k t=>t.2.2.2=(k:Int)/\(∃c,t.2.2.1=B c/\dl c<=cX)/\((t.2.1=true/\∃v:Nat,t.1=(v:Int)/\v<s.n/\vf s.status v=0/\∃x∈s.items,vf x.g v≠0)\/(t.2.1=false/\∀v,v<k->vf s.status v=0->∀x∈s.items,vf x.g v=0)))
   ⟨rfl,⟨0,B0.symm,by rw[ie];omega⟩,.inr ⟨rfl,fun v hv=>by omega⟩⟩ ?_) fun r hr=>aM hr
 rintro k hk ⟨b,f,l,i⟩ ⟨rfl,⟨c,rfl,hc⟩,hI⟩;dsimp only at hI;dsimp only[Fj];refine aY (fun hlt=>?_) (fun hge=>aM ?_)
 . have hlt:k<s.n:=by have:(k:Int)<(s.n:Int):=hlt;omega
   refine Tm.bind (Q:=fun r=>(∃c,r.2.2=B c/\dl c<=cX)/\((r.2.1=true/\∃v:Nat,r.1=(v:Int)/\v<s.n/\vf s.status v=0/\∃x∈s.items,vf x.g v≠0)\/(r.2.1=false/\∀v,v<k+1->vf s.status v=0->∀x∈s.items,vf x.g v=0))) (aN (yI (l:=s.status) (by omega)) (aY (fun h1=>aM ⟨⟨c,rfl,hc⟩,?_⟩) (fun h1=>?_))) ?_
   . dsimp only;rcases hI with hI|⟨h2,h3⟩
     . exact .inl hI
     . refine .inr ⟨h2,fun v hv h0=>?_⟩;rcases cv v k with h4|h4
       . exact h3 v h4 h0
       . obtain rfl:v=k:=by omega
         exact absurd h0 h1
   . have h1:vf s.status k=0:=tj.1 h1;refine Tm.bind (Sk hi hlt) ?_;rintro⟨pc,ok⟩ ⟨hp,c',hc',hcl'⟩;dsimp only at hp hc'⊢;subst hc';refine Tm.bind (Q:=fun t=>(t=true->ok=true)/\(t=false->ok=true->f=true)) (aY (fun h2=>aY (fun h3=>aM ⟨fun _=>h2,fun e=>(by cases e)⟩) (fun h3=>aU (j2 hcl' hc) (aM ⟨fun _=>h2,fun _ _=>by simpa using h3⟩))) (fun h2=>aM ⟨fun e=>(by cases e),fun _ e=>absurd e h2⟩)) ?_;rintro t ⟨ht1,ht2⟩;refine aY (fun h2=>aM ⟨⟨c',rfl,hcl'⟩,.inl ⟨rfl,k,rfl,hlt,h1,hp.1 (ht1 h2)⟩⟩) (fun h2=>aM ⟨⟨c,rfl,hc⟩,?_⟩);dsimp only;rcases hI with hI|⟨h3,h4⟩
     . exact .inl hI
     . refine .inr ⟨h3,fun v hv h0 x hx=>?_⟩;rcases cv v k with h5|h5
       . exact h4 v h5 h0 x hx
       . obtain rfl:v=k:=by omega
         refine jD fun e=>?_;have:=ht2 (by simpa using h2) (hp.2 ⟨x,hx,e⟩);rw[h3]at this;cases this
   . rintro⟨b',f',l'⟩ ⟨⟨c',hc',hcl'⟩,h2⟩;exact aM ⟨hlt,ed (by omega),⟨c',hc',hcl'⟩,h2⟩
 . have:k=s.n:=by have:¬(k:Int)<(s.n:Int):=hge;omega
   subst this;exact hI
theorem Hl{l:List AI}{f:Nat->aX->Option Bool}{g:AI->Bool}(hl:l.length<=1073741824)(h:∀x∈l,Tm (fun N=>f N x.to) (·=g x)):Tm (fun N=>vB N (mI l) (f N)) (fun r=>(l.any g=false/\r=-1)\/∃k,∃hk:k<l.length,g l[k]=true/\(∀j (hj:j<k),g (l[j]'(by omega))=false)/\r=(k:Int)):=by
 unfold vB;refine Tm.bind (Tm.findL (b:=fun N=>wE N (f N) (mI l)) l g (fun k=>(k:Int)) (by omega) ?_ ?_) ?_
 . intro k hk;dsimp only[wE];refine cT (by rw[eY];omega) (aN (o8 hk) (aU (h _ (du hk)) ?_));refine aY (fun h=>aM ?_) (fun h=>aM ?_)
   . simp[h]
   . simp[h]
 . dsimp only[wE];exact cz (by rw[eY];omega) (aM rfl)
 . rintro _ (⟨h,rfl⟩|⟨k,hk,hg,hj,rfl⟩)
   . exact aM (.inl ⟨h,rfl⟩)
   . exact aM (.inr ⟨k,hk,hg,hj,rfl⟩)
def rq(s:St)(v:Nat):Prop:=cx v s.items=[]\/∀x∈dh v s.items,gI v x (cx v s.items)<0
theorem OX{s:St}{v:Nat}(hi:iH s.n s.items)(hv:v<s.n):Tm (fun N=>uJ N s.to (v:Int)) (fun r=>r=true↔rq s v):=by
 have hL:cX=1099511627776:=rfl;unfold uJ;refine aU (zR hi hv) ?_;dsimp only;rw[eY];refine aY (fun h0=>aM ⟨fun _=>.inl (mh.1 (by omega)),fun _=>rfl⟩) (fun h0=>?_);have hun:cx v s.items≠[]:=fun e=>h0 (by rw[e];rfl);have hlo:=xj (v:=v) hi;refine aU (a:=(dh v s.items).any fun x=>decide (0<=gI v x (cx v s.items))) ?_ (aM ?_)
 . unfold Aa;refine Tm.bind (Hl (f:=fun N y0=>tQ N y0 (v:Int) (mI (cx v s.items))) (g:=fun x=>decide (0<=gI v x (cx v s.items))) hlo.1 fun x hx=>?_) ?_
   . unfold tQ;refine aU (wz (pC (v:=v) hi) hun (hlo.2 _ hx).1 (hlo.vf hx v) hv) (aU (jm (by have:=xD (low:=x) (pC (v:=v) hi) hun (hlo.vf hx v);omega)) (aM ?_));exact decide_eq_decide.2 T5
   . rintro r (⟨h,rfl⟩|⟨k,hk,hg,-,rfl⟩)
     . exact aM (by rw[h];rfl)
     . exact aM (by rw[List.any_eq_true.2 ⟨_,du hk,hg⟩];simp)
 . rw[F5,Mx];unfold rq;constructor
   . exact fun h=>.inr fun x hx=>by have:=h x hx;simpa using this
   . rintro(h|h) x hx
     . exact absurd h hun
     . have:=h x hx;simpa using this
end Go.D
set_option maxHeartbeats 1000000
namespace Go.D
open Go Go.X
theorem Kv{a b:List AI}(ha:a.length<=1073741824)(hb:b.length<=1073741824):Tm (fun N=>uY N [mI a,mI b]) (·=mI (a++b)):=by
 unfold uY;have hw:∀z:Int,0<=z->z<=4294967296->iw z=z:=fun z h1 h2=>bJ (by omega) (by omega);have two:(0:Int)<(([mI a,mI b]:List (List aX)).length:Int):=by simp
 have two1:(1:Int)<(([mI a,mI b]:List (List aX)).length:Int):=by simp
 refine aU (a:=((a.length+b.length:Nat):Int)) ?_ ?_
 . refine eL 2 (fun k t=>(k=0->t=(0,0))/\(k=1->t=((a.length:Int),1))/\(k=2->t=(((a.length+b.length:Nat):Int),2))) ⟨fun _=>rfl,fun h=>(by omega),fun h=>(by omega)⟩ ?_;rintro k hk t ⟨h0,h1,h2⟩;rcases k with _|_|k
   . obtain rfl:=h0 rfl;dsimp only[w6];refine cT two (aN (a:=mI a) rfl ?_);rw[eY,hw _ (by omega) (by omega)];refine cz (by omega) (aM ⟨by omega,fun h=>by omega,fun _=>?_,fun h=>by omega⟩);rw[hw _ (by omega) (by omega)];simp
   . obtain rfl:=h1 rfl;dsimp only[w6];refine cT two1 (aN (a:=mI b) rfl ?_);rw[eY,hw _ (by omega) (by omega)];refine cz (by omega) (aM ⟨by omega,fun h=>by omega,fun h=>by omega,fun _=>?_⟩);rw[hw _ (by omega) (by omega)];simp
   . obtain rfl:k=0:=by omega
     obtain rfl:=h2 rfl;dsimp only[w6];exact cz (by simp) (aM rfl)
 . dsimp only;refine aU (a:=([]:List aX)) ?_ ?_
   . unfold zY;rw[show iw (((a.length+b.length:Nat):Int)-iw (0-0))=((a.length+b.length:Nat):Int) by rw[show iw (0-0)=0 by decide,Gj];exact hw _ (by omega) (by omega)];refine cz (by omega) (aU (a:=([]:List aX)) (aY (fun h=>?_) (fun h=>aM rfl)) (aM rfl));rw[mg];refine aN (dO (by simp only[dP,kL];omega) (by decide)) ?_;refine aN (oT (m:=0) (n:=0) rfl rfl (by omega) (by omega)) (aM ?_);simp
   . refine aU (a:=mI (a++b)) (eL 2 (fun k t=>(k=0->t=(([]:List aX),(0:Int)))/\(k=1->t=(mI a,1))/\(k=2->t=(mI (a++b),2))) ⟨fun _=>rfl,fun h=>(by omega),fun h=>(by omega)⟩ ?_) (aM rfl);rintro k hk t ⟨h0,h1,h2⟩;rcases k with _|_|k
     . obtain rfl:=h0 rfl;dsimp only[wh];refine cT two (aN (a:=mI a) rfl (aN (dO (by rw[eY];simp only[dP];omega) (by decide)) (aM ⟨by omega,fun h=>by omega,fun _=>?_,fun h=>by omega⟩)));rw[hw _ (by omega) (by omega)];simp
     . obtain rfl:=h1 rfl;dsimp only[wh];refine cT two1 (aN (a:=mI b) rfl (aN (dO (by rw[eY,eY];omega) (by decide)) (aM ⟨by omega,fun h=>by omega,fun h=>by omega,fun _=>?_⟩)));rw[hw _ (by omega) (by omega)];simp[mI]
     . obtain rfl:k=0:=by omega
       obtain rfl:=h2 rfl;dsimp only[wh];exact cz (by simp) (aM rfl)
theorem R8{l:List AI}{f:Nat->aX->Option Bool}{g:AI->Bool}(hl:l.length<=1073741824)(h:∀x∈l,Tm (fun N=>f N x.to) (·=g x)):Tm (fun N=>vU N (mI l) (f N)) (·=mI (l.filter fun x=>!g x)):=by
 unfold vU;refine Tm.bind (Hl hl h) ?_;rintro r (⟨hany,rfl⟩|⟨k0,hk0,hg0,hbef,rfl⟩)
 . refine cT rfl (aM ?_);congr 1;rw[List.filter_eq_self.2];intro x hx;rw[Mx]at hany;have:=hany x hx;simpa using this
 . refine cz (by omega) ?_;have hfil0:(l.take (k0+1)).filter (fun x=>!g x)=l.take k0:=by
    rw[<-jW hk0,B8,List.filter_eq_self.2]
    . simp[hg0]
    . intro x hx;obtain⟨j,hj,rfl⟩:=nc hx;rw[eR]at hj;rw[List.getElem_take,hbef j (by omega)];rfl
   refine Tm.bind (Q:=fun t=>∃c:List aX,∃i:Nat,t=(c,(i:Int))/\c.length=l.length/\i<l.length/\c.take i=mI (l.filter fun x=>!g x))
    (Tm.wy (fun(k:Nat) (t:List aX×Int×Int)=>k0+1<=k/\k<=l.length/\∃c:List aX,∃i:Nat,t=(c,(i:Int),(k:Int))/\c.length=l.length/\i<k/\c.take i=mI ((l.take k).filter fun x=>!g x)/\c.drop k=mI (l.drop k)) (fun k=>l.length-k) (k0+1) ⟨bI _,hk0,mI l,k0,?_,eY l,by omega,?_,?_⟩ ?_) ?_
   . rw[ed (by omega)]
   . rw[hfil0];unfold mI;rw[List.map_take]
   . unfold mI;rw[MY]
   . rintro k _ ⟨hk1,hk2,c,i,rfl,hcl,hik,ht,hd⟩;dsimp only[Dc];refine aY (fun hlt=>?_) (fun hge=>aM ?_)
     . have hlt:k<l.length:=by omega
       have hck:c[k]?=some (l[k]).to:=by
        have:=congrArg (fun z:List aX=>z[0]?) hd;simp only[sY,pI,mI,gM,bV hlt]at this;exact this
       refine Tm.bind (Q:=fun r=>∃c':List aX,∃i':Nat,r=(c',(i':Int))/\c'.length=l.length/\i'<k+1/\c'.take i'=mI ((l.take (k+1)).filter fun x=>!g x)/\c'.drop (k+1)=mI (l.drop (k+1))) (aN (kF hck) (aU (h _ (du hlt)) (aY (fun h1=>?_) (fun h1=>aM ⟨c,i,rfl,hcl,by omega,?_,?_⟩)))) ?_
       . have h1:g l[k]=false:=by simpa using h1
         refine aN (dd (by omega)) (aN (eh rfl (by omega)) (aM ⟨c.set i (l[k]).to,i+1,by rw[ed (by omega)],by rw[iP];exact hcl,by omega,?_,?_⟩))
         . have e1:(c.set i (l[k]).to).take (i+1)=c.take i++[(l[k]).to]:=by
            rw[pJ (by rw[iP];omega),yp (by omega),List.getElem_set_self]
           rw[e1,ht,<-jW hlt,B8];unfold mI;simp[h1]
         . rw[List.drop_set,if_pos (by omega)];have:=congrArg (List.drop 1) hd;rw[qN]at this;rw[this];unfold mI;rw[<-MY,qN]
       . have h1:g l[k]=true:=by simpa using h1
         rw[ht,<-jW hlt,B8];simp[h1]
       . have:=congrArg (List.drop 1) hd;rw[qN]at this;rw[this];unfold mI;rw[<-MY,qN]
       . rintro _ ⟨c',i',rfl,a1,a2,a3,a4⟩;exact aM ⟨k+1,⟨by omega,by omega,c',i',by rw[ed (by omega)],a1,a2,a3,a4⟩,by omega⟩
     . have:k=l.length:=by omega
       subst this;rw[fh (bI _)]at ht;exact⟨c,i,rfl,hcl,by omega,ht⟩
   . rintro _ ⟨c,i,rfl,hcl,hil,ht⟩;dsimp only;rw[PU (by omega) (bI _)];refine aN (a:=()) rfl ?_;have hcut:cut (qi c (i:Int) (c.length:Int) (aX.mk 0 [])) 0 (i:Int)=some (c.take i):=by
      have:=Ls (xs:=c) (l:=i) (h:=c.length) (z:=aX.mk 0 []) (by omega) (bI _);rw[oT (i:=0) (j:=(i:Int)) (m:=0) (n:=i) rfl rfl (by omega) (by omega),kK];unfold qi;rw[mg,qO (by rw[eR];omega),Mr];simp
     refine aN hcut (aM ht)
def comb(n v:Nat)(x y:AI):List Int:=vec n fun j=>-vf y.g v*vf x.g j+vf x.g v*vf y.g j
def my(n v:Nat)(x y:AI):Act:=.put (comb n v x y) [⟨x.pos,-vf y.g v⟩,⟨y.pos,vf x.g v⟩]
def eG(s:St)(v:Nat)(dw:Bool):St:={s with status:=s.status.set v 2,items:=s.items.filter (fun x=>!decide (vf x.g v≠0)),stack:=s.stack++[⟨v,(cx v s.items++dh v s.items).map AI.pos,dw⟩]}
def pN(n v:Nat)(bR lows:List AI)(k m:Nat):List Act:=((lows.drop m).map fun y=>my n v (bR.getD k ⟨0,[]⟩) y)++(bR.drop (k+1)).flatMap fun x=>lows.map fun y=>my n v x y
def cY(s:St)(v:Nat):List Act:=(cx v s.items).flatMap fun x=>(dh v s.items).map fun y=>my s.n v x y
theorem SK{n v:Nat}{bR lows:List AI}{k:Nat}(h:k<bR.length):(bR.drop k).flatMap (fun x=>lows.map fun y=>my n v x y)=pN n v bR lows k 0:=by
 unfold pN;rw[fx h,B7,kK,cy,bV h];rfl
theorem OY{n v:Nat}{bR lows:List AI}{k m:Nat}(hk:k<bR.length)(h:m<lows.length):pN n v bR lows k m=my n v bR[k] lows[m]::pN n v bR lows k (m+1):=by
 unfold pN;rw[fx h,jU,BP,cy,bV hk];rfl
theorem Qd{n v:Nat}{bR lows:List AI}{k:Nat}:pN n v bR lows k lows.length=(bR.drop (k+1)).flatMap (fun x=>lows.map fun y=>my n v x y):=by
 unfold pN;rw[B5];rfl
theorem Ly{s:St}{v:Nat}:(cY s v).length=(cx v s.items).length*(dh v s.items).length:=by
 unfold cY;generalize cx v s.items=a;generalize dh v s.items=b
 induction a with
 |nil=>simp
 |cons x a ih=>rw[B7,cZ,ih,cN,cA,gL];omega
theorem Kl{s:St}{v:Nat}{a:Act}:a∈cY s v↔∃x∈cx v s.items,∃y∈dh v s.items,a=my s.n v x y:=by
 unfold cY;simp only[yx,dL];constructor
 . rintro⟨x,hx,y,hy,rfl⟩;exact⟨x,hx,y,hy,rfl⟩
 . rintro⟨x,hx,y,hy,rfl⟩;exact⟨x,hx,y,hy,rfl⟩
theorem SZ{K Kk:Nat}{s:St}{v:Nat}{dw:Bool}(hs:gu K s)(hv:v<s.n)(hst:s.status.length=s.n)(hstk:s.stack.length<=1000000)(hK:Kk+6<=K)(hA:∀a∈cY s v,k9 Kk (eG s v dw) a)(hr:jd (cY s v).length (eG s v dw)):
 Tm (fun N=>n9 N s.to (v:Int) dw) (·=((bU (eG s v dw) (cY s v)).1,(bU (eG s v dw) (cY s v)).2.to)):=by
 have hL:cX=1099511627776:=rfl;have hi:iH s.n s.items:=⟨hs.il,fun x hx=>(hs.i x hx).2⟩;have hup:=pC (v:=v) hi;have hlo:=xj (v:=v) hi;have hul:=hup.1;have hll:=hlo.1;have hn:=hs.n;unfold n9;refine aU (zR hi hv) ?_;dsimp only;refine aU (Kv hup.1 hlo.1) ?_;generalize hU:cx v s.items=U at*;generalize hW:dh v s.items=W at*;refine aU (a:=((U++W).map AI.pos).map Int.ofNat) (eL (U++W).length (fun k t=>t=((((U++W).take k).map AI.pos).map Int.ofNat,(k:Int))) rfl ?_) ?_
 . rintro k hk _ rfl;dsimp only[Dq];rw[eY];refine aY (fun hlt=>?_) (fun hge=>aM ?_)
   . have hlt:k<(U++W).length:=by omega
     rw[cZ]at hlt;refine aN (o8 (by rw[cZ];exact hlt)) (aN (dO (by simp only[cN,eR,cA,dP,cZ];omega) (by decide)) (aM ⟨by rw[cZ];exact hlt,?_⟩));rw[ed (by omega),<-jW (by rw[cZ];exact hlt)];simp only[jV];rfl
   . show _=_;rw[fh (by omega)]
 refine aN (dO (by show((s.stack.map AE.to).length+_)*_<=_;simp only[cN,cA,dP];omega) (by decide)) ?_;refine aN (yI (l:=s.status) (by omega)) (aN (eh (xs:=s.status) rfl (by omega)) ?_);refine aU (a:=mI s.items) ?_ ?_
 . unfold qC;exact aN (dO (by show(_+(mI s.items).length)*_<=_;rw[eY];have:=hs.il;simp only[dP];omega) (by decide)) (aM rfl)
 refine aU (R8 (f:=fun N y0=>tR N y0 (v:Int)) (g:=fun x=>decide (vf x.g v≠0)) hs.il fun x hx=>?_) ?_
 . unfold tR;refine aN (ej (l:=x.g) (by rw[(hi.2 x hx).1];exact hv)) (aU (jm (bO (hi.vf hx v) (by decide))) (aM (decide_eq_decide.2 ou)))
 have hLU:cY s v=U.flatMap fun x=>W.map fun y=>my s.n v x y:=by unfold cY;rw[hU,hW]
 have hdn:(eG s v dw).n=s.n:=rfl;have hok0:gu K (eG s v dw):=⟨hs.n,hs.kl,hs.sl,bO (th ..) hs.il,hs.k,fun x hx=>hs.i x (FQ.1 hx).1,hs.K⟩;have hfirst:ik (eG s v dw)=(s.to.known,s.to.steps,s.to.u,s.status.set v 2,s.to.value,mI (s.items.filter fun x=>!decide (vf x.g v≠0)),s.to.stack++[dI.mk (v:Int) (((U++W).map AI.pos).map Int.ofNat) dw]):=by
  unfold ik eG;rw[hU,hW];unfold St.to;dsimp only;rw[jV];rfl
 refine Tm.bind (Q:=fun r=>(∃s',r=.inl (ik s')/\bU (eG s v dw) (cY s v)=(true,s')/\s'.n=s.n)\/r=.inr ((bU (eG s v dw) (cY s v)).1,(bU (eG s v dw) (cY s v)).2.to))
  (eL U.length (fun k t=>∃s' k',iC K (eG s v dw) (cY s v) k' s'/\(cY s v).drop k'=(U.drop k).flatMap (fun x=>W.map fun y=>my s.n v x y)/\t=(s'.to.known,s'.to.steps,s'.to.u,s'.to.status,s'.to.value,s'.to.items,s'.to.stack,(k:Int))) ⟨eG s v dw,0,iC.first hok0 hr,by rw[kK,kK,hLU],?_⟩ ?_) ?_
 . have:=hfirst;unfold ik at this;simp only[ng]at this;obtain⟨a1,a2,a3,a4,a5,a6,a7⟩:=this;rw[a1,a2,a3,a4,a5,a6,a7];rfl
 . rintro k hk _ ⟨s',k',hvv,hd,rfl⟩;dsimp only[Et];rw[eY];refine aY (fun hlt=>?_) (fun hge=>aM ?_)
   . have hlt:k<U.length:=by omega
     rw[SK hlt]at hd;refine aN (o8 hlt) ?_;have hxm:U[k]∈U:=du hlt;have hxl:=(hup.2 _ hxm).1;refine Tm.bind (Q:=fun r=>(∃s'' k'',r=.inl (ik s'')/\iC K (eG s v dw) (cY s v) k'' s''/\(cY s v).drop k''=(U.drop (k+1)).flatMap (fun x=>W.map fun y=>my s.n v x y))\/r=.inr ((bU (eG s v dw) (cY s v)).1,(bU (eG s v dw) (cY s v)).2.to))
      (eL W.length (fun m t=>∃s'' k'',iC K (eG s v dw) (cY s v) k'' s''/\(cY s v).drop k''=pN s.n v U W k m/\t=(s''.to.known,s''.to.steps,s''.to.u,s''.to.status,s''.to.value,s''.to.items,s''.to.stack,(m:Int))) ⟨s',k',hvv,hd,rfl⟩ ?_) ?_
     . rintro m hm _ ⟨s2,k2,hv2,hd2,rfl⟩;dsimp only[Ep];rw[eY];refine aY (fun hlt2=>?_) (fun hge2=>aM ?_)
       . have hlt2:m<W.length:=by omega
         rw[OY hlt hlt2]at hd2;have hk2l:k2<(cY s v).length:=by
          rcases cv k2 (cY s v).length with h1|h1
          . exact h1
          . rw[B3 h1]at hd2;cases hd2
         rw[fx hk2l]at hd2;obtain⟨e1,e2⟩:=vM hd2;have hym:W[m]∈W:=du hlt2;have hyl:=(hlo.2 _ hym).1;have dx:=fun j=>hup.vf hxm j;have dy:=fun j=>hlo.vf hym j;have hact:=hA _ (du hk2l);rw[e1]at hact;obtain⟨g1,g2,g3,g4⟩:=hv2.put hk2l e1 (K0:=Kk) hact hK;refine aN (o8 hlt2) (aN (ej (l:=(U[k]).g) (by omega)) (aN (ej (l:=(W[m]).g) (by omega)) (aU (nF (bO (dy v) (by decide))) (aN (ia (n:=s.n) rfl (by omega) (by decide)) ?_))));rw[<-oC];refine aU (a:=mB (comb s.n v U[k] W[m])) ?_ ?_
         . refine(Tm.rh (n:=s.n) (by omega) (fun j=>-vf (W[m]).g v*vf (U[k]).g j+vf (U[k]).g v*vf (W[m]).g j) (by simp) (fin:=id) ?_ ?_)
           . intro j hj c hc hic;dsimp only[zU];have h1:=kh (-vf (W[m]).g v) (vf (U[k]).g j);have h2:=kh (vf (U[k]).g v) (vf (W[m]).g j);rw[fR]at h1;have:=dx j;have:=dx v;have:=dy j;have:=dy v;refine cT (by rw[dH,kL];omega) (aN (ej (l:=(U[k]).g) (by omega)) (aU (nT (by rw[fR];omega) (by omega)) (aN (ej (l:=(W[m]).g) (by omega)) (aU (nT (by omega) (by omega)) (aU (mT (by omega) (by omega)) (aN hic (aN (eh rfl (by omega)) (aM rfl))))))))
           . intro c hc;dsimp only[zU];exact cz (by rw[dH,kL];omega) (aM rfl)
         . have hns:s.to.n=s2.to.n:=by show(s.n:Int)=s2.n;rw[hv2.n];rfl
           rw[ir (x:=s2.to) hns];refine aU g1 ?_;have hns2:s.to.n=(put s2 (comb s.n v U[k] W[m]) [⟨(U[k]).pos,-vf (W[m]).g v⟩,⟨(W[m]).pos,vf (U[k]).g v⟩]).2.to.n:=by
            show(s.n:Int)=((put s2 _ _).2.n:Int);rw[g4];rfl
           refine aY (fun hf=>aM (.inr ?_)) (fun ht=>aM ⟨hlt2,_,k2+1,g2 (by simpa using ht),e2,by rw[ed (by omega)]⟩);dsimp only;rw[ir hns2,g3 (by simpa using hf)]
       . have:m=W.length:=by omega
         subst this;rw[Qd]at hd2;exact .inl ⟨s2,k2,rfl,hv2,hd2⟩
     . rintro r (⟨s2,k2,rfl,h1,h2⟩|rfl)
       . exact aM ⟨hlt,s2,k2,h1,h2,by rw[ed (by omega)]⟩
       . exact aM (.inr rfl)
   . have:k=U.length:=by omega
     subst this;rw[B5]at hd;refine .inl ⟨s',rfl,?_,hvv.n⟩;rw[hvv.run,hd];rfl
 . rintro r (⟨s',rfl,h1,h2⟩|rfl)
   . refine aM ?_;show(true,aR.mk s.to.n s'.to.known s'.to.steps s'.to.u s'.to.status s'.to.value s'.to.items s'.to.stack)=_;rw[ug h2.symm,h1]
   . exact aM rfl
end Go.D

/- Plain theorems and definitions of this seat, several texts in one. -/
import Derived.Test.YtipdkfmhfakbnaaGreatDoorAd
set_option linter.unusedVariables false
set_option linter.unusedSimpArgs false
set_option linter.unusedSectionVars false
namespace Go.D
open Go Go.X
def pI(N:Nat)(s:(List aC)):Option (List aC):=(cY 32 ([]:(List aC)) s).bind λa=>some a
def C5(N:Nat)(s:(List Constraint)):Option (List Constraint):=(cY 40 ([]:(List Constraint)) s).bind λa=>some a
def sf(N:Nat)(s:(List bD)):Option (List bD):=(cY 32 ([]:(List bD)) s).bind λa=>some a
def A9(N:Nat)(s:(List (List aC))):Option (List (List aC)):=(cY 24 ([]:(List (List aC))) s).bind λa=>some a
def BT(N:Nat)(s:(List Int)):Option (List Int):=(cY 8 ([]:(List Int)) s).bind λa=>some a
def G5(N:Nat)(s:(List Step)):Option (List Step):= some s
def E8(N:Nat)(s:(List dW)):Option (List dW):= some s
def yN(N:Nat)(f:(Constraint->Option Bool))(s:(List Constraint)):Int->Option (aH Int (Sum Unit Int))
 |a=>(if(a:Int)<(List.length s:Int)then (idx s a).bind λb=>(f b).bind λc=>(if c=true then some (aH.done (Sum.inr a)) else some (aH.next (iw (a+1)))) else some (aH.done (Sum.inl ())))
def Ad(N:Nat)(s:(List Constraint))(f:(Constraint->Option Bool)):Option Int:=(bO (yN N f s) N 0).bind λss=>match ss with
  |(Sum.inl _)=>some (-1)
  |(Sum.inr a)=>some a
def xM(N:Nat)(f:(bD->Option Bool))(s:(List bD)):Int->Option (aH Int (Sum Unit Int))
 |a=>(if(a:Int)<(List.length s:Int)then (idx s a).bind λb=>(f b).bind λc=>(if c=true then some (aH.done (Sum.inr a)) else some (aH.next (iw (a+1)))) else some (aH.done (Sum.inl ())))
def wM(N:Nat)(s:(List bD))(f:(bD->Option Bool)):Option Int:=(bO (xM N f s) N 0).bind λss=>match ss with
  |(Sum.inl _)=>some (-1)
  |(Sum.inr a)=>some a
def AO(N:Nat)(s:(List bD))(f:(bD->Option Bool)):Option Bool:=(wM N s f).bind λr1=>some (decide ((r1:Int)≥0))
def xL(N:Nat)(eq:(aC->aC->Option Bool))(pb:(List aC))(s:(List aC)):Int->Option (aH Int (Sum Unit Bool))
 |a=>(if(a:Int)<(List.length s:Int)then (idx s a).bind λb=>(idx pb a).bind λc=>(eq b c).bind λd=>(if(!d)=true then some (aH.done (Sum.inr false)) else some (aH.next (iw (a+1)))) else some (aH.done (Sum.inl ())))
def zT(N:Nat)(s:(List aC))(pb:(List aC))(eq:(aC->aC->Option Bool)):Option Bool:=(if((List.length s:Int):Int)≠(List.length pb:Int)then some false else (bO (xL N eq pb s) N 0).bind λss=>match ss with
   |(Sum.inl _)=>some true
   |(Sum.inr a)=>some a)
def ER(N:Nat)(del:(Constraint->Option Bool)):((List Constraint)×Int×Int)->Option (aH ((List Constraint)×Int×Int) ((List Constraint)×Int))
 |(a,b,c)=>(if(c:Int)<(List.length a:Int)then ((((idx a c).bind λd=>(del d).bind λe=>(if(!e)=true then (idx a b).bind λj=>(dw a b d).bind λf=>some (f,(iw (b+1))) else some (a,b))):Option ((List Constraint)×Int))).bind λss=>match ss with
    |(g,i)=>some (aH.next (g,i,(iw (c+1)))) else some (aH.done (a,b)))
def xE(N:Nat)(s:(List Constraint))(del:(Constraint->Option Bool)):Option (List Constraint):=(Ad N s del).bind λr1=>(if(r1:Int)=(-1)then some s else (bO (ER N del) N (s,r1,(iw (r1+1)))).bind λss=>match ss with
   |(a,b)=>(og a b (List.length a:Int)).bind λ_=>(cut (nJ a b (List.length a:Int) (Constraint.mk (Linear.mk 0 ([]:(List jt))) false)) 0 b).bind λc=>some c)
def GL(N:Nat)(del:(bD->Option Bool)):((List bD)×Int×Int)->Option (aH ((List bD)×Int×Int) ((List bD)×Int))
 |(a,b,c)=>(if(c:Int)<(List.length a:Int)then ((((idx a c).bind λd=>(del d).bind λe=>(if(!e)=true then (idx a b).bind λj=>(dw a b d).bind λf=>some (f,(iw (b+1))) else some (a,b))):Option ((List bD)×Int))).bind λss=>match ss with
    |(g,i)=>some (aH.next (g,i,(iw (c+1)))) else some (aH.done (a,b)))
def yP(N:Nat)(s:(List bD))(del:(bD->Option Bool)):Option (List bD):=(wM N s del).bind λr1=>(if(r1:Int)=(-1)then some s else (bO (GL N del) N (s,r1,(iw (r1+1)))).bind λss=>match ss with
   |(a,b)=>(og a b (List.length a:Int)).bind λ_=>(cut (nJ a b (List.length a:Int) (bD.mk 0 ([]:(List aC)))) 0 b).bind λc=>some c)
def Az(N:Nat)(n:Int):Option (List bD):=(if(n:Int)<0 then none else ((((if((iw (n-(iw (0-0)))):Int)>0 then (cY 32 [] (List.replicate (Int.toNat (iw (n-(iw (0-0))))) ((bD.mk 0 ([]:(List aC))):bD))).bind λa=>(cut a 0 0).bind λb=>some b else some ([]:(List bD)))):Option (List bD))).bind λss=>match ss with
   |s8=>some s8)
def zz(N:Nat)(slices:(List (List bD))):(Int×Int)->Option (aH (Int×Int) Int)
 |(a,b)=>(if(b:Int)<(List.length slices:Int)then (idx slices b).bind λc=>(if((iw (a+(List.length c:Int))):Int)<0 then none else some (aH.next ((iw (a+(List.length c:Int))),(iw (b+1))))) else some (aH.done a))
def yM(N:Nat)(slices:(List (List bD))):((List bD)×Int)->Option (aH ((List bD)×Int) (List bD))
 |(b,a)=>(if(a:Int)<(List.length slices:Int)then (idx slices a).bind λc=>(cY 32 b c).bind λd=>some (aH.next (d,(iw (a+1)))) else some (aH.done b))
def vZ(N:Nat)(slices:(List (List bD))):Option (List bD):=(bO (zz N slices) N (0,0)).bind λss=>match ss with
  |a=>(Az N a).bind λb=>(bO (yM N slices) N (b,0)).bind λss=>match ss with
    |c=>some c
open Go Go.X
def EV(N:Nat)(l:(List aC)):(Bool×(List Int)×Int)->Option (aH (Bool×(List Int)×Int) (Bool×(List Int)))
 |(b,c,a)=>(if(a:Int)<(List.length l:Int)then (idx l a).bind λe=>(vJ N (aC.mk b c) e).bind λd=>some (aH.next (d.bR,d.aR,(iw (a+1)))) else some (aH.done (b,c)))
def yX(N:Nat)(l:(List aC)):Option aC:=(bO (EV N l) N (false,[],0)).bind λss=>match ss with
  |(a,b)=>some (aC.mk a b)
def Cu(N:Nat)(l:(List aC)):((List aC)×Int)->Option (aH ((List aC)×Int) (List aC))
 |(b,a)=>(if(a:Int)<(List.length l:Int)then (idx l a).bind λc=>(jZ N c).bind λd=>(idx b a).bind λf=>(dw b a d).bind λe=>some (aH.next (e,(iw (a+1)))) else some (aH.done b))
def nY(N:Nat)(l:(List aC)):Option (List aC):=(fZ (α:=aC) 32 (aC.mk false []) (List.length l:Int)).bind λx2=>(bO (Cu N l) N (x2,0)).bind λss=>match ss with
  |a=>some a
def Fz(N:Nat)(g:(List aC)):((List (List UInt8))×Int)->Option (aH ((List (List UInt8))×Int) (List (List UInt8)))
 |(b,a)=>(if(a:Int)<(List.length g:Int)then (idx g a).bind λc=>(wB N c).bind λd=>(cY 16 b [d]).bind λe=>some (aH.next (e,(iw (a+1)))) else some (aH.done b))
def vg(N:Nat)(g:(List aC)):Option (List UInt8):=(bO (Fz N g) N (([]:(List (List UInt8))),0)).bind λss=>match ss with
  |a=>(rJ N a ([32]:List UInt8)).bind λb=>some b
def H4(N:Nat)(pa:Int)(cw:(List bD)):(aC×Int)->Option (aH (aC×Int) aC)
 |(b,a)=>(if(a:Int)<(List.length cw:Int)then (idx cw a).bind λc=>(idx c.g pa).bind λd=>(jx N d b).bind λe=>(if(e:Int)>0 then (idx c.g pa).bind λf=>some (aH.next (f,(iw (a+1)))) else some (aH.next (b,(iw (a+1))))) else some (aH.done b))
def qg(N:Nat)(pa:Int)(low:bD)(cw:(List bD)):Option aC:=(idx cw 0).bind λc=>(idx c.g pa).bind λd=>(bO (H4 N pa cw) N (d,0)).bind λss=>match ss with
  |a=>(idx low.g pa).bind λe=>(jZ N e).bind λb=>(lj N a b).bind λf=>(jL N f a).bind λi=>(jL N i b).bind λj=>(lO N j a).bind λk=>some k.1
def FY(N:Nat)(x:bD):(Int×Int×Int)->Option (aH (Int×Int×Int) (Int×Int))
 |(c,b,a)=>(if(a:Int)<(List.length x.g:Int)then (idx x.g a).bind λd=>(im N d).bind λe=>(if(e:Int)≠0 then some (aH.next (a,(iw (b+1)),(iw (a+1)))) else some (aH.next (c,b,(iw (a+1))))) else some (aH.done (c,b)))
def wS(N:Nat)(x:bD):Option (Int×Bool):=(bO (FY N x) N (0,0,0)).bind λss=>match ss with
  |(a,b)=>some (a,(decide ((b:Int)=1)))
def C6(N:Nat)(pb:Int)(pc:Int)(r1:(List bD)):((List bD)×Int)->Option (aH ((List bD)×Int) (List bD))
 |(b,a)=>(if(a:Int)<(List.length r1:Int)then (idx b a).bind λc=>(if(c.pos:Int)=pb then (idx b a).bind λd=>(dw b a (bD.mk pc d.g)).bind λe=>some (aH.next (e,(iw (a+1)))) else some (aH.next (b,(iw (a+1))))) else some (aH.done b))
def wv(N:Nat)(l:(List bD))(pb:Int)(pc:Int):Option (List bD):=(sf N l).bind λr1=>(bO (C6 N pb pc r1) N (r1,0)).bind λss=>match ss with
  |a=>some a
def CY(N:Nat)(n:Int)(pb:Int)(sign:Int)(bound:aC):Option bI:=(fZ (α:=aC) 32 (aC.mk false []) n).bind λa=>(gF N sign).bind λb=>(idx a pb).bind λd=>(dw a pb b).bind λc=>some (bI.mk c bound)
def rb(N:Nat)(a:aC)(b:aC):Option Bool:=(jx N a b).bind λc=>some (decide ((c:Int)=0))
def rU(N:Nat)(x:aC):Option aC:= some (aC.mk false x.aR)
def wP(N:Nat)(x:bD)(ca:Int)(cb:(List bD)):Option Bool:=(qg N ca x cb).bind λr8=>(im N r8).bind λa=>some (decide ((a:Int)≥0))
def wi(N:Nat)(x:bD)(ca:Int):Option Bool:=(idx x.g ca).bind λx7=>(im N x7).bind λa=>some (decide ((a:Int)≠0))
open Go Go.X
def dec(n:Nat):List UInt8:=if h:n=0 then[]else dec (n/10)++[UInt8.ofNat (48+n%10)]
termination_by n
decreasing_by omega
def rj(c:UInt8):Prop:=48<=c.toNat/\c.toNat<=57
instance (c:UInt8):Decidable (rj c):=inferInstanceAs (Decidable (_/\_))
def uq(s:List UInt8):Nat:=s.foldl (λv c=>10*v+(c.toNat-48)) 0
theorem Xj(s:List UInt8)(c:UInt8):uq (s++[c])=10*uq s+(c.toNat-48):=by simp[uq,PX]
theorem J0{r:Nat}(h:r<10):(UInt8.ofNat (48+r)).toNat=48+r:=by
 rw[UInt8.toNat_ofNat'];omega
theorem Ve{r:Nat}(h:r<10):rj (UInt8.ofNat (48+r)):=by
 unfold rj;rw[J0 h];omega
theorem vQ:dec 0=[]:=by rw[dec];simp
theorem wW{n:Nat}(h:0<n):dec n=dec (n/10)++[UInt8.ofNat (48+n%10)]:=by
 rw[dec,dif_neg (by omega)]
theorem Q8{n:Nat}(h:0<n):dec n≠[]:=by rw[wW h];simp
theorem Xv(n:Nat):uq (dec n)=n:=by
 induction n using Nat.strongRecOn with
 |ind n ih=>
  rcases ij n with rfl|h
  . rw[vQ];rfl
  . rw[wW h,Xj,ih (n/10) (by omega),J0 (by omega)];omega
theorem DD(n:Nat):∀c∈dec n,rj c:=by
 induction n using Nat.strongRecOn with
 |ind n ih=>
  rcases ij n with rfl|h
  . rw[vQ];simp
  . rw[wW h];intro c hc;rcases gH.1 hc with hc|hc
    . exact ih (n/10) (by omega) c hc
    . rw[df.1 hc];exact Ve (by omega)
theorem tL{n:Nat}(h:0<n):Go.Lib.decDigits n=dec n:=by
 induction n using Nat.strongRecOn with
 |ind n ih=>
  rw[Go.Lib.decDigits];split
  . rename_i h10;rw[wW h,show n/10=0 by omega,vQ,show n%10=n by omega];rfl
  . rw[ih (n/10) (by omega) (by omega),wW h]
theorem Cs:Go.Lib.decDigits 0=[48]:=by rw[Go.Lib.decDigits,dif_pos (by omega)];rfl
def pad:Nat->Nat->List UInt8
 |0,_=>[]
 |k+1,r=>pad k (r/10)++[UInt8.ofNat (48+r%10)]
theorem NM:∀{k q r:Nat},0<q->r<10^k->dec (q*10^k+r)=dec q++pad k r
 |0,q,r,h,hr=>by
  have:r=0:=by simpa using hr
  rw[this,pad];simp
 |k+1,q,r,h,hr=>by
  have hm:0<10^k:=Nat.pow_pos (by omega);have hq:0<q*10^k:=Nat.mul_pos h hm;have hpow:10^(k+1)=10*10^k:=by rw[uY,IQ]
  have e:q*10^(k+1)=10*(q*10^k):=by rw[hpow,Nat.mul_left_comm]
  rw[e]at*;rw[wW (by omega),show(10*(q*10^k)+r)/10=q*10^k+r/10 by omega,show(10*(q*10^k)+r)%10=r%10 by omega,NM h (by omega),pad,jS]
theorem LZ:∀{k:Nat},pad k 0=List.replicate k 48
 |0=>rfl
 |k+1=>by rw[pad,LZ,List.replicate_succ'];rfl
theorem Gm:∀{k r:Nat},0<k->r<10^k->(Go.Lib.decDigits r).length<=k
 |0,_,h,_=>by omega
 |k+1,r,_,hr=>by
  rw[Go.Lib.decDigits];split
  . simp
  . have hk:0<k:=by
     rcases ij k with rfl|h
     . simp at hr;omega
     . exact h
    have:=Gm (k:=k) (r:=r/10) hk (by rw[uY]at hr;omega);simp;omega
theorem NS:∀{k r:Nat},0<k->r<10^k->pad k r=List.replicate (k-(Go.Lib.decDigits r).length) 48++Go.Lib.decDigits r
 |0,_,h,_=>by omega
 |k+1,r,_,hr=>by
  rw[Go.Lib.decDigits,pad];split
  . rw[show r/10=0 by omega,LZ,show r%10=r by omega];simp
  . have hk:0<k:=by
     rcases ij k with rfl|h
     . simp at hr;omega
     . exact h
    rw[NS (k:=k) hk (by rw[uY]at hr;omega)];rw[dL,<-jS];congr 2;congr 1;show _=k+1-(_+1);omega
theorem repeatL_one:∀{c:Nat},Go.Lib.repeatL [48] c=List.replicate c (48:UInt8)
 |0=>rfl
 |c+1=>by rw[Go.Lib.repeatL,repeatL_one,Ah];rfl
theorem UY:∀{xs:List (List UInt8)},Go.Lib.join xs []=xs.flatten
 |[]=>rfl
 |x::xs=>by
  rw[Go.Lib.join_cons,Go.Lib.joinTail];simp
def fQ(v:Int):List UInt8:=if v<0 then 45::dec v.natAbs else Go.Lib.decDigits v.toNat
theorem xc{v:Int}(h:v<0):fQ v=45::dec v.natAbs:=by rw[fQ,bA h]
theorem vM{v:Int}(h:0<v):fQ v=dec v.toNat:=by rw[fQ,aQ (by omega),tL (by omega)]
theorem yB:fQ 0=[48]:=by rw[fQ,aQ (by omega)];exact Cs
def body(s:List UInt8):List UInt8:=Go.Lib.trimPrefix s [45]
theorem Fw{c:UInt8}{s:List UInt8}:body (c::s)=if c=45 then s else c::s:=by
 unfold body Go.Lib.trimPrefix Go.Lib.hasPrefix;by_cases h:c=45
 . subst h;rw[bA rfl,bA (by rfl)];rfl
 . rw[aQ h,aQ];intro e;have e1:([45]:List UInt8).isPrefixOf (c::s)=true:=e;rw[List.isPrefixOf_cons_cons]at e1;simp only[gz,beq_iff_eq]at e1;exact h e1.1.symm
theorem Ro:body []=[]:=by
 unfold body Go.Lib.trimPrefix Go.Lib.hasPrefix;simp
theorem Nq{c:UInt8}(h:rj c):c≠45:=by
 intro e;subst e;unfold rj at h;simp at h
theorem U1(v:Int):body (fQ v)=Go.Lib.decDigits v.natAbs:=by
 rcases uX v 0 with h|rfl|h
 . rw[xc h,Fw,bA rfl,tL (by omega)]
 . rw[yB,Fw,aQ (by decide)];exact Cs.symm
 . rw[vM h,tL (by omega),show v.natAbs=v.toNat by omega];cases hd:dec v.toNat with
   |nil=>exact Ro
   |cons c t=>rw[Fw,aQ (Nq (DD v.toNat c (by rw[hd];exact cU)))]
theorem MW(n:Nat):Go.Lib.decDigits n≠[]:=by
 rcases ij n with rfl|h
 . rw[Cs];simp
 . rw[tL h];exact Q8 h
theorem T3(n:Nat):uq (Go.Lib.decDigits n)=n:=by
 rcases ij n with rfl|h
 . rw[Cs];rfl
 . rw[tL h];exact Xv n
def sval(s:List UInt8):Int:=if s.head?=some 45 then-(uq (body s):Int)else uq (body s)
theorem KX(v:Int):sval (fQ v)=v:=by
 unfold sval;rw[U1,T3];rcases uX v 0 with h|rfl|h
 . rw[bA (by rw[xc h];rfl)];omega
 . rw[aQ (by rw[yB];decide)];rfl
 . rw[aQ]
   . omega
   . rw[vM h];intro e;have:=DD v.toNat 45 (List.mem_of_head? e);exact Nq this rfl
theorem Em{B:Int}(hB:0<B){l:List Int}{v:Int}(h:Dg B l v):(List.length l:Int)>0↔v≠0:=by
 have:=h.zero hB;cases l with
 |nil=>
  have h0:=this.1 rfl;simp[h0]
 |cons x l=>
  have h0:v≠0:=λe=>by have:=this.2 e;cases this
  simp only[cN];exact⟨λ_=>h0,λ_=>by omega⟩
theorem Ox:aD^10<=(10:Int)^97:=by decide+kernel
theorem BM{n:Nat}(h:n<10^97):(dec n).length<=97:=by
 rcases ij n with rfl|h0
 . rw[vQ];simp
 . rw[<-tL h0];exact Gm (by omega) h
theorem GP:∀{xs:List (List UInt8)},(∀p∈xs,p≠[])->xs.length<=xs.flatten.length
 |[],_=>by simp
 |x::xs,h=>by
  have h1:=GP (xs:=xs) (λp hp=>h p (cP _ hp));have h2:=h x cU;have:0<x.length:=sL.2 h2;simp at h1⊢;omega
theorem Qz{i:Int}{n:Nat}(h:i=(n:Int))(hn:n<18446744073709551616):Tm (λN=>za N i 10) (λr=>r=Go.Lib.decDigits n):=
 ⟨_,0,rfl,λN _=>by subst h;unfold za;rw[bA ⟨by omega,by omega,rfl⟩,mQ]⟩
theorem TL{i:Int}{n:Nat}(h:i=(n:Int))(hn:n<1000):Tm (λN=>zB N [48] i) (λr=>r=List.replicate n 48):=
 ⟨_,0,rfl,λN _=>by subst h;unfold zB;rw[bA ⟨by omega,by omega,by simp only[cN,dY];omega⟩,mQ,repeatL_one]⟩
theorem WK{xs:List (List UInt8)}(h:xs.length<=1000)(h':xs.flatten.length<=1000):Tm (λN=>rJ N xs []) (λr=>r=xs.flatten):=
 ⟨_,0,rfl,λN _=>by unfold rJ;rw[UY,bA ⟨by omega,by omega⟩]⟩
theorem Sy{x:aC}(hd:bJ aD x.aR)(hl:x.aR.length<=10):Tm (λN=>wB N x) (λr=>r=fQ (bv x)):=by
 unfold wB;refine Tm.bind (qm hd (by omega)) ?_;rintro y ⟨hy,hyl⟩;have hz:=hy.dg.zero (by decide);refine bB (λh=>aZ ?_) (λh=>?_)
 . have:y.aR=[]:=nD.1 (by omega);have h0:bv x=0:=by have:=hz.1 this;omega
   rw[h0,yB]
 . have hne:y.aR≠[]:=λe=>h (by rw[e];rfl);have h0:bv x≠0:=λe=>hne (hz.2 (by omega));generalize hV:(bv x).natAbs=V at*;have hVlt:V<10^97:=by
    have h1:=iV (B:=aD) (by decide) hy.dg.bT;have h2:=lq (B:=aD) (by decide) (show y.aR.length<=10 by omega);have h3:=Ox;rw[hy.dg.val]at h1;have:(V:Int)<((10^97:Nat):Int):=by rw[IV];omega
    exact Int.ofNat_lt.1 this
   refine Tm.bind (Q:=λparts:List (List UInt8)=>parts.reverse.flatten=dec V/\∀p∈parts,p≠[])
    (Tm.loop (λt:List (List UInt8)×List Int=>∃n:Nat,Dg aD t.2 n/\t.2.length<=10/\dec n++t.1.reverse.flatten=dec V/\∀p∈t.1,p≠[]) (λt=>(val aD t.2).toNat)
     ⟨V,by rw[<-hV];exact hy.dg,by show y.aR.length<=10;omega,by simp,by simp⟩ ?_) ?_
   . rintro⟨parts,d⟩ ⟨n,hdn,hdl,hf,hp⟩;dsimp only[E4]at*;have hpl:parts.length<=97:=by
      have h1:=GP (xs:=parts.reverse) (λp hp'=>hp p (List.mem_reverse.1 hp'));have h2:=dd List.length hf;have h3:=BM hVlt;rw[dL]at h2;rw[P5]at h1;omega
     refine bB (λh=>?_) (λh=>aZ ?_)
     . have hn0:(n:Int)≠0:=(Em (by decide) hdn).1 h;refine Tm.bind (Nd hdn.bT (by decide) (by decide) (by omega)) ?_;rintro⟨q,r⟩ ⟨hq1,hq2,hq3,hq4⟩;dsimp only at*;rw[hdn.val]at hq2 hq3;have hq2':val aD q=((n/1000000000:Nat):Int):=by rw[hq2];omega
       have hr':r=((n%1000000000:Nat):Int):=by rw[hq3];omega
       refine Tm.bind (qf hq1 (by omega)) ?_;rintro d' ⟨hd',hdl'⟩;rw[hq2']at hd';have hpos:=Em (by decide) hd';have hlt:n%1000000000<10^9:=by omega
       have hdl9:=Gm (k:=9) (by omega) hlt;have huw:uw r=((n%1000000000:Nat):Int):=by rw[hr'];exact iG (by omega) (by omega)
       refine Tm.bind (Qz huw (by omega)) ?_;rintro _ rfl;have hμ:(val aD d').toNat<(val aD d).toNat:=by rw[hd'.val,hdn.val];omega
       refine Tm.bind (Q:=λs=>s≠[]/\dec n=dec (n/1000000000)++s) (bB (λh=>?_) (λh=>aZ ?_)) ?_
       . have hc:iw (9-((Go.Lib.decDigits (n%1000000000)).length:Int))=((9-(Go.Lib.decDigits (n%1000000000)).length:Nat):Int):=by rw[bU]<;>omega
         refine Tm.bind (TL hc (by omega)) ?_;rintro _ rfl;refine aJ (yk (by rw[mg];omega)) (aZ ⟨?_,?_⟩)
         . intro e;exact MW _ (Ix.1 e).2
         . rw[<-NS (by omega) hlt,<-NM (by have:=hpos.1 h;omega) hlt];congr 1;omega
       . have hq0:n/1000000000=0:=by
          rcases ij (n/1000000000)with h1|h1
          . exact h1
          . exact bX (hpos.2 (by omega)) h
         refine⟨MW _,?_⟩;rw[hq0,vQ,show n%1000000000=n by omega,tL (by omega)];rfl
       . rintro s ⟨hs1,hs2⟩;refine aJ (eb (by simp only[cN,dY];omega) (by decide)) (aZ ⟨⟨n/1000000000,hd',by show d'.length<=10;omega,?_,?_⟩,hμ⟩)
         . rw[<-hf,hs2];simp
         . intro p hp';rcases gH.1 hp' with h1|h1
           . exact hp p h1
           . rw[df.1 h1];exact hs1
     . have hn0:n=0:=by
        rcases ij n with h1|h1
        . exact h1
        . exact bX ((Em (by decide) hdn).2 (by omega)) h
       rw[hn0,vQ]at hf;exact⟨by simpa using hf,hp⟩
   . rintro parts ⟨hf,hp⟩;have hlen:parts.length<=97:=by
      have h1:=GP (xs:=parts.reverse) (λp hp'=>hp p (List.mem_reverse.1 hp'));have h3:=BM hVlt;rw[hf,P5]at h1;omega
     refine Tm.bind (Q:=λps:List (List UInt8)=>ps.reverse.flatten=fQ (bv x)/\ps.length<=98) (bB (λh=>?_) (λh=>aZ ?_)) ?_
     . refine aJ (eb (by simp only[cN,dY];omega) (by decide)) (aZ ⟨?_,by simp;omega⟩);have:bv x<0:=by rw[hy.neg]at h;simpa using h
       rw[xc this,P6,hV,<-hf];rfl
     . have:¬bv x<0:=by rw[hy.neg]at h;simpa using h
       rw[vM (by omega),hf,show(bv x).toNat=V by omega];exact⟨rfl,by omega⟩
     . rintro ps ⟨h1,h2⟩;have h3:(fQ (bv x)).length<=98:=by
        have h3:=BM hVlt;rcases uX (bv x) 0 with h|h|h
        . rw[xc h,cN,hV];omega
        . exact bX h h0
        . rw[vM h,show(bv x).toNat=V by omega];omega
       refine aU (a:=ps.reverse) ⟨_,0,rfl,λN _=>by unfold yb;rw[bA (by omega)]⟩ ?_;refine Tm.bind (WK (by rw[P5];omega) (by rw[h1];omega)) ?_;rintro _ rfl;exact aZ h1
theorem Ji{v w:Int}(h:fQ v=fQ w):v=w:=by rw[<-KX v,h,KX]
theorem DH(v:Int):∀c∈fQ v,c≠32:=by
 intro c hc e;subst e;have key:∀{l:List UInt8},(∀c∈l,rj c)->(32:UInt8)∈l->False:=λh h'=>by have:=h _ h';unfold rj at this;simp at this
 rcases uX v 0 with h|rfl|h
 . rw[xc h]at hc;rcases eJ.1 hc with h1|h1
   . cases h1
   . exact key (DD _) h1
 . rw[yB]at hc;simp at hc
 . rw[vM h]at hc;exact key (DD _) hc
theorem NH{v:Int}(h:dl v<=10):(fQ v).length<=98:=by
 have h1:=wD v;have h2:=Ed h;have h3:=Ox;have hV:v.natAbs<10^97:=by
  have:(v.natAbs:Int)<((10^97:Nat):Int):=by rw[IV];omega
  exact Int.ofNat_lt.1 this
 have h4:=BM hV;rcases uX v 0 with h|rfl|h
 . rw[xc h,cN];omega
 . rw[yB];decide
 . rw[vM h,show v.toNat=v.natAbs by omega];omega
theorem Va{v:Int}(h:dl v<=10):Tm (λN=>wB N (B v)) (·=fQ v):=(Sy (bT v) h).mono λr h=>by rw[fC]at h;exact h
def keyOf(g:List Int):List UInt8:=Go.Lib.join (g.map fQ) [32]
theorem DA:∀{x y T U:List UInt8},(∀c∈x,c≠32)->(∀c∈y,c≠32)->(∀c,T.head?=some c->c=32)->(∀c,U.head?=some c->c=32)->x++T=y++U->x=y/\T=U
 |[],[],T,U,_,_,_,_,h=>⟨rfl,h⟩
 |[],d::y,T,U,_,hy,hT,_,h=>by
  have:T.head?=some d:=by rw[show T=d::y++U from h];rfl
  exact bX (hT d this) (hy d cU)
 |c::x,[],T,U,hx,_,_,hU,h=>by
  have:U.head?=some c:=by rw[show U=c::x++T from h.symm];rfl
  exact bX (hU c this) (hx c cU)
 |c::x,d::y,T,U,hx,hy,hT,hU,h=>by
  have h:c::(x++T)=d::(y++U):=h;obtain⟨e1,e2⟩:=sN h;subst e1;obtain⟨rfl,h2⟩:=DA (λc hc=>hx c (cP _ hc)) (λc hc=>hy c (cP _ hc)) hT hU e2;exact⟨rfl,h2⟩
theorem BW{r:List (List UInt8)}:∀c,(Go.Lib.joinTail [32] r).head?=some c->c=32:=by
 intro c h;cases r with
 |nil=>cases h
 |cons x r=>simp[Go.Lib.joinTail]at h;exact h.symm
theorem L0:∀{g h:List Int},g.length=h.length->Go.Lib.joinTail [32] (g.map fQ)=Go.Lib.joinTail [32] (h.map fQ)->g=h
 |[],[],_,_=>rfl
 |v::g,w::h,hl,e=>by
  have e:(32:UInt8)::(fQ v++Go.Lib.joinTail [32] (g.map fQ))=32::(fQ w++Go.Lib.joinTail [32] (h.map fQ)):=by simpa[Go.Lib.joinTail]using e
  obtain⟨h1,h2⟩:=DA (DH v) (DH w) BW BW (sN e).2;rw[Ji h1,L0 (by simpa using hl) h2]
theorem LP{g h:List Int}(hl:g.length=h.length)(e:keyOf g=keyOf h):g=h:=by
 cases g with
 |nil=>cases h with
  |nil=>rfl
  |cons w h=>cases hl
 |cons v g=>
  cases h with
  |nil=>cases hl
  |cons w h=>
   unfold keyOf at e;rw[kZ,kZ,Go.Lib.join_cons,Go.Lib.join_cons]at e;obtain⟨h1,h2⟩:=DA (DH v) (DH w) BW BW e;rw[Ji h1,L0 (by simpa using hl) h2]
theorem OQ:∀{g:List Int},(∀v∈g,dl v<=10)->(Go.Lib.joinTail [32] (g.map fQ)).length<=99*g.length
 |[],_=>by simp[Go.Lib.joinTail]
 |v::g,h=>by
  have h1:=OQ (g:=g) λw hw=>h w (cP _ hw);have h2:=NH (h v cU);have e:Go.Lib.joinTail [32] ((v::g).map fQ)=(32:UInt8)::(fQ v++Go.Lib.joinTail [32] (g.map fQ)):=by simp[Go.Lib.joinTail]
  rw[e,cN,dL,cN];omega
theorem RZ{g:List Int}(h:∀v∈g,dl v<=10):(keyOf g).length<=99*g.length:=by
 cases g with
 |nil=>simp[keyOf,Go.Lib.join_nil]
 |cons v g=>
  have h1:=OQ (g:=g) λw hw=>h w (cP _ hw);have h2:=NH (h v cU);unfold keyOf;rw[kZ,Go.Lib.join_cons,dL,cN];omega
theorem Oz{g:List Int}(hl:g.length<=1000)(h:∀v∈g,dl v<=10):Tm (λN=>vg N (g.map B)) (·=keyOf g):=by
 unfold vg;refine aU (a:=g.map fQ) (eE g.length (λk s=>s.2=(k:Int)/\s.1=(g.take k).map fQ) ⟨rfl,rfl⟩ ?_) ?_
 . rintro k hk ⟨l,i⟩ ⟨rfl,rfl⟩;dsimp only[Fz];rw[cS];refine bB (λhlt=>?_) (λhge=>aI ?_)
   . have hlt:k<g.length:=by omega
     refine aJ (dt (by rw[cS];exact hlt)) ?_;rw[k6];refine aU (Va (h _ (dC hlt))) (aJ (eb (by simp only[cN,dY,cS,fm];omega) (by decide)) (aI ⟨hlt,dV (by omega),?_⟩));show _=(g.take (k+1)).map fQ;rw[<-jD hlt,iC];rfl
   . show _=_;rw[fx (by omega)]
 . have:=RZ h;refine aU (a:=keyOf g) ⟨_,0,rfl,λN _=>?_⟩ (aI rfl);show rJ N (g.map fQ) [32]=some (keyOf g);unfold rJ;rw[bA ⟨by rw[cS];omega,by show(keyOf g).length<=_;omega⟩];rfl
open Go Go.X
def mY(N:Nat)(s:aS)(x:bD):Option aC:=(idx s.aA x.pos).bind λx1=>some x1.dS
def yq(N:Nat)(s:aS)(x:bD):Option aC:=(idx s.aA x.pos).bind λx1=>some x1.dS
def ya(N:Nat)(Coefs138:(List aC))(b:bI)(c:eF):((List aC)×Int)->Option (aH ((List aC)×Int) (List aC))
 |(Coefs375,a)=>(if(a:Int)<(List.length Coefs138:Int)then (idx Coefs375 a).bind λd=>(idx b.bG a).bind λe=>(lj N c.N e).bind λf=>(jK N d f).bind λg=>(idx Coefs375 a).bind λj=>(dw Coefs375 a g).bind λi=>some (aH.next (i,(iw (a+1)))) else some (aH.done Coefs375))
def Dl(N:Nat)(s:aS)(dc:(List eF)):((List aC)×aC×Int)->Option (aH ((List aC)×aC×Int) ((List aC)×aC))
 |(Coefs138,Bound139,a)=>(if(a:Int)<(List.length dc:Int)then (idx dc a).bind λb=>(idx s.aA b.Index).bind λc=>(bO (ya N Coefs138 c b) N (Coefs138,0)).bind λss=>match ss with
    |Coefs397=>(lj N b.N c.dS).bind λd=>(jK N Bound139 d).bind λe=>some (aH.next (Coefs397,e,(iw (a+1)))) else some (aH.done (Coefs138,Bound139)))
def ym(N:Nat)(d:aC)(Coefs280:(List aC)):((List aC)×Int)->Option (aH ((List aC)×Int) (List aC))
 |(Coefs434,a)=>(if(a:Int)<(List.length Coefs280:Int)then (idx Coefs434 a).bind λb=>(lO N b d).bind λc=>(idx Coefs434 a).bind λf=>(dw Coefs434 a c.1).bind λe=>some (aH.next (e,(iw (a+1)))) else some (aH.done Coefs434))
def sx(N:Nat)(s:aS)(dc:(List eF))(d:aC):Option bI:=(fZ (α:=aC) 32 (aC.mk false ([]:(List Int))) s.n).bind λx1=>(bO (Dl N s dc) N (x1,(aC.mk false ([]:(List Int))),0)).bind λss=>match ss with
  |(Coefs280,Bound281)=>(bO (ym N d Coefs280) N (Coefs280,0)).bind λss=>match ss with
    |Coefs452=>(lO N Bound281 d).bind λa=>some (bI.mk Coefs452 a.1)
def yD(N:Nat)(g:(List aC))(d6:aC):((List aC)×Int)->Option (aH ((List aC)×Int) (List aC))
 |(b,a)=>(if(a:Int)<(List.length g:Int)then (idx g a).bind λc=>(lO N c d6).bind λd=>(idx b a).bind λf=>(dw b a d.1).bind λe=>some (aH.next (e,(iw (a+1)))) else some (aH.done b))
def ub(N:Nat)(s:aS)(g:(List aC))(dc:(List eF)):Option (bD×Bool×Bool×aS):=(yX N g).bind λr1=>(im N r1).bind λr2=>((((if¬((r2:Int)≠0)then (gF N 1).bind λj=>some j else some r1)):Option aC)).bind λss=>match ss with
  |d6=>(gF N 1).bind λa=>((((if((List.length dc:Int):Int)>1 then some true else (idx dc 0).bind λk=>(jx N k.N a).bind λl=>(if(l:Int)≠0 then some true else (jx N d6 a).bind λm=>some (decide ((m:Int)≠0))))):Option Bool)).bind λss=>match ss with
    |o=>((((if o=true then (cY 56 s.aV [(Step.mk dc d6)]).bind λf=>(sx N (aS.mk s.n s.aA f s.u s.aM s.value s.aB s.aK) dc d6).bind λp=>(cY 56 s.aA [p]).bind λi=>some (i,f,[(eF.mk (iw ((List.length i:Int)-1)) a)]) else some (s.aA,s.aV,dc))):Option ((List bI)×(List Step)×(List eF)))).bind λss=>match ss with
      |(b,c,v)=>(idx v 0).bind λd=>(fZ (α:=aC) 32 (aC.mk false ([]:(List Int))) s.n).bind λy=>(bO (yD N g d6) N (y,0)).bind λss=>match ss with
        |e=>(if(r2:Int)≠0 then some ((bD.mk d.Index e),(decide ((r2:Int)≠0)),true,(aS.mk s.n b c s.u s.aM s.value s.aB s.aK)) else (mY N (aS.mk s.n b c s.u s.aM s.value s.aB s.aK) (bD.mk d.Index e)).bind λa0=>(im N a0).bind λa1=>some ((bD.mk d.Index e),(decide ((r2:Int)≠0)),(decide ((a1:Int)≥0)),(aS.mk s.n b c s.u s.aM s.value s.aB s.aK)))
def AX(N:Nat)(s:aS)(x:bD):Int->Option (aH Int (Sum Unit aS))
 |a=>(if(a:Int)<(List.length s.aB:Int)then (idx s.aB a).bind λb=>(zT N x.g b.g (λy0 y1=>rb N y0 y1)).bind λc=>(if c=true then (mY N s x).bind λd=>(mY N s b).bind λe=>(jx N d e).bind λf=>(if(f:Int)<0 then (idx s.aB a).bind λj=>(dw s.aB a x).bind λi=>some (aH.done (Sum.inr (aS.mk s.n s.aA s.aV s.u s.aM s.value i s.aK))) else some (aH.done (Sum.inr s))) else some (aH.next (iw (a+1)))) else some (aH.done (Sum.inl ())))
def mz(N:Nat)(s:aS)(x:bD):Option aS:=(bO (AX N s x) N 0).bind λss=>match ss with
  |(Sum.inl _)=>(cY 32 s.aB [x]).bind λa=>some (aS.mk s.n s.aA s.aV s.u s.aM s.value a s.aK)
  |(Sum.inr z)=>some z
def nP(N:Nat)(s:aS)(g:(List aC))(dc:(List eF)):Option (Bool×aS):=(ub N s g dc).bind λr1=>((((if r1.2.1=true then (mz N (aS.mk s.n r1.2.2.2.aA r1.2.2.2.aV r1.2.2.2.u r1.2.2.2.aM r1.2.2.2.value r1.2.2.2.aB r1.2.2.2.aK) r1.1).bind λa=>some (a.aA,a.aV,a.u,a.aM,a.value,a.aB,a.aK) else some (r1.2.2.2.aA,r1.2.2.2.aV,r1.2.2.2.u,r1.2.2.2.aM,r1.2.2.2.value,r1.2.2.2.aB,r1.2.2.2.aK))):Option ((List bI)×(List Step)×(List (List aC))×(List Int)×(List aC)×(List bD)×(List dW)))).bind λss=>match ss with
  |(known5,steps6,u7,status8,value9,b,c)=>some (r1.2.2.1,(aS.mk s.n known5 steps6 u7 status8 value9 b c))
def Ig(N:Nat)(s:aS):((List bI)×(List Step)×(List (List aC))×(List Int)×(List aC)×(List bD)×(List dW)×Int)->Option (aH ((List bI)×(List Step)×(List (List aC))×(List Int)×(List aC)×(List bD)×(List dW)×Int) (Sum ((List bI)×(List Step)×(List (List aC))×(List Int)×(List aC)×(List bD)×(List dW)) (Bool×aS)))
 |(c,d,e,f,g,i,j,b)=>(if(b:Int)<(List.length s.aA:Int)then (idx c b).bind λk=>(pI N k.bG).bind λl=>(gF N 1).bind λm=>(nP N (aS.mk s.n c d e f g i j) l [(eF.mk b m)]).bind λa=>(if(!a.1)=true then some (aH.done (Sum.inr (false,(aS.mk s.n a.2.aA a.2.aV a.2.u a.2.aM a.2.value a.2.aB a.2.aK)))) else some (aH.next (a.2.aA,a.2.aV,a.2.u,a.2.aM,a.2.value,a.2.aB,a.2.aK,(iw (b+1))))) else some (aH.done (Sum.inl (c,d,e,f,g,i,j))))
def rv(N:Nat)(s:aS):Option (Bool×aS):=(bO (Ig N s) N (s.aA,s.aV,s.u,s.aM,s.value,s.aB,s.aK,0)).bind λss=>match ss with
  |(Sum.inl (a,b,c,d,e,f,g))=>some (true,(aS.mk s.n a b c d e f g))
  |(Sum.inr z)=>some z
def Hn(N:Nat)(s:aS):((List ((List UInt8)×Int))×Int)->Option (aH ((List ((List UInt8)×Int))×Int) (List ((List UInt8)×Int)))
 |(b,a)=>(if(a:Int)<(List.length s.aB:Int)then (idx s.aB a).bind λc=>(vg N c.g).bind λd=>some (aH.next ((lE b d a),(iw (a+1)))) else some (aH.done b))
def Gt(N:Nat)(s:aS)(b:(List ((List UInt8)×Int))):Int->Option (aH Int (Sum Unit (Int×Int×Bool×Bool×aS)))
 |c=>(if(c:Int)<(List.length s.aB:Int)then ((((idx s.aB c).bind λe=>(nY N e.g).bind λi=>(vg N i).bind λd=>((((if(!(gh b d 0).2)=true then some true else some (decide ((((gh b d 0).1):Int)<c)))):Option Bool)).bind λss=>match ss with
    |j=>(if j=true then some (Sum.inl ()) else (mY N s e).bind λk=>(idx s.aB ((gh b d 0).1)).bind λl=>(mY N s l).bind λm=>(jK N k m).bind λo=>(im N o).bind λf=>(if(f:Int)=(-1)then (fZ (α:=aC) 32 (aC.mk false ([]:(List Int))) s.n).bind λp=>(gF N 1).bind λv=>(idx s.aB ((gh b d 0).1)).bind λy=>(gF N 1).bind λa0=>(nP N s p [(eF.mk e.pos v),(eF.mk y.pos a0)]).bind λa=>some (Sum.inr (0,0,false,false,(aS.mk s.n a.2.aA a.2.aV a.2.u a.2.aM a.2.value a.2.aB a.2.aK))) else (if(f:Int)=0 then some (Sum.inr (c,(gh b d 0).1,true,true,s)) else some (Sum.inl ()))))):Option (Sum Unit (Int×Int×Bool×Bool×aS)))).bind λss=>match ss with
    |(Sum.inl _)=>some (aH.next (iw (c+1)))
    |(Sum.inr z)=>some (aH.done (Sum.inr z)) else some (aH.done (Sum.inl ())))
def rG(N:Nat)(s:aS):Option (Int×Int×Bool×Bool×aS):=(bO (Hn N s) N (([]:(List ((List UInt8)×Int))),0)).bind λss=>match ss with
  |a=>(bO (Gt N s a) N 0).bind λss=>match ss with
    |(Sum.inl _)=>some (0,0,false,true,s)
    |(Sum.inr z)=>some z
def mU(N:Nat)(l:(List aC))(c0:Int)(c1:aC)(c2:Int):Option (List aC):=(pI N l).bind λr1=>(idx r1 c0).bind λx2=>(idx r1 c2).bind λx3=>(lj N c1 x3).bind λr4=>(jL N x2 r4).bind λr5=>(idx r1 c0).bind λx6=>(dw r1 c0 r5).bind λx7=>some x7
def nz(N:Nat)(l:(List aC))(c0:Int):Option (List aC):=(pI N l).bind λr1=>(idx r1 c0).bind λx2=>(jZ N x2).bind λr3=>(idx r1 c0).bind λx4=>(dw r1 c0 r3).bind λx5=>some x5
def B4(N:Nat)(s:aS)(j:Int)(p:Int)(q:aC):((List (List aC))×Int)->Option (aH ((List (List aC))×Int) (List (List aC)))
 |(b,a)=>(if(a:Int)<(List.length s.u:Int)then (idx b a).bind λc=>((λy0=>mU N y0 j q p) c).bind λd=>(idx b a).bind λf=>(dw b a d).bind λe=>some (aH.next (e,(iw (a+1)))) else some (aH.done b))
def BH(N:Nat)(s:aS)(j:Int)(p:Int)(q:aC):((List bD)×Int)->Option (aH ((List bD)×Int) (List bD))
 |(b,a)=>(if(a:Int)<(List.length s.aB:Int)then (idx b a).bind λc=>((λy0=>mU N y0 j q p) c.g).bind λd=>(idx b a).bind λe=>(dw b a (bD.mk e.pos d)).bind λf=>some (aH.next (f,(iw (a+1)))) else some (aH.done b))
def zu(N:Nat)(s:aS)(j:Int)(p:Int)(q:aC):Option aS:=(bO (B4 N s j p q) N (s.u,0)).bind λss=>match ss with
  |a=>(bO (BH N s j p q) N (s.aB,0)).bind λss=>match ss with
    |b=>some (aS.mk s.n s.aA s.aV a s.aM s.value b s.aK)
def C8(N:Nat)(s:aS)(p:Int):((List (List aC))×Int)->Option (aH ((List (List aC))×Int) (List (List aC)))
 |(b,a)=>(if(a:Int)<(List.length s.u:Int)then (idx b a).bind λc=>((λy0=>nz N y0 p) c).bind λd=>(idx b a).bind λf=>(dw b a d).bind λe=>some (aH.next (e,(iw (a+1)))) else some (aH.done b))
def Cy(N:Nat)(s:aS)(p:Int):((List bD)×Int)->Option (aH ((List bD)×Int) (List bD))
 |(b,a)=>(if(a:Int)<(List.length s.aB:Int)then (idx b a).bind λc=>((λy0=>nz N y0 p) c.g).bind λd=>(idx b a).bind λe=>(dw b a (bD.mk e.pos d)).bind λf=>some (aH.next (f,(iw (a+1)))) else some (aH.done b))
def xU(N:Nat)(s:aS)(p:Int):Option aS:=(bO (C8 N s p) N (s.u,0)).bind λss=>match ss with
  |a=>(bO (Cy N s p) N (s.aB,0)).bind λss=>match ss with
    |b=>some (aS.mk s.n s.aA s.aV a s.aM s.value b s.aK)
def Cb(N:Nat)(b:bD):(Int×Int)->Option (aH (Int×Int) Int)
 |(c,a)=>(if(a:Int)<(List.length b.g:Int)then (((((((idx b.g a).bind λd=>(im N d).bind λe=>(if(e:Int)≠0 then (if(c:Int)<0 then some true else (idx b.g a).bind λf=>((λy0=>rU N y0) f).bind λi=>(idx b.g c).bind λj=>((λy0=>rU N y0) j).bind λk=>(jx N i k).bind λl=>some (decide ((l:Int)<0))) else some false)):Option Bool)).bind λss=>match ss with
    |m=>(if m=true then some a else some c)):Option Int)).bind λss=>match ss with
    |n=>some (aH.next (n,(iw (a+1)))) else some (aH.done c))
def B9(N:Nat)(s:aS)(i:Int)(d:bD)(e:Int):((List bI)×(List Step)×(List (List aC))×(List Int)×(List aC)×(List bD)×(List dW)×Bool×Int)->Option (aH ((List bI)×(List Step)×(List (List aC))×(List Int)×(List aC)×(List bD)×(List dW)×Bool×Int) ((List bI)×(List Step)×(List (List aC))×(List Int)×(List aC)×(List bD)×(List dW)×Bool))
 |(f,j,k,l,m,c,o,p,b)=>(if(b:Int)<(List.length d.g:Int)then (((((((if(b:Int)≠e then (idx c i).bind λv=>(idx v.g b).bind λy=>(im N y).bind λa0=>some (decide ((a0:Int)≠0)) else some false)):Option Bool)).bind λss=>match ss with
    |a1=>(if a1=true then (idx d.g b).bind λa2=>(idx d.g e).bind λa3=>(lO N a2 a3).bind λa4=>(zu N (aS.mk s.n f j k l m c o) b e a4.1).bind λa=>some (a.aA,a.aV,a.u,a.aM,a.value,a.aB,a.aK,false) else some (f,j,k,l,m,c,o,p))):Option ((List bI)×(List Step)×(List (List aC))×(List Int)×(List aC)×(List bD)×(List dW)×Bool))).bind λss=>match ss with
    |(a5,a6,a7,a8,a9,aa,ab,ac)=>some (aH.next (a5,a6,a7,a8,a9,aa,ab,ac,(iw (b+1)))) else some (aH.done (f,j,k,l,m,c,o,p)))
def Co(N:Nat)(s:aS)(i:Int):((List bI)×(List Step)×(List (List aC))×(List Int)×(List aC)×(List bD)×(List dW))->Option (aH ((List bI)×(List Step)×(List (List aC))×(List Int)×(List aC)×(List bD)×(List dW)) (Int×aS))
 |(p,v,y,a0,a1,o,a2)=>(idx o i).bind λc=>(bO (Cb N c) N ((-1),0)).bind λss=>match ss with
   |b=>(bO (B9 N s i c b) N (p,v,y,a0,a1,o,a2,true,0)).bind λss=>match ss with
     |(d,e,f,j,k,l,m,a3)=>(if a3=true then (idx c.g b).bind λa4=>(im N a4).bind λa5=>((((if(a5:Int)<0 then (xU N (aS.mk s.n d e f j k l m) b).bind λa=>some (a.aA,a.aV,a.u,a.aM,a.value,a.aB,a.aK) else some (d,e,f,j,k,l,m))):Option ((List bI)×(List Step)×(List (List aC))×(List Int)×(List aC)×(List bD)×(List dW)))).bind λss=>match ss with
        |(a6,a7,a8,a9,aa,ab,ac)=>some (aH.done (b,(aS.mk s.n a6 a7 a8 a9 aa ab ac))) else some (aH.next (d,e,f,j,k,l,m)))
def zr(N:Nat)(s:aS)(i:Int):Option (Int×aS):=(bO (Co N s i) N (s.aA,s.aV,s.u,s.aM,s.value,s.aB,s.aK)).bind λss=>match ss with
  |z=>some z
def Hi(N:Nat)(s:aS)(i:Int)(j:Int)(r1:(Int×aS))(x2:bD)(x3:bD):((List bI)×(List Step)×(List (List aC))×(List Int)×(List aC)×(List bD)×(List dW)×Int)->Option (aH ((List bI)×(List Step)×(List (List aC))×(List Int)×(List aC)×(List bD)×(List dW)×Int) (Sum ((List bI)×(List Step)×(List (List aC))×(List Int)×(List aC)×(List bD)×(List dW)) (Bool×aS)))
 |(d,e,f,k,l,m,o,c)=>(if(c:Int)<(List.length r1.2.aB:Int)then ((((idx r1.2.aB c).bind λp=>((((if(c:Int)=i then some true else some (decide ((c:Int)=j)))):Option Bool)).bind λss=>match ss with
    |a0=>(if a0=true then some (Sum.inl (d,e,f,k,l,m,o)) else (idx p.g r1.1).bind λv=>(im N v).bind λa1=>(if(a1:Int)=0 then (mz N (aS.mk s.n d e f k l m o) p).bind λb=>some (Sum.inl (b.aA,b.aV,b.u,b.aM,b.value,b.aB,b.aK)) else (pI N p.g).bind λy=>(idx y r1.1).bind λae=>(dw y r1.1 (aC.mk false ([]:(List Int)))).bind λa2=>(im N v).bind λa3=>((((if(a3:Int)<0 then (jZ N v).bind λa4=>some (eF.mk x2.pos a4) else some (eF.mk x3.pos v))):Option eF)).bind λss=>match ss with
        |a5=>(gF N 1).bind λa6=>(nP N (aS.mk s.n d e f k l m o) a2 [(eF.mk p.pos a6),a5]).bind λa=>(if(!a.1)=true then some (Sum.inr (false,(aS.mk s.n a.2.aA a.2.aV a.2.u a.2.aM a.2.value a.2.aB a.2.aK))) else some (Sum.inl (a.2.aA,a.2.aV,a.2.u,a.2.aM,a.2.value,a.2.aB,a.2.aK)))))):Option (Sum ((List bI)×(List Step)×(List (List aC))×(List Int)×(List aC)×(List bD)×(List dW)) (Bool×aS)))).bind λss=>match ss with
    |(Sum.inl (a7,a8,a9,aa,ab,ac,ad))=>some (aH.next (a7,a8,a9,aa,ab,ac,ad,(iw (c+1))))
    |(Sum.inr z)=>some (aH.done (Sum.inr z)) else some (aH.done (Sum.inl (d,e,f,k,l,m,o))))
def pA(N:Nat)(s:aS)(i:Int)(j:Int):Option (Bool×aS):=(zr N s i).bind λr1=>(idx r1.2.aB i).bind λx2=>(idx r1.2.aB j).bind λx3=>(mY N (aS.mk s.n r1.2.aA r1.2.aV r1.2.u r1.2.aM r1.2.value r1.2.aB r1.2.aK) x2).bind λr4=>(idx r1.2.aM r1.1).bind λx5=>(dw r1.2.aM r1.1 1).bind λx6=>(idx r1.2.value r1.1).bind λx7=>(dw r1.2.value r1.1 r4).bind λx8=>(bO (Hi N s i j r1 x2 x3) N (r1.2.aA,r1.2.aV,r1.2.u,x6,x8,([]:(List bD)),r1.2.aK,0)).bind λss=>match ss with
  |(Sum.inl (a,b,c,d,e,f,g))=>some (true,(aS.mk s.n a b c d e f g))
  |(Sum.inr z)=>some z
def Dv(N:Nat)(s:aS)(y:(List aC))(a:Int):((List aC)×Int)->Option (aH ((List aC)×Int) (List aC))
 |(b,c)=>(if(c:Int)<(List.length y:Int)then (idx b a).bind λd=>(idx s.u a).bind λe=>(idx e c).bind λf=>(idx y c).bind λg=>(lj N f g).bind λi=>(jK N d i).bind λj=>(idx b a).bind λl=>(dw b a j).bind λk=>some (aH.next (k,(iw (c+1)))) else some (aH.done b))
def zN(N:Nat)(s:aS)(y:(List aC))(x1:(List aC)):((List aC)×Int)->Option (aH ((List aC)×Int) (List aC))
 |(b,a)=>(if(a:Int)<(List.length x1:Int)then (bO (Dv N s y a) N (b,0)).bind λss=>match ss with
    |c=>some (aH.next (c,(iw (a+1)))) else some (aH.done b))
def mZ(N:Nat)(s:aS)(y:(List aC)):Option (List aC):=(fZ (α:=aC) 32 (aC.mk false ([]:(List Int))) s.n).bind λx1=>(bO (zN N s y x1) N (x1,0)).bind λss=>match ss with
  |a=>some a
open Go Go.X
structure AQ where
 c:List Int
 b:Int
structure AI where
 pos:Nat
 g:List Int
structure AU where
 ix:Nat
 n:Int
structure AS where
 dc:List AU
 d:Int
structure AE where
 v:Nat
 aB:List Nat
 dT:Bool
structure St where
 n:Nat
 aA:List AQ
 aV:List AS
 u:List (List Int)
 aM:List Int
 value:List Int
 aB:List AI
 aK:List AE
def mB(l:List Int):List aC:=l.map B
def AQ.to(q:AQ):bI:=⟨mB q.c,B q.b⟩
def AI.to(x:AI):bD:=⟨x.pos,mB x.g⟩
def AU.to(u:AU):eF:=⟨u.ix,B u.n⟩
def AS.to(s:AS):Step:=⟨s.dc.map AU.to,B s.d⟩
def AE.to(e:AE):dW:=⟨e.v,e.aB.map Int.ofNat,e.dT⟩
def St.to(s:St):aS:=⟨s.n,s.aA.map AQ.to,s.aV.map AS.to,s.u.map mB,s.aM,mB s.value,s.aB.map AI.to,s.aK.map AE.to⟩
theorem iO{x:aS}{n:Int}(h:n=x.n):aS.mk n x.aA x.aV x.u x.aM x.value x.aB x.aK=x:=by subst h;rfl
theorem dF(l:List Int):(mB l).length=l.length:=cS ..
theorem EI{l:List Int}{k:Nat}(h:k<(mB l).length):(mB l)[k]=B (l[k]'(by rwa[dF]at h)):=k6 ..
theorem KJ{l:List Int}{k:Nat}(h:k<l.length):idx (mB l) (k:Int)=some (B l[k]):=by
 rw[dt (by rw[dF];exact h),EI]
theorem Av{a b:List Int}(h:mB a=mB b):a=b:=List.map_inj_right (λ_ _ e=>Cp e)|>.1 h
theorem tK{l:List Int}{k:Nat}{v:Int}:(mB l).set k (B v)=mB (l.set k v):=by unfold mB;rw[D0]
theorem nh{n:Nat}:mB (List.replicate n 0)=List.replicate n ⟨false,[]⟩:=by unfold mB;rw[List.map_replicate,B0]
def vf(l:List Int)(j:Nat):Int:=l.getD j 0
theorem px{l:List Int}{j:Nat}(h:j<l.length):vf l j=l[j]:=by unfold vf;rw[cL,cy h];rfl
theorem jA{l:List Int}{j:Nat}(h:l.length<=j):vf l j=0:=by unfold vf;rw[cL,gm h];rfl
theorem dX{l:List Int}{k:Nat}(h:k<l.length):idx (mB l) (k:Int)=some (B (vf l k)):=by rw[KJ h,px h]
def vec(n:Nat)(f:Nat->Int):List Int:=(List.range n).map f
theorem dN{n:Nat}{f:Nat->Int}:(vec n f).length=n:=by simp[vec]
theorem db{n j:Nat}{f:Nat->Int}(h:j<n):vf (vec n f) j=f j:=by rw[px (by rw[dN];exact h)];simp[vec]
theorem sc{n:Nat}{f g:Nat->Int}(h:∀j,j<n->f j=g j):vec n f=vec n g:=Ap λj hj=>h j (qR.1 hj)
theorem kg{a b:List Int}(hl:a.length=b.length)(h:∀j,j<a.length->vf a j=vf b j):a=b:=by
 apply oD hl;intro i h1 h2;rw[<-px h1,<-px h2];exact h i h1
theorem gw{l:List Int}{v:Int}(h:v∈l):∃j,j<l.length/\vf l j=v:=by
 obtain⟨j,hj,rfl⟩:=lL h;exact⟨j,hj,px hj⟩
theorem gP{l:List Int}{j:Nat}(h:j<l.length):vf l j∈l:=by rw[px h];exact dC h
theorem iX{l:List Int}{k j:Nat}{v:Int}(h:k<l.length):vf (l.set k v) j=if k=j then v else vf l j:=by
 unfold vf;rw[cL,cL,uR];by_cases e:k=j
 . subst e;simp[h]
 . simp[e]
theorem Tm.fill{α ρ:Type}{n:Nat}(hn:n<=9223372036854775806){c0:List α}(F:Nat->α)(h0:c0.length=n){body:Nat->List α×Int->Option (aH (List α×Int) ρ)}{fin:List α->ρ}
 (step:∀k,k<n->∀c:List α,c.length=n->c[k]?=c0[k]?->Tm (λN=>body N (c,(k:Int))) (·=.next (c.set k (F k),iw ((k:Int)+1))))
 (stop:∀c:List α,c.length=n->Tm (λN=>body N (c,(n:Int))) (·=.done (fin c))):
 Tm (λN=>bO (body N) N (c0,0)) (·=fin ((List.range n).map F)):=by
 refine eE n (λk s=>s.2=(k:Int)/\s.1.length=n/\(∀j,j<k->s.1[j]?=some (F j))/\∀j,k<=j->s.1[j]?=c0[j]?) ⟨rfl,h0,λj hj=>by omega,λj _=>rfl⟩ ?_;rintro k hk ⟨c,i⟩ ⟨rfl,hc,h1,h2⟩;dsimp only at hc h1 h2;rcases cG k n with hlt|hge
 . refine(step k hlt c hc (h2 k (bQ _))).mono λt ht=>?_;subst ht;refine⟨hlt,dV (by omega),by rw[gI];exact hc,λj hj=>?_,λj hj=>?_⟩
   . show(c.set k (F k))[j]?=_;rw[uR];by_cases e:k=j
     . subst e;simp[hc,hlt]
     . rw[aQ e];exact h1 j (by omega)
   . show(c.set k (F k))[j]?=_;rw[uR,aQ (by omega)];exact h2 j (by omega)
 . obtain rfl:k=n:=by omega
   refine(stop c hc).mono λt ht=>?_;subst ht;show fin c=_;congr 1;apply sJ;intro j;rcases cG j k with hj|hj
   . rw[h1 j hj];simp[hj]
   . rw[gm (by omega),gm (by simp;omega)]
theorem Tm.rO{ρ:Type}{n:Nat}(hn:n<=9223372036854775806){c0:List Int}(F:Nat->Int)(h0:c0.length=n){body:Nat->List aC×Int->Option (aH (List aC×Int) ρ)}{fin:List aC->ρ}
 (step:∀k,k<n->∀c:List aC,c.length=n->idx c (k:Int)=some (B (vf c0 k))->Tm (λN=>body N (c,(k:Int))) (·=.next (c.set k (B (F k)),iw ((k:Int)+1))))
 (stop:∀c:List aC,c.length=n->Tm (λN=>body N (c,(n:Int))) (·=.done (fin c))):
 Tm (λN=>bO (body N) N (mB c0,0)) (·=fin (mB (vec n F))):=by
 have:=Tm.fill hn (c0:=mB c0) (λj=>B (F j)) (by rw[dF,h0]) (body:=body) (fin:=fin) (λk hk c hc h=>step k hk c hc (by rw[E9,h,<-E9];exact dX (by omega))) stop;refine this.mono λr hr=>?_;rw[hr];unfold mB vec;rw[nF];rfl
def di:List Int->Nat
 |[]=>0
 |x::l=>Int.gcd x (di l)
theorem qy:∀{l:List Int} {x:Int},x∈l->((di l:Nat):Int)∣x
 |y::l,x,h=>by
  rcases eJ.1 h with rfl|h
  . exact Int.gcd_dvd_left ..
  . exact P7 (Int.gcd_dvd_right ..) (qy h)
theorem oq:∀{l:List Int} {d:Int},(∀x∈l,d∣x)->d∣((di l:Nat):Int)
 |[],d,_=>by simp[di]
 |y::l,d,h=>by
  have h1:=h y cU;have h2:=oq (l:=l) λx hx=>h x (cP _ hx);exact Int.dvd_coe_gcd h1 h2
theorem JK{l:List Int}(h:di l=0):∀x∈l,x=0:=λx hx=>by
 have:=qy hx;rw[h]at this;exact Int.zero_dvd.1 this
theorem R6{a:Int}{b:Nat}{K:Nat}(h:dl a<=K)(h':dl b<=K):dl (Int.gcd a b:Nat)<=K:=by
 rcases uX a 0 with h1|h1|h1
 . exact bV (sY (by have:=Nat.le_of_dvd (by omega) (Nat.gcd_dvd_left a.natAbs b);show((Int.gcd a b:Nat):Int).natAbs<=_;rw[P8];exact this)) h
 . subst h1;rw[Int.zero_gcd];exact h'
 . exact bV (sY (by have:=Nat.le_of_dvd (by omega) (Nat.gcd_dvd_left a.natAbs b);show((Int.gcd a b:Nat):Int).natAbs<=_;rw[P8];exact this)) h
theorem wY:∀{l:List Int} {K:Nat},(∀v∈l,dl v<=K)->dl (di l:Nat)<=K
 |[],K,_=>by show dl 0<=K;rw[fw];omega
 |x::l,K,h=>R6 (h x cU) (wY λv hv=>h v (cP _ hv))
theorem OA{l:List Int}{k:Nat}(h:k<l.length):Int.gcd (di (l.take k):Nat) l[k]=di (l.take (k+1)):=by
 have key:∀(a:List Int) (x:Int),di (a++[x])=Int.gcd (di a:Nat) x:=by
  intro a x
  induction a with
  |nil=>show Int.gcd x (0:Nat)=Int.gcd (0:Nat) x;rw[Int.gcd_comm]
  |cons y a ih=>
   show Int.gcd y (di (a++[x]):Nat)=Int.gcd (Int.gcd y (di a:Nat):Nat) x;rw[ih,Int.gcd_assoc]
 rw[<-jD h,key]
theorem QU{l:List Int}{K:Nat}(hK:K<=cM)(hl:l.length<=9223372036854775806)(h:∀v∈l,dl v<=K):Tm (λN=>yX N (mB l)) (·=B (di l:Nat)):=by
 unfold yX;refine aU (a:=((B (di l:Nat)).bR,(B (di l:Nat)).aR)) (eE l.length (λk s=>s.2.2=(k:Int)/\s.1=(B (di (l.take k):Nat)).bR/\s.2.1=(B (di (l.take k):Nat)).aR) ⟨rfl,by show false=(B 0).bR;rw[B0],by show[]=(B 0).aR;rw[B0]⟩ ?_) (aI rfl);rintro k hk ⟨a,b,i⟩ ⟨rfl,rfl,rfl⟩;dsimp only[EV];rw[dF];refine bB (λhlt=>?_) (λhge=>aI ?_)
 . have hlt:k<l.length:=by omega
   refine aJ (KJ hlt) (aU (tmGcd (a:=(di (l.take k):Nat)) (b:=l[k]) (bV (wY λv hv=>h v (uS hv)) hK) (bV (h _ (dC hlt)) hK)) (aI ⟨hlt,dV (by omega),?_,?_⟩))
   . dsimp only;rw[OA]
   . dsimp only;rw[OA]
 . show _=_;rw[fx (by omega)]
theorem tW{l:List Int}{K:Nat}(hK:K<=cM)(hl:l.length<=1073741824)(h:∀v∈l,dl v<=K):Tm (λN=>nY N (mB l)) (·=mB (vec l.length λj=>-vf l j)):=by
 unfold nY;refine aJ (iu (n:=l.length) (by rw[dF]) (by omega) (by decide)) ?_;rw[show(aC.mk false ([]:List Int))=B 0 from B0.symm,show List.replicate l.length (B 0)=mB (List.replicate l.length 0) by rw[nh,B0]];refine aU (Tm.rO (n:=l.length) (by omega) (λj=>-vf l j) (by simp) (fin:=id) ?_ ?_) (aI rfl)
 . intro k hk c hc hi;dsimp only[Cu];refine cR (by rw[dF];omega) (aJ (dX hk) (aU (oR (bV (h _ (gP hk)) hK)) (aJ hi (aJ (eH rfl (by omega)) (aI rfl)))))
 . intro c hc;dsimp only[Cu];exact cE (by rw[dF];omega) (aI rfl)
def bW(l:List Int):List Int:=vec l.length λj=>-vf l j
theorem iF(l:List Int):(bW l).length=l.length:=dN
theorem gr{l:List Int}{j:Nat}:vf (bW l) j=-vf l j:=by
 rcases cG j l.length with h|h
 . exact db h
 . rw[jA (by rw[iF];exact h),jA h];rfl
theorem Db{l:List Int}{v:Int}(h:v∈bW l):-v∈l:=by
 obtain⟨j,hj,rfl⟩:=gw h;rw[gr,I3];exact gP (by rwa[iF]at hj)
theorem sE(l:List Int):bW (bW l)=l:=kg (by rw[iF,iF]) λj _=>by rw[gr,gr,I3]
def aG(kn:List AQ)(i:Nat):AQ:=kn.getD i ⟨[],0⟩
theorem tz{kn:List AQ}{i:Nat}(h:i<kn.length):aG kn i=kn[i]:=by unfold aG;rw[cL,cy h];rfl
theorem iz{kn e:List AQ}{i:Nat}(h:i<kn.length):aG (kn++e) i=aG kn i:=by
 unfold aG;rw[cL,cL,kW h]
theorem oO{kn:List AQ}{q:AQ}:aG (kn++[q]) kn.length=q:=by
 unfold aG;rw[cL];simp
theorem eW{kn:List AQ}{i:Nat}(h:i<kn.length):aG kn i∈kn:=by rw[tz h];exact dC h
theorem pC{kn:List AQ}{i:Nat}(h:i<kn.length):idx (kn.map AQ.to) (i:Int)=some (aG kn i).to:=by
 rw[dt (by simpa using h),k6,tz h]
theorem uf{s:St}{x:AI}(h:x.pos<s.aA.length):Tm (λN=>mY N s.to x.to) (·=B (aG s.aA x.pos).b):=by
 unfold mY;exact aJ (pC h) (aI rfl)
theorem LJ{s:St}{x:AI}(h:x.pos<s.aA.length):Tm (λN=>yq N s.to x.to) (·=B (aG s.aA x.pos).b):=uf h
def eQ(kn:List AQ):List AU->Nat->Int
 |[],_=>0
 |u::us,j=>u.n*vf (aG kn u.ix).c j+eQ kn us j
def fN(kn:List AQ):List AU->Int
 |[]=>0
 |u::us=>u.n*(aG kn u.ix).b+fN kn us
theorem O9{kn:List AQ}{u:AU}{j:Nat}:∀{us:List AU},eQ kn (us++[u]) j=eQ kn us j+u.n*vf (aG kn u.ix).c j
 |[]=>by show u.n*vf (aG kn u.ix).c j+0=0+_;omega
 |v::us=>by show _+eQ kn (us++[u]) j=_+_+_;rw[O9];omega
theorem KQ{kn:List AQ}{u:AU}:∀{us:List AU},fN kn (us++[u])=fN kn us+u.n*(aG kn u.ix).b
 |[]=>by show u.n*(aG kn u.ix).b+0=0+_;omega
 |v::us=>by show _+fN kn (us++[u])=_+_+_;rw[KQ];omega
def gu(K:Nat)(q:AQ):Prop:=(∀v∈q.c,dl v<=K)/\dl q.b<=K
theorem gu.vf{K:Nat}{q:AQ}(h:gu K q)(j:Nat):dl (vf q.c j)<=K:=by
 rcases cG j q.c.length with hj|hj
 . exact h.1 _ (gP hj)
 . rw[jA hj,fw];omega
theorem gu.mono{K K':Nat}{q:AQ}(h:gu K q)(hK:K<=K'):gu K' q:=⟨λv hv=>bV (h.1 v hv) hK,bV h.2 hK⟩
def np(n K:Nat)(kn:List AQ)(u:AU):Prop:=u.ix<kn.length/\0<=u.n/\dl u.n<=4/\gu K (aG kn u.ix)/\(aG kn u.ix).c.length=n
theorem De{n K:Nat}{kn:List AQ}{j:Nat}:∀{us:List AU},(∀u∈us,np n K kn u)->dl (eQ kn us j)<=K+4+us.length
 |[],_=>by show dl 0<=_;rw[fw];omega
 |u::us,h=>by
  have h1:=h u cU;have h2:=De (j:=j) (us:=us) λv hv=>h v (cP _ hv);have h3:=jO u.n (vf (aG kn u.ix).c j);have h4:=h1.2.2.2.1.vf j;have h5:=h1.2.2.1;have:=pV (K:=K+4+us.length) (a:=u.n*vf (aG kn u.ix).c j) (b:=eQ kn us j) (by omega) h2;show dl (_+_)<=_;rw[cN];omega
theorem Cm{n K:Nat}{kn:List AQ}:∀{us:List AU},(∀u∈us,np n K kn u)->dl (fN kn us)<=K+4+us.length
 |[],_=>by show dl 0<=_;rw[fw];omega
 |u::us,h=>by
  have h1:=h u cU;have h2:=Cm (us:=us) λv hv=>h v (cP _ hv);have h3:=jO u.n (aG kn u.ix).b;have h4:=h1.2.2.2.1.2;have h5:=h1.2.2.1;have:=pV (K:=K+4+us.length) (a:=u.n*(aG kn u.ix).b) (b:=fN kn us) (by omega) h2;show dl (_+_)<=_;rw[cN];omega
def nX(n:Nat)(kn:List AQ)(us:List AU)(d:Int):AQ:=⟨vec n λj=>eQ kn us j/d,fN kn us/d⟩
theorem tmSum{s:St}{K:Nat}(hK:K<=1099511627000){us:List AU}{d:Int}(hn:s.n<=512)(hu:∀u∈us,np s.n K s.aA u)(hul:us.length<=2)(hd:0<d)(hdl:dl d<=cM):
 Tm (λN=>sx N s.to (us.map AU.to) (B d)) (·=(nX s.n s.aA us d).to):=by
 have hL:cM=1099511627776:=rfl;unfold sx;refine aJ (iu (n:=s.n) rfl (by omega) (by decide)) ?_;rw[<-nh];refine aU (a:=(mB (vec s.n λj=>eQ s.aA us j),B (fN s.aA us))) (eE us.length (λk t=>t.2.2=(k:Int)/\t.1=mB (vec s.n λj=>eQ s.aA (us.take k) j)/\t.2.1=B (fN s.aA (us.take k))) ⟨rfl,?_,B0.symm⟩ ?_) ?_
 . show mB (List.replicate s.n 0)=mB (vec s.n λj=>0);congr 1;apply oD (by simp[vec]);intro i h1 h2;simp[vec]
 . rintro k hk ⟨c,b,i⟩ ⟨rfl,rfl,rfl⟩;dsimp only[Dl];rw[cS];refine bB (λhlt=>?_) (λhge=>aI ?_)
   . have hlt:k<us.length:=by omega
     have hux:=hu _ (dC hlt);have htk:∀u∈us.take k,np s.n K s.aA u:=λu hu'=>hu u (uS hu');have htl:(us.take k).length<=2:=by rw[fm];omega
     refine aJ (dt (by simpa using hlt)) ?_;rw[k6];generalize hue:us[k]=u at*;refine aJ (pC hux.1) ?_;have hm:∀j,dl (u.n*vf (aG s.aA u.ix).c j)<=K+4:=λj=>by
      have:=jO u.n (vf (aG s.aA u.ix).c j);have:=hux.2.2.2.1.vf j;have:=hux.2.2.1;omega
     have hmb:dl (u.n*(aG s.aA u.ix).b)<=K+4:=by
      have:=jO u.n (aG s.aA u.ix).b;have:=hux.2.2.2.1.2;have:=hux.2.2.1;omega
     have hun:=hux.2.2.1;refine aU (a:=mB (vec s.n λj=>eQ s.aA (us.take (k+1)) j)) ?_ ?_
     . refine(Tm.rO (n:=s.n) (by omega) (λj=>eQ s.aA (us.take (k+1)) j) dN (fin:=id) ?_ ?_)
       . intro j hj c hc hi;dsimp only[ya];have h1:=De (j:=j) htk;have h2:=hux.2.2.2.1.vf j;have h3:=hm j;refine cR (by rw[dF,dN];omega) (aJ hi (aJ (dX (by rw[hux.2.2.2.2];exact hj)) (aU (pe (by omega) (by omega)) (aU (ox (by rw[db hj];omega) (by omega)) (aJ hi (aJ (eH rfl (by omega)) (aI ?_)))))));rw[db hj,<-jD hlt,O9,hue]
       . intro c hc;dsimp only[ya];exact cE (by rw[dF,dN];omega) (aI rfl)
     . have h1:=Cm htk;have h2:=hux.2.2.2.1.2;refine aU (pe (a:=u.n) (b:=(aG s.aA u.ix).b) (by omega) (by omega)) (aU (ox (by omega) (by omega)) (aI ⟨hlt,dV (by omega),rfl,?_⟩));show B _=B _;rw[<-jD hlt,KQ,hue]
   . show _=_;rw[fx (by omega)]
 . dsimp only;have h0:∀j,dl (eQ s.aA us j)<=K+6:=λj=>by have:=De (j:=j) hu;omega
   have hb:dl (fN s.aA us)<=K+6:=by have:=Cm hu;omega
   refine aU (a:=mB (vec s.n λj=>eQ s.aA us j/d)) ?_ ?_
   . refine(Tm.rO (n:=s.n) (by omega) (λj=>eQ s.aA us j/d) dN (fin:=id) ?_ ?_)
     . intro j hj c hc hi;dsimp only[ym];have h1:=h0 j;refine cR (by rw[dF,dN];omega) (aJ hi (Tm.bind (rY (by rw[db hj];omega) hdl) ?_));intro r hr;refine aJ hi (aJ (eH rfl (by omega)) (aI ?_));rw[hr,db hj,j4 _ (eK hd)]
     . intro c hc;dsimp only[ym];exact cE (by rw[dF,dN];omega) (aI rfl)
   . refine Tm.bind (rY (by omega) hdl) ?_;intro r hr;refine aI ?_;rw[hr,j4 _ (eK hd)];rfl
open Go Go.X
structure ig (K:Nat)(s:St):Prop where
 n:s.n<=512
 kl:s.aA.length<=1073741824
 sl:s.aV.length<=1073741824
 il:s.aB.length<=1073741824
 k:∀q∈s.aA,gu K q/\q.c.length=s.n
 i:∀x∈s.aB,x.pos<s.aA.length/\x.g.length=s.n/\∀v∈x.g,dl v<=8
 K:K<=1099511627000
def dv(g:List Int):Int:=if di g=0 then 1 else(di g:Nat)
theorem qC(g:List Int):0<dv g:=by unfold dv;split<;>omega
def many(g:List Int)(us:List AU):Bool:=decide (1<us.length)||(decide ((us.headD ⟨0,0⟩).n≠1)||decide (dv g≠1))
def jz(s:St)(g:List Int)(us:List AU):Nat:=if many g us then s.aA.length else(us.headD ⟨0,0⟩).ix
def dst(s:St)(g:List Int)(us:List AU):St:=if many g us then{s with aV:=s.aV++[⟨us,dv g⟩],aA:=s.aA++[nX s.n s.aA us (dv g)]}else s
def kC(s:St)(g:List Int)(us:List AU):AI:=⟨jz s g us,vec s.n λj=>vf g j/dv g⟩
def ot(s:St)(g:List Int)(us:List AU):Bool:=decide (di g≠0)||decide (0<=(aG (dst s g us).aA (jz s g us)).b)
def eG(kn:List AQ)(x:AI):List AI->List AI
 |[]=>[x]
 |y::r=>if x.g=y.g then(if(aG kn x.pos).b<(aG kn y.pos).b then x::r else y::r)else y::eG kn x r
def add(s:St)(x:AI):St:={s with aB:=eG s.aA x s.aB}
def put(s:St)(g:List Int)(us:List AU):Bool×St:=(ot s g us,if di g≠0 then add (dst s g us) (kC s g us)else dst s g us)
structure gX (K:Nat)(s:St)(g:List Int)(us:List AU):Prop where
 gl:g.length=s.n
 g:∀v∈g,dl v<=8
 ul:us.length<=2
 u0:us≠[]
 u:∀u∈us,np s.n K s.aA u
theorem BL{K:Nat}{s:St}{g:List Int}{us:List AU}(h:gX K s g us):jz s g us<(dst s g us).aA.length:=by
 unfold jz dst;split
 . simp
 . cases us with
   |nil=>exact bX rfl h.u0
   |cons u r=>exact(h.u u cU).1
theorem Gi(s:St)(g:List Int)(us:List AU):∃e,(dst s g us).aA=s.aA++e/\e.length<=1:=by
 unfold dst;split
 . exact⟨_,rfl,by simp⟩
 . exact⟨[],by simp,by simp⟩
theorem H8(s:St)(g:List Int)(us:List AU):(dst s g us).n=s.n:=by unfold dst;split<;>rfl
theorem MD(s:St)(g:List Int)(us:List AU):(dst s g us).aB=s.aB:=by unfold dst;split<;>rfl
theorem QS{g:List Int}{n K:Nat}{d:Int}(hd:0<=d)(h:∀v∈g,dl v<=K):∀v∈vec n (λj=>vf g j/d),dl v<=K:=by
 intro v hv;obtain⟨j,hj,rfl⟩:=gw hv;rw[dN]at hj;rw[db hj];refine bV (FU hd) ?_;rcases cG j g.length with h1|h1
 . exact h _ (gP h1)
 . rw[jA h1,fw];omega
theorem Ib{K:Nat}{s:St}{g:List Int}{us:List AU}(h:gX K s g us):gu (K+6) (nX s.n s.aA us (dv g))/\(nX s.n s.aA us (dv g)).c.length=s.n:=by
 have hd:=eK (qC g);refine⟨⟨λv hv=>?_,?_⟩,dN⟩
 . obtain⟨j,hj,rfl⟩:=gw hv;have hj:j<s.n:=by rwa[show(nX s.n s.aA us (dv g)).c=vec s.n _ from rfl,dN]at hj
   show dl (vf (vec s.n _) j)<=_;rw[db hj];have:=De (j:=j) h.u;have:=h.ul;have:=FU (a:=eQ s.aA us j) hd;omega
 . have:=Cm h.u;have:=h.ul;have:=FU (a:=fN s.aA us) hd;show dl (fN s.aA us/dv g)<=_;omega
theorem Tp{K K':Nat}{s:St}{g:List Int}{us:List AU}(hs:ig K s)(h:gX K' s g us)(hk:K'<=K):Tm (λN=>ub N s.to (mB g) (us.map AU.to)) (·=((kC s g us).to,decide (di g≠0),ot s g us,(dst s g us).to)):=by
  have hL:cM=1099511627776:=rfl;have hK:=hs.K;have hkl:=hs.kl;have hsl:=hs.sl;have hn:=hs.n;have hgd:dl (di g:Nat)<=8:=wY h.g
  have hdd : dl (dv g) <= 8 := by unfold dv; split; · exact bV kE (by decide)
                                  . exact hgd
  have hgl:=h.gl;have hul:=h.ul;obtain⟨u,r,rfl⟩:∃u r,us=u::r:=by
    cases us with
    |nil=>exact bX rfl h.u0
    |cons u r=>exact⟨u,r,rfl⟩
  have hu0:=h.u u cU;unfold ub;refine aU (QU (K:=8) (by omega) (by omega) h.g) (aU (j2 (by omega)) ?_);have hsg:bZ (di g:Nat) 0≠0↔di g≠0:=by unfold bZ;(repeat' split)<;>omega
  refine aU (a:=B (dv g)) (bB (λh0=>?_) (λh0=>aI ?_)) ?_
  . refine aU (kR (by decide) (by decide)) (aI ?_);unfold dv;rw[bA (uW.1 λe=>h0 (hsg.2 e))]
  . unfold dv;rw[aQ (hsg.1 (uW.1 h0))]
  refine aU (kR (by decide) (by decide)) ?_;refine aU (a:=many g (u::r)) (bB (λh0=>aI ?_) (λh0=>?_)) ?_
  . rw[cS]at h0;unfold many;rw[jg (by omega)];rfl
  . rw[cS]at h0;refine aJ (a:=u.to) rfl (aU (lg (a:=u.n) (b:=1) (by have:=hu0.2.2.1;omega) (bV kE (by decide))) (bB (λh1=>aI ?_) (λh1=>aU (lg (by omega) (bV kE (by decide))) (aI ?_))))
    . have:u.n≠1:=by rintro e;rw[e]at h1;exact h1 (by decide)
      unfold many;simp[this]
    . have:u.n=1:=by unfold bZ at h1;(repeat' split at h1)<;>omega
      have e2:bZ (dv g) 1≠0↔dv g≠1:=by unfold bZ;(repeat' split)<;>omega
      unfold many;have hr:¬1<(u::r).length:=by omega
      have h3:(((u::r).headD ⟨0,0⟩).n≠1)=False:=by simp[this]
      rw[sS hr];simp[this,e2]
  have hmk : ∀ c : Bool, many g (u :: r) = c -> Tm (λN => ((if c = true then
            (cY 56 s.to.aV [(Step.mk ((u::r).map AU.to) (B (dv g)))]).bind λx37=>
            (sx N (aS.mk s.to.n s.to.aA x37 s.to.u s.to.aM s.to.value s.to.aB s.to.aK) ((u::r).map AU.to) (B (dv g))).bind λr38=>
            (cY 56 s.to.aA [r38]).bind λx39=>
            some (x39,x37,[(eF.mk (iw ((List.length x39:Int)-1)) (B 1))])
          else
            some (s.to.aA,s.to.aV,(u::r).map AU.to))):Nat->Option ((List bI)×(List Step)×(List eF)))
      (λt=>t.1=(dst s g (u::r)).to.aA/\t.2.1=(dst s g (u::r)).to.aV/\∃x,idx t.2.2 0=some x/\x.Index=((jz s g (u::r):Nat):Int)):=by
    intro c hc;cases c with
    |true=>
      refine cR rfl ?_;refine aJ (eb (by show((s.aV.map AS.to).length+_)*_<=_;simp only[cS,cN,dY];omega) (by decide)) ?_;have e:(aS.mk s.to.n s.to.aA (s.to.aV++[Step.mk ((u::r).map AU.to) (B (dv g))]) s.to.u s.to.aM s.to.value s.to.aB s.to.aK)=St.to {s with aV:=s.aV++[⟨u::r,dv g⟩]}:=by
        unfold St.to;simp[AS.to]
      rw[e];refine aU (a:=(nX s.n s.aA (u::r) (dv g)).to) (tmSum (s:={s with aV:=s.aV++[⟨u::r,dv g⟩]}) (K:=K') (by omega) hn h.u (by omega) (qC g) (by omega)) ?_;refine aJ (eb (by show((s.aA.map AQ.to).length+_)*_<=_;simp only[cS,cN,dY];omega) (by decide)) (aI ?_);unfold dst jz;rw[hc];refine⟨by simp[St.to],by simp[St.to,AS.to],_,rfl,?_⟩;dsimp only;rw[bU]<;>simp[St.to]<;>omega
    |false=>
      refine cE (by simp) (aI ?_);unfold dst jz;rw[hc];exact⟨rfl,rfl,u.to,rfl,rfl⟩
  refine Tm.bind (hmk _ rfl) ?_;rintro⟨kn,st,us'⟩ ⟨h1,h2,x,hx,hxi⟩;dsimp only at h1 h2 hx;subst h1;subst h2;refine aJ hx ?_;refine aJ (iu (n:=s.n) rfl (by omega) (by decide)) ?_;rw[<-nh];refine aU (a:=mB (vec s.n λj=>vf g j/dv g)) ?_ ?_
  . refine(Tm.rO (n:=s.n) (by omega) (λj=>vf g j/dv g) (by simp) (fin:=id) ?_ ?_)
    . intro j hj c hc hi;dsimp only[yD];refine cR (by rw[dF];omega) (aJ (dX (by omega)) (Tm.bind (rY (by have:=h.g _ (gP (l:=g) (j:=j) (by omega));omega) (by omega)) ?_));intro r' hr';refine aJ hi (aJ (eH rfl (by omega)) (aI ?_));rw[hr',j4 _ (eK (qC g))]
    . intro c hc;dsimp only[yD];exact cE (by rw[dF];omega) (aI rfl)
  have hS:aS.mk s.to.n (dst s g (u::r)).to.aA (dst s g (u::r)).to.aV s.to.u s.to.aM s.to.value s.to.aB s.to.aK=(dst s g (u::r)).to:=by
    unfold dst;split<;>rfl
  have hI:(bD.mk x.Index (mB (vec s.n λj=>vf g j/dv g)))=(kC s g (u::r)).to:=by rw[hxi];rfl
  dsimp only;rw[hS,hI];have hps:=BL h;have hbd:dl (aG (dst s g (u::r)).aA (jz s g (u::r))).b<=K+6:=by
    have hm:=eW hps;unfold dst at hm⊢;split at hm
    . rcases gH.1 hm with h3|h3
      . rename_i hm';rw[bA hm'];exact bV (hs.k _ h3).1.2 (by omega)
      . rename_i hm';rw[bA hm'];rw[df.1 h3];exact bV (Ib h).1.2 (by omega)
    . rename_i hm';rw[aQ hm'];exact bV (hs.k _ hm).1.2 (by omega)
  refine bB (λh0=>aI ?_) (λh0=>?_)
  . have h0':=hsg.1 h0;unfold ot;rw[jg h0,jg h0'];rfl
  . have h0':¬di g≠0:=λe=>h0 (hsg.2 e);refine aU (uf (s:=dst s g (u::r)) (x:=kC s g (u::r)) hps) (aU (j2 (by show dl (aG _ (jz s g (u::r))).b<=_;omega)) (aI ?_));unfold ot;rw[sS h0,sS h0',Bool.false_or];congr 3;apply decide_eq_decide.2;show bZ (aG _ (jz s g (u::r))).b 0≥0↔_;unfold bZ;(repeat' split)<;>omega
open Go Go.X
theorem RG{a b:List Int}(hl:a.length<=1000)(hab:a.length=b.length)(ha:∀v∈a,dl v<=cM)(hb:∀v∈b,dl v<=cM):Tm (λN=>zT N (mB a) (mB b) (λy0 y1=>rb N y0 y1)) (·=decide (a=b)):=by
 unfold zT;refine cE (by rw[dF,dF];omega) ?_;refine Tm.bind (Tm.each (body:=λN=>xL N (λy0 y1=>rb N y0 y1) (mB b) (mB a)) ((List.range a.length)) (λj=>vf a j=vf b j) (Q:=λr=>(r=.inr false/\a≠b)\/(r=.inl ()/\∀j∈List.range a.length,vf a j=vf b j)) (by simp;omega) ?_ ?_) ?_
 . intro k hk _;have hk:k<a.length:=by simpa using hk
   dsimp only[xL];refine cR (by rw[dF];omega) (aJ (dX hk) (aJ (dX (by omega)) ?_));unfold rb;refine aU (a:=decide (vf a k=vf b k)) (aU (lg (ha _ (gP hk)) (hb _ (gP (by omega)))) (aI ?_)) (bB (λh=>aI (.inr ⟨_,rfl,.inl ⟨rfl,λe=>?_⟩⟩)) (λh=>aI (.inl ⟨rfl,?_⟩)))
   . apply decide_eq_decide.2;unfold bZ;(repeat' split)<;>omega
   . subst e;simp at h
   . simpa using h
 . intro h;dsimp only[xL];rw[List.length_range];exact cE (by rw[dF];omega) (aI ⟨_,rfl,.inr ⟨rfl,h⟩⟩)
 . rintro _ (⟨rfl,h⟩|⟨rfl,h⟩)
   . exact aI (by simp[h])
   . exact aI (by simp;exact kg hab λj hj=>h j (qR.2 hj))
theorem HC{kn:List AQ}{x:AI}:∀{a r:List AI},(∀y∈a,x.g≠y.g)->eG kn x (a++r)=a++eG kn x r
 |[],_,_=>rfl
 |y::a,r,h=>by
  show eG kn x (y::(a++r))=y::(a++eG kn x r);rw[eG,aQ (h y cU),HC λz hz=>h z (cP _ hz)]
def qn(s:St)(x:AI):Prop:=x.pos<s.aA.length/\x.g.length=s.n/\∀v∈x.g,dl v<=8
theorem w7{K:Nat}{s:St}{x:AI}(hs:ig K s)(hx:qn s x):Tm (λN=>mz N s.to x.to) (·=(add s x).to):=by
 have hL:cM=1099511627776:=rfl;have hK:=hs.K;have hil:=hs.il;unfold mz;have hmap:(s.aB.map AI.to).length=s.aB.length:=cS ..;refine Tm.bind (Q:=λr=>(r=.inl ()/\(∀y∈s.aB,x.g≠y.g))\/r=.inr (add s x).to) (eE s.aB.length (λk t=>t=(k:Int)/\∀y∈s.aB.take k,x.g≠y.g) ⟨rfl,by simp⟩ ?_) ?_
 . rintro k hk t ⟨rfl,hp⟩;dsimp only[AX];refine bB (λhlt=>?_) (λhge=>aI ?_)
   . have hlt:k<s.aB.length:=by rw[show s.to.aB.length=s.aB.length from hmap]at hlt;omega
     obtain⟨y1,y2,y3⟩:=hs.i _ (dC hlt);refine aJ (a:=(s.aB[k]).to) (by show idx (s.aB.map AI.to) _=_;rw[dt (by rw[hmap];exact hlt),k6]) ?_;generalize hy:s.aB[k]=y at*;refine aU (RG (a:=x.g) (b:=y.g) (by have:=hx.2.1;have:=hs.n;omega) (hx.2.1.trans y2.symm) (λv hv=>bV (hx.2.2 v hv) (by decide)) (λv hv=>bV (y3 v hv) (by decide))) ?_;refine bB (λhe=>?_) (λhe=>aI ⟨hlt,dV (by omega),λz hz=>?_⟩)
     . have he:x.g=y.g:=by simpa using he
       have hsplit:s.aB=s.aB.take k++y::s.aB.drop (k+1):=by
        rw[<-hy,<-gn hlt,oC]
       have hadd:eG s.aA x s.aB=if(aG s.aA x.pos).b<(aG s.aA y.pos).b then s.aB.set k x else s.aB:=by
        conv=>lhs;rw[hsplit]
        rw[HC hp,eG,bA he];split
        . rw[XQ,bA hlt]
        . exact hsplit.symm
       refine aU (uf hx.1) (aU (uf y1) (aU (lg (bV (hs.k _ (eW hx.1)).1.2 (by omega)) (bV (hs.k _ (eW y1)).1.2 (by omega))) ?_));refine bB (λh1=>?_) (λh1=>aI ?_)
       . have h1:(aG s.aA x.pos).b<(aG s.aA y.pos).b:=by unfold bZ at h1;(repeat' split at h1)<;>omega
         refine aJ (a:=y.to) (by show idx (s.aB.map AI.to) _=_;rw[dt (by rw[hmap];exact hlt),k6,hy]) ?_;refine aJ (eH rfl (by show _<(s.aB.map AI.to).length;rw[hmap];exact hlt)) (aI (.inr ?_));unfold add;rw[hadd,bA h1];unfold St.to;dsimp only;rw[D0]
       . have h1:¬(aG s.aA x.pos).b<(aG s.aA y.pos).b:=by unfold bZ at h1;(repeat' split at h1)<;>omega
         refine .inr ?_;unfold add;rw[hadd,aQ h1]
     . rw[<-jD hlt,hy]at hz;rcases gH.1 hz with hz|hz
       . exact hp z hz
       . rw[df.1 hz];intro e;exact he (by simp[e])
   . rw[show s.to.aB.length=s.aB.length from hmap]at hge;refine .inl ⟨rfl,λy hy=>hp y ?_⟩;rwa[fx (by omega)]
 . rintro r (⟨rfl,h⟩|rfl)
   . refine aJ (eb (by show((s.aB.map AI.to).length+_)*_<=_;rw[hmap];simp only[cN,dY];omega) (by decide)) (aI ?_);have:eG s.aA x s.aB=s.aB++[x]:=by
      have:=HC (kn:=s.aA) (x:=x) (a:=s.aB) (r:=[]) h;rw[lH]at this;rw[this];rfl
     unfold add;rw[this];unfold St.to;simp
   . exact aI rfl
def j3(m:Nat)(s:St):Prop:=s.aA.length+m<=1073741824/\s.aV.length+m<=1073741824/\s.aB.length+m<=1073741824
theorem wF{kn:List AQ}{x:AI}:∀{l:List AI},l.length<=(eG kn x l).length/\(eG kn x l).length<=l.length+1
 |[]=>by simp[eG]
 |y::l=>by
  have:=wF (kn:=kn) (x:=x) (l:=l);rw[eG];split
  . split<;>simp
  . simp;omega
theorem mb{kn:List AQ}{x z:AI}:∀{l:List AI},z∈eG kn x l->z=x\/z∈l
 |[],h=>by simp[eG]at h;exact .inl h
 |y::l,h=>by
  rw[eG]at h;split at h
  . split at h
    . rcases eJ.1 h with h|h
      . exact .inl h
      . exact .inr (cP _ h)
    . exact .inr h
  . rcases eJ.1 h with h|h
    . exact .inr (h▸cU)
    . rcases mb h with h|h
      . exact .inl h
      . exact .inr (cP _ h)
theorem NU{K m:Nat}{s:St}{x:AI}(hs:ig K s)(hx:qn s x)(hr:j3 (m+1) s):ig K (add s x)/\j3 m (add s x):=by
 have h1:=wF (kn:=s.aA) (x:=x) (l:=s.aB);obtain⟨r1,r2,r3⟩:=hr;refine⟨⟨hs.n,hs.kl,hs.sl,?_,hs.k,λz hz=>?_,hs.K⟩,?_,?_,?_⟩
 . show(eG s.aA x s.aB).length<=_;omega
 . rcases mb hz with rfl|hz
   . exact hx
   . exact hs.i z hz
 . show s.aA.length+m<=_;omega
 . show s.aV.length+m<=_;omega
 . show(eG s.aA x s.aB).length+m<=_;omega
theorem Ny{K K' m:Nat}{s:St}{g:List Int}{us:List AU}(hs:ig K s)(h:gX K' s g us)(hk:K'+6<=K)(hr:j3 (m+1) s):ig K (dst s g us)/\j3 m (dst s g us)/\(dst s g us).aB.length+m+1<=1073741824:=by
 obtain⟨r1,r2,r3⟩:=hr;unfold dst;split
 . refine⟨⟨hs.n,by simp;omega,by simp;omega,hs.il,λq hq=>?_,λz hz=>?_,hs.K⟩,⟨by simp;omega,by simp;omega,by show s.aB.length+m<=_;omega⟩,by show s.aB.length+m+1<=_;omega⟩
   . rcases gH.1 hq with hq|hq
     . exact hs.k q hq
     . rw[df.1 hq];exact⟨(Ib h).1.mono hk,(Ib h).2⟩
   . obtain⟨z1,z2⟩:=hs.i z hz;exact⟨by simp;omega,z2⟩
 . exact⟨hs,⟨by omega,by omega,by omega⟩,by omega⟩
theorem O8{K':Nat}{s:St}{g:List Int}{us:List AU}(h:gX K' s g us):qn (dst s g us) (kC s g us):=
 ⟨BL h,by rw[H8];exact dN,QS (eK (qC g)) h.g⟩
theorem LD{K K' m:Nat}{s:St}{g:List Int}{us:List AU}(hs:ig K s)(h:gX K' s g us)(hk:K'+6<=K)(hr:j3 (m+1) s):ig K (put s g us).2/\j3 m (put s g us).2:=by
 obtain⟨h1,h2,h3⟩:=Ny hs h hk hr;unfold put;dsimp only;split
 . have:=wF (kn:=(dst s g us).aA) (x:=kC s g us) (l:=(dst s g us).aB);refine⟨⟨h1.n,h1.kl,h1.sl,?_,h1.k,λz hz=>?_,h1.K⟩,h2.1,h2.2.1,?_⟩
   . show(eG _ _ _).length<=_;omega
   . rcases mb hz with rfl|hz
     . exact O8 h
     . exact h1.i z hz
   . show(eG _ _ _).length+m<=_;omega
 . exact⟨h1,h2⟩
theorem K8{K K':Nat}{s:St}{g:List Int}{us:List AU}(hs:ig K s)(h:gX K' s g us)(hk:K'+6<=K)(hr:j3 1 s):Tm (λN=>nP N s.to (mB g) (us.map AU.to)) (·=((put s g us).1,(put s g us).2.to)):=by
 obtain⟨h1,h2,h3⟩:=Ny (m:=0) hs h hk hr;unfold nP;refine aU (Tp hs h (by omega)) ?_;dsimp only;have hn:s.to.n=(dst s g us).to.n:=by show(s.n:Int)=(dst s g us).n;rw[H8]
 have e1:∀x:aS,s.to.n=x.n->aS.mk s.to.n x.aA x.aV x.u x.aM x.value x.aB x.aK=x:=λx hx=>iO hx;refine Tm.bind (Q:=λt=>aS.mk s.to.n t.1 t.2.1 t.2.2.1 t.2.2.2.1 t.2.2.2.2.1 t.2.2.2.2.2.1 t.2.2.2.2.2.2=(put s g us).2.to) (bB (λh0=>?_) (λh0=>aI ?_)) ?_
 . rw[e1 _ hn];refine aU (w7 h1 (O8 h)) (aI ?_);dsimp only;rw[e1 (D.add (dst s g us) (kC s g us)).to hn];unfold put;dsimp only;rw[bA (by simpa using h0)]
 . dsimp only;rw[e1 _ hn];unfold put;dsimp only;rw[aQ (by simpa using h0)]
 . rintro⟨a,b,c,d,e,f,g'⟩ ht;refine aI ?_;dsimp only at ht⊢;rw[ht];rfl
inductive Act where
 |add (x:AI)
 |put (g:List Int) (us:List AU)
def ct:St->List Act->Bool×St
 |s,[]=>(true,s)
 |s,.add x::r=>ct (add s x) r
 |s,.put g us::r=>if(put s g us).1=true then ct (put s g us).2 r else(false,(put s g us).2)
def mr(K:Nat)(s:St):Act->Prop
 |.add x=>qn s x
 |.put g us=>gX K s g us
theorem np.app{n K:Nat}{kn e:List AQ}{u:AU}(h:np n K kn u):np n K (kn++e) u:=by
 obtain⟨h1,h2,h3,h4,h5⟩:=h;exact⟨by simp;omega,h2,h3,by rw[iz h1];exact h4,by rw[iz h1];exact h5⟩
theorem mr.app{K:Nat}{s s':St}{a:Act}(h:mr K s a)(hn:s'.n=s.n){e:List AQ}(he:s'.aA=s.aA++e):mr K s' a:=by
 cases a with
 |add x=>exact⟨by rw[he];have:=h.1;simp;omega,by rw[hn];exact h.2.1,h.2.2⟩
 |put g us=>exact⟨by rw[hn];exact h.gl,h.g,h.ul,h.u0,λu hu=>by rw[hn,he];exact(h.u u hu).app⟩
theorem BZ(s:St)(g:List Int)(us:List AU):∃e,(put s g us).2.aA=s.aA++e/\e.length<=1:=by
 unfold put;dsimp only;split<;>exact Gi s g us
theorem AF(s:St)(g:List Int)(us:List AU):(put s g us).2.n=s.n:=by
 unfold put;dsimp only;split<;>exact H8 s g us
structure jq (K:Nat)(s0:St)(L:List Act)(k:Nat)(s:St):Prop where
 run:ct s0 L=ct s (L.drop k)
 ok:ig K s
 room:j3 (L.length-k) s
 pre:∃e,s.aA=s0.aA++e
 n:s.n=s0.n
theorem jq.first{K:Nat}{s0:St}{L:List Act}(h:ig K s0)(hr:j3 L.length s0):jq K s0 L 0 s0:=⟨rfl,h,hr,⟨[],by simp⟩,rfl⟩
theorem jq.add{K K0:Nat}{s0 s:St}{L:List Act}{k:Nat}{x:AI}(h:jq K s0 L k s)(hk:k<L.length)(hL:L[k]=.add x)(hx:mr K0 s0 (.add x)):qn s x/\jq K s0 L (k+1) (add s x):=by
 obtain⟨e,he⟩:=h.pre;have hx':qn s x:=hx.app h.n he;obtain⟨m,hm⟩:∃m,L.length-k=m+1:=⟨L.length-k-1,by omega⟩;have h1:=NU (m:=m) h.ok hx' (by rw[<-hm];exact h.room);refine⟨hx',?_,h1.1,by rw[show L.length-(k+1)=m by omega];exact h1.2,⟨e,he⟩,h.n⟩;rw[h.run,gn hk,hL];rfl
theorem jq.put{K K0:Nat}{s0 s:St}{L:List Act}{k:Nat}{g:List Int}{us:List AU}(h:jq K s0 L k s)(hk:k<L.length)(hL:L[k]=.put g us)(hx:mr K0 s0 (.put g us))(hK:K0+6<=K):
 Tm (λN=>nP N s.to (mB g) (us.map AU.to)) (·=((put s g us).1,(put s g us).2.to))/\((put s g us).1=true->jq K s0 L (k+1) (put s g us).2)/\((put s g us).1=false->ct s0 L=(false,(put s g us).2))/\(put s g us).2.n=s0.n:=by
 obtain⟨e,he⟩:=h.pre;have hx':gX K0 s g us:=hx.app h.n he;obtain⟨m,hm⟩:∃m,L.length-k=m+1:=⟨L.length-k-1,by omega⟩;have hr:j3 (m+1) s:=by rw[<-hm];exact h.room
 have hr1:j3 1 s:=⟨by have:=hr.1;omega,by have:=hr.2.1;omega,by have:=hr.2.2;omega⟩;have h1:=LD (m:=m) h.ok hx' hK hr;obtain⟨e',he',_⟩:=BZ s g us;have hrun:ct s0 L=if(D.put s g us).1=true then ct (D.put s g us).2 (L.drop (k+1))else(false,(D.put s g us).2):=by
  rw[h.run,gn hk,hL];rfl
 refine⟨K8 h.ok hx' hK hr1,λht=>⟨?_,h1.1,by rw[show L.length-(k+1)=m by omega];exact h1.2,⟨e++e',by rw[he',he,jS]⟩,(AF s g us).trans h.n⟩,λhf=>?_,(AF s g us).trans h.n⟩
 . rw[hrun,bA ht]
 . rw[hrun,aQ (by rw[hf];simp)]
theorem jq.last{K:Nat}{s0 s:St}{L:List Act}(h:jq K s0 L L.length s):ct s0 L=(true,s):=by
 rw[h.run,D5];rfl
abbrev Pt:=(List bI)×(List Step)×(List (List aC))×(List Int)×(List aC)×(List bD)×(List dW)
def gV(s:St):Pt:=(s.to.aA,s.to.aV,s.to.u,s.to.aM,s.to.value,s.to.aB,s.to.aK)
def fV(s:St):List Act:=(List.range s.aA.length).map λi=>.put (aG s.aA i).c [⟨i,1⟩]
theorem OV{K K0:Nat}{s:St}(hs:ig K s)(hr:j3 s.aA.length s)(hK:K0+6<=K)(h:∀q∈s.aA,gu K0 q/\∀v∈q.c,dl v<=8):Tm (λN=>rv N s.to) (·=((ct s (fV s)).1,(ct s (fV s)).2.to)):=by
 have hl:(fV s).length=s.aA.length:=by simp[fV]
 have hmap:s.to.aA.length=s.aA.length:=cS ..;have hkl:=hs.kl;unfold rv;refine Tm.bind (Q:=λr=>(∃s',r=.inl (gV s')/\ct s (fV s)=(true,s')/\s'.n=s.n)\/(r=.inr ((ct s (fV s)).1,(ct s (fV s)).2.to))) (eE s.aA.length (λk t=>∃s',jq K s (fV s) k s'/\t=(s'.to.aA,s'.to.aV,s'.to.u,s'.to.aM,s'.to.value,s'.to.aB,s'.to.aK,(k:Int))) ⟨s,jq.first hs (by rw[hl];exact hr),rfl⟩ ?_) ?_
 . rintro k hk _ ⟨s',hi,rfl⟩;dsimp only[Ig];refine bB (λhlt=>?_) (λhge=>aI (.inl ⟨s',rfl,?_,hi.n⟩))
   . have hlt:k<s.aA.length:=by omega
     obtain⟨e,he⟩:=hi.pre;have hq:=h _ (eW hlt);have hql:=(hs.k _ (eW hlt)).2;refine aJ (a:=(aG s.aA k).to) (by show idx (s'.aA.map AQ.to) _=_;rw[pC (by rw[he];simp;omega),he,iz hlt]) ?_;refine aU (a:=mB (aG s.aA k).c) ?_ ?_
     . unfold pI;refine aJ (eb (by show(_+(mB _).length)*_<=_;rw[dF,hql];have:=hs.n;simp only[dY];omega) (by decide)) (aI rfl)
     have hLk:(fV s)[k]'(by rw[hl];exact hlt)=.put (aG s.aA k).c [⟨k,1⟩]:=by simp[fV]
     have hact:mr K0 s (.put (aG s.aA k).c [⟨k,1⟩]):=⟨hql,hq.2,by simp,by simp,λu hu=>by
      rw[df.1 hu];exact⟨hlt,I4 1,bV kE (by decide),hq.1,hql⟩⟩
     obtain⟨p1,p2,p3,p4⟩:=hi.put (by rw[hl];exact hlt) hLk hact hK;refine aU (kR (by decide) (by decide)) ?_;rw[iO (x:=s'.to) (by show(s.n:Int)=s'.n;rw[hi.n])];refine aU p1 (bB (λhf=>aI ?_) (λht=>aI ⟨hlt,_,p2 (by simpa using ht),?_⟩))
     . dsimp only;rw[iO (by show(s.n:Int)=_;rw[show(D.put s' (aG s.aA k).c [⟨k,1⟩]).2.to.n=((D.put s' (aG s.aA k).c [⟨k,1⟩]).2.n:Int) from rfl,p4])];rw[p3 (by simpa using hf)];exact .inr rfl
     . dsimp only;rw[dV (by omega)]
   . have:k=s.aA.length:=by omega
     subst this;exact jq.last (by rw[hl];exact hi)
 . rintro r (⟨s',rfl,h1,h2⟩|rfl)
   . refine aI ?_;show(true,aS.mk s.to.n s'.to.aA s'.to.aV s'.to.u s'.to.aM s'.to.value s'.to.aB s'.to.aK)=_;rw[iO (x:=s'.to) (by show(s.n:Int)=s'.n;rw[h2]),h1]
   . exact aI rfl
open Go Go.X
def kK(n K:Nat)(l:List Int):Prop:=l.length=n/\∀v∈l,dl v<=K
theorem kK.vf{n K:Nat}{l:List Int}(h:kK n K l)(j:Nat):dl (vf l j)<=K:=by
 rcases cG j l.length with hj|hj
 . exact h.2 _ (gP hj)
 . rw[jA hj,fw];omega
structure SU (K:Nat)(s:St):Prop where
 u:s.u.length=s.n/\∀r∈s.u,kK s.n K r
 st:s.aM.length=s.n
 v:kK s.n K s.value
def mN(j p:Nat)(q:Int)(l:List Int):List Int:=l.set j (vf l j-q*vf l p)
def l7(s:St)(j p:Nat)(q:Int):St:={s with u:=s.u.map (mN j p q),aB:=s.aB.map λx=>{x with g:=mN j p q x.g}}
theorem Bu{l:List Int}(h:l.length<=1000):Tm (λN=>pI N (mB l)) (·=mB l):=by
 unfold pI;exact aJ (eb (by rw[dF];simp only[dY];omega) (by decide)) (aI rfl)
theorem Mh{n K:Nat}{l:List Int}{j p:Nat}{q:Int}(hn:n<=512)(hl:kK n K l)(hj:j<n)(hp:p<n)(hK:K+dl q<=cM):Tm (λN=>mU N (mB l) (j:Int) (B q) (p:Int)) (·=mB (mN j p q l)):=by
 have hll:=hl.1;have h1:=hl.vf j;have h2:=hl.vf p;have h3:=jO q (vf l p);unfold mU;refine aU (Bu (by omega)) (aJ (dX (by omega)) (aJ (dX (by omega)) (aU (pe (by omega) (by omega)) (aU (nq (by omega) (by omega)) (aJ (dX (by omega)) (aJ (eH rfl (by rw[dF];omega)) (aI ?_)))))));rw[tK];rfl
theorem Po{n K:Nat}{l:List Int}{p:Nat}(hn:n<=512)(hl:kK n K l)(hp:p<n)(hK:K<=cM):Tm (λN=>nz N (mB l) (p:Int)) (·=mB (l.set p (-vf l p))):=by
 have hll:=hl.1;have h1:=hl.vf p;unfold nz;refine aU (Bu (by omega)) (aJ (dX (by omega)) (aU (oR (by omega)) (aJ (dX (by omega)) (aJ (eH rfl (by rw[dF];omega)) (aI ?_)))));rw[tK]
theorem ze{α β:Type}{l:List α}{f:α->β}{d:α}:(List.range l.length).map (λk=>f (l.getD k d))=l.map f:=by
 apply oD (by simp);intro i h1 h2;simp at h2;simp[cL,cy h2]
theorem S8{K:Nat}{s:St}{j p:Nat}{q:Int}(hu:SU K s)(hn:s.n<=512)(hil:s.aB.length<=1073741824)(hi:∀x∈s.aB,kK s.n K x.g)(hj:j<s.n)(hp:p<s.n)(hK:K+dl q<=cM):
 Tm (λN=>zu N s.to (j:Int) (p:Int) (B q)) (·=(l7 s j p q).to):=by
 unfold zu;have hmu:s.to.u.length=s.u.length:=cS ..;have hmi:s.to.aB.length=s.aB.length:=cS ..;have hul:=hu.u.1;refine aU (a:=s.u.map λr=>mB (mN j p q r)) ?_ ?_
 . refine(Tm.fill (n:=s.u.length) (by omega) (c0:=s.to.u) (λk=>mB (mN j p q (s.u.getD k []))) hmu (fin:=id) ?_ ?_).mono ?_
   . intro k hk c hc hi';have e0:s.to.u[k]?=some (mB s.u[k]):=by show(s.u.map mB)[k]?=_;rw[iA,cy hk];rfl
     rw[e0]at hi';dsimp only[B4];refine cR (by rw[hmu];omega) (aJ (k9 hi') (aU (Mh hn (hu.u.2 _ (dC hk)) hj hp hK) (aJ (k9 hi') (aJ (eH rfl (by omega)) (aI ?_)))));rw[cL,cy hk];rfl
   . intro c hc;dsimp only[B4];exact cE (by rw[hmu];omega) (aI rfl)
   . intro r hr;rw[hr,id,ze (f:=λr=>mB (mN j p q r))]
 . refine aU (a:=s.aB.map λx=>({x with g:=mN j p q x.g}:AI).to) ?_ ?_
   . refine(Tm.fill (n:=s.aB.length) (by omega) (c0:=s.to.aB) (λk=>({s.aB.getD k ⟨0,[]⟩with g:=mN j p q (s.aB.getD k ⟨0,[]⟩).g}:AI).to) hmi (fin:=id) ?_ ?_).mono ?_
     . intro k hk c hc hi';have e0:s.to.aB[k]?=some (s.aB[k]).to:=by show(s.aB.map AI.to)[k]?=_;rw[iA,cy hk];rfl
       rw[e0]at hi';dsimp only[BH];refine cR (by rw[hmi];omega) (aJ (k9 hi') (aU (Mh hn (hi _ (dC hk)) hj hp hK) (aJ (k9 hi') (aJ (eH rfl (by omega)) (aI ?_)))));rw[cL,cy hk];rfl
     . intro c hc;dsimp only[BH];exact cE (by rw[hmi];omega) (aI rfl)
     . intro r hr;rw[hr,id,ze (f:=λx:AI=>({x with g:=mN j p q x.g}:AI).to)]
   . refine aI ?_;unfold l7 St.to;dsimp only;rw[nF,nF];rfl
def flS(s:St)(p:Nat):St:={s with u:=s.u.map (λl=>l.set p (-vf l p)),aB:=s.aB.map λx=>{x with g:=x.g.set p (-vf x.g p)}}
theorem Uq{K:Nat}{s:St}{p:Nat}(hu:SU K s)(hn:s.n<=512)(hil:s.aB.length<=1073741824)(hi:∀x∈s.aB,kK s.n K x.g)(hp:p<s.n)(hK:K<=cM):
 Tm (λN=>xU N s.to (p:Int)) (·=(flS s p).to):=by
 unfold xU;have hmu:s.to.u.length=s.u.length:=cS ..;have hmi:s.to.aB.length=s.aB.length:=cS ..;have hul:=hu.u.1;refine aU (a:=s.u.map λr=>mB (r.set p (-vf r p))) ?_ ?_
 . refine(Tm.fill (n:=s.u.length) (by omega) (c0:=s.to.u) (λk=>mB ((s.u.getD k []).set p (-vf (s.u.getD k []) p))) hmu (fin:=id) ?_ ?_).mono ?_
   . intro k hk c hc hi';have e0:s.to.u[k]?=some (mB s.u[k]):=by show(s.u.map mB)[k]?=_;rw[iA,cy hk];rfl
     rw[e0]at hi';dsimp only[C8];refine cR (by rw[hmu];omega) (aJ (k9 hi') (aU (Po hn (hu.u.2 _ (dC hk)) hp hK) (aJ (k9 hi') (aJ (eH rfl (by omega)) (aI ?_)))));rw[cL,cy hk];rfl
   . intro c hc;dsimp only[C8];exact cE (by rw[hmu];omega) (aI rfl)
   . intro r hr;rw[hr,id,ze (f:=λr:List Int=>mB (r.set p (-vf r p)))]
 . refine aU (a:=s.aB.map λx=>({x with g:=x.g.set p (-vf x.g p)}:AI).to) ?_ ?_
   . refine(Tm.fill (n:=s.aB.length) (by omega) (c0:=s.to.aB) (λk=>({s.aB.getD k ⟨0,[]⟩with g:=(s.aB.getD k ⟨0,[]⟩).g.set p (-vf (s.aB.getD k ⟨0,[]⟩).g p)}:AI).to) hmi (fin:=id) ?_ ?_).mono ?_
     . intro k hk c hc hi';have e0:s.to.aB[k]?=some (s.aB[k]).to:=by show(s.aB.map AI.to)[k]?=_;rw[iA,cy hk];rfl
       rw[e0]at hi';dsimp only[Cy];refine cR (by rw[hmi];omega) (aJ (k9 hi') (aU (Po hn (hi _ (dC hk)) hp hK) (aJ (k9 hi') (aJ (eH rfl (by omega)) (aI ?_)))));rw[cL,cy hk];rfl
     . intro c hc;dsimp only[Cy];exact cE (by rw[hmi];omega) (aI rfl)
     . intro r hr;rw[hr,id,ze (f:=λx:AI=>({x with g:=x.g.set p (-vf x.g p)}:AI).to)]
   . refine aI ?_;unfold flS St.to;dsimp only;rw[nF,nF];rfl
def rS(a:List Int)(p:Nat):Prop:=p<a.length/\vf a p≠0/\∀j,j<a.length->vf a j≠0->(vf a p).natAbs<=(vf a j).natAbs
theorem absB(v:Int):aC.mk false (B v).aR=B (v.natAbs:Int):=by
 show aC.mk false (rB v.natAbs)=aC.mk (decide ((v.natAbs:Int)<0)) (rB ((v.natAbs:Int)).natAbs);rw[P8,sS (by omega)]
theorem NO(v:Int):dl (v.natAbs:Int)=dl v:=Nat.le_antisymm (sY (by omega)) (sY (by omega))
theorem qj{a:Int}:bZ a 0≠0↔a≠0:=by unfold bZ;(repeat' split)<;>omega
theorem pv{a b:Int}:bZ a b<0↔a<b:=by unfold bZ;(repeat' split)<;>omega
theorem SM{x:AI}(hl:x.g.length<=1000)(hd:∀v∈x.g,dl v<=cM)(h0:∃j,j<x.g.length/\vf x.g j≠0):Tm (λN=>bO (Cb N x.to) N ((-1),0)) (λr=>∃p:Nat,r=(p:Int)/\rS x.g p):=by
 have hxl:x.to.g.length=x.g.length:=dF _;refine eE x.g.length (λk t=>t.2=(k:Int)/\((t.1=-1/\∀j,j<k->vf x.g j=0)\/∃p:Nat,t.1=(p:Int)/\p<k/\vf x.g p≠0/\∀j,j<k->vf x.g j≠0->(vf x.g p).natAbs<=(vf x.g j).natAbs)) ⟨rfl,.inl ⟨rfl,λj hj=>by omega⟩⟩ ?_;rintro k hk ⟨p,i⟩ ⟨rfl,hp⟩;dsimp only at hp;dsimp only[Cb];refine bB (λhlt=>?_) (λhge=>aI ?_)
 . have hlt:k<x.g.length:=by omega
   have hdk:=hd _ (gP hlt);have hidx:idx x.to.g (k:Int)=some (B (vf x.g k)):=dX hlt;refine Tm.bind (Q:=λr:Int=>(r=(k:Int)/\vf x.g k≠0/\∀j,j<k->vf x.g j≠0->(vf x.g k).natAbs<=(vf x.g j).natAbs)\/(r=p/\(vf x.g k=0\/∃p':Nat,p=(p':Int)/\(vf x.g p').natAbs<=(vf x.g k).natAbs))) ?_ ?_
   . refine Tm.bind (Q:=λc=>(c=true/\vf x.g k≠0/\∀j,j<k->vf x.g j≠0->(vf x.g k).natAbs<=(vf x.g j).natAbs)\/(c=false/\(vf x.g k=0\/∃p':Nat,p=(p':Int)/\(vf x.g p').natAbs<=(vf x.g k).natAbs))) ?_ ?_
     . refine aJ hidx (aU (j2 hdk) (bB (λh1=>?_) (λh1=>aI (.inr ⟨rfl,.inl ?_⟩))))
       . have h1:=qj.1 h1;rcases hp with⟨rfl,hz⟩|⟨p',rfl,hpk,hp0,hpm⟩
         . exact cR (by decide) (aI (.inl ⟨rfl,h1,λj hj hj0=>bX (hz j hj) hj0⟩))
         . refine cE (by omega) ?_;refine aJ hidx (aJ (a:=B (vf x.g k).natAbs) (dd some (absB _)) ?_);refine aJ (dX (l:=x.g) (k:=p') (by omega)) (aJ (a:=B (vf x.g p').natAbs) (dd some (absB _)) ?_);refine aU (lg (by rw[NO];exact hdk) (by rw[NO];exact hd _ (gP (by omega)))) (aI ?_);by_cases hc:(vf x.g k).natAbs<(vf x.g p').natAbs
           . exact .inl ⟨jg (pv.2 (by omega)),h1,λj hj hj0=>by have:=hpm j hj hj0;omega⟩
           . exact .inr ⟨sS (λe=>hc (by have:=pv.1 e;omega)),.inr ⟨p',rfl,by omega⟩⟩
       . exact je λe=>h1 (qj.2 e)
     . rintro c (⟨rfl,h1⟩|⟨rfl,h1⟩)
       . exact cR rfl (aI (.inl ⟨rfl,h1⟩))
       . exact cE (by simp) (aI (.inr ⟨rfl,h1⟩))
   . rintro r hr;refine aI ⟨hlt,dV (by omega),?_⟩;dsimp only;rcases hr with⟨rfl,h1,h2⟩|⟨rfl,h1⟩
     . refine .inr ⟨k,rfl,by omega,h1,λj hj hj0=>?_⟩;rcases cG j k with h3|h3
       . exact h2 j h3 hj0
       . obtain rfl:j=k:=by omega
         exact bQ _
     . rcases hp with⟨e,hz⟩|⟨p',e,hpk,hp0,hpm⟩
       . rcases h1 with h1|⟨p',e',_⟩
         . refine .inl ⟨e,λj hj=>?_⟩;rcases cG j k with h3|h3
           . exact hz j h3
           . obtain rfl:j=k:=by omega
             exact h1
         . omega
       . refine .inr ⟨p',e,by omega,hp0,λj hj hj0=>?_⟩;rcases cG j k with h3|h3
         . exact hpm j h3 hj0
         . obtain rfl:j=k:=by omega
           rcases h1 with h1|⟨p'',e',h4⟩
           . exact bX h1 hj0
           . obtain rfl:p''=p':=by omega
             exact h4
 . have:k=x.g.length:=by omega
   subst this;rcases hp with⟨rfl,hz⟩|⟨p',rfl,hpk,hp0,hpm⟩
   . obtain⟨j,hj,hj0⟩:=h0;exact bX (hz j hj) hj0
   . exact⟨p',rfl,hpk,hp0,hpm⟩
def cA(a:List Int)(p k:Nat)(l:List Int):List Int:=vec l.length λj=>if j<k/\j≠p then vf l j-(vf a j).fdiv (vf a p)*vf l p else vf l j
def fW(s:St)(a:List Int)(p k:Nat):St:={s with u:=s.u.map (cA a p k),aB:=s.aB.map λx=>{x with g:=cA a p k x.g}}
theorem qb{a:List Int}{p k:Nat}{l:List Int}:(cA a p k l).length=l.length:=dN
theorem XJ{a:List Int}{p:Nat}{l:List Int}:cA a p 0 l=l:=by
 refine kg dN λj hj=>?_;rw[show(cA a p 0 l).length=l.length from dN]at hj;unfold cA;rw[db hj,aQ (by omega)]
theorem OW{a:List Int}{p k:Nat}{l:List Int}(hp:p<l.length)(hk:k<l.length)(hkp:k≠p):mN k p ((vf a k).fdiv (vf a p)) (cA a p k l)=cA a p (k+1) l:=by
 refine kg (by unfold mN;rw[gI];exact dN.trans dN.symm) λj hj=>?_;unfold mN at hj⊢;rw[gI,qb]at hj;have e1:vf (cA a p k l) k=vf l k:=by unfold cA;rw[db hk,aQ (by omega)]
 have e2:vf (cA a p k l) p=vf l p:=by unfold cA;rw[db hp,aQ (by omega)]
 rw[iX (by rw[qb];exact hk),e1,e2];have e3:vf (cA a p (k+1) l) j=if j<k+1/\j≠p then vf l j-(vf a j).fdiv (vf a p)*vf l p else vf l j:=by unfold cA;rw[db hj]
 have e4:vf (cA a p k l) j=if j<k/\j≠p then vf l j-(vf a j).fdiv (vf a p)*vf l p else vf l j:=by unfold cA;rw[db hj]
 rw[e3];by_cases e:k=j
 . subst e;rw[bA rfl,bA ⟨by omega,hkp⟩]
 . rw[aQ e,e4];by_cases h2:j<k/\j≠p
   . rw[bA h2,bA ⟨by omega,h2.2⟩]
   . rw[aQ h2,aQ (by omega)]
theorem U0{a:List Int}{p k:Nat}{l:List Int}(h:k=p\/vf a k=0):cA a p (k+1) l=cA a p k l:=by
 unfold cA;refine sc λj hj=>?_;by_cases e:j=k
 . subst e;have h2:¬(j<j/\j≠p):=by omega
   rcases h with h|h
   . have h1:¬(j<j+1/\j≠p):=by omega
     rw[aQ h1,aQ h2]
   . rw[aQ h2,h];split
     . rw[xw];omega
     . rfl
 . by_cases h2:j<k/\j≠p
   . rw[bA h2,bA ⟨by omega,h2.2⟩]
   . rw[aQ h2,aQ (by omega)]
theorem Q4(s:St)(a:List Int)(p:Nat):fW s a p 0=s:=by
 unfold fW;rw[show cA a p 0=id from funext λl=>XJ];simp
theorem UT{s:St}{a:List Int}{p k:Nat}(h:k=p\/vf a k=0):fW s a p (k+1)=fW s a p k:=by
 unfold fW;rw[show cA a p (k+1)=cA a p k from funext λl=>U0 h]
theorem Rd{s:St}{a:List Int}{p k:Nat}(hu:∀r∈s.u,r.length=s.n)(hi:∀x∈s.aB,x.g.length=s.n)(hp:p<s.n)(hk:k<s.n)(hkp:k≠p):l7 (fW s a p k) k p ((vf a k).fdiv (vf a p))=fW s a p (k+1):=by
 unfold l7 fW;dsimp only;rw[nF,nF];congr 1
 . apply Ap;intro r hr;exact OW (by rw[hu r hr];exact hp) (by rw[hu r hr];exact hk) hkp
 . apply Ap;intro x hx;show AI.mk _ _=AI.mk _ _;rw[show mN k p ((vf a k).fdiv (vf a p)) (cA a p k x.g)=cA a p (k+1) x.g from OW (by rw[hi x hx];exact hp) (by rw[hi x hx];exact hk) hkp]
theorem Ei{n K:Nat}{a:List Int}{p k:Nat}{l:List Int}(hl:kK n K l)(ha:∀j,dl (vf a j)<=8):kK n (K+9) (cA a p k l):=by
 refine⟨qb.trans hl.1,λv hv=>?_⟩;obtain⟨j,hj,rfl⟩:=gw hv;rw[qb]at hj;unfold cA;rw[db hj];split
 . have h1:=hl.vf j;have h2:=hl.vf p;have h3:=jO ((vf a j).fdiv (vf a p)) (vf l p);have h4:=sZ (vf a j) (vf a p);have h5:=ha j;exact jX (K:=K+8) (by omega) (by omega)
 . have:=hl.vf j;omega
theorem QX{K:Nat}{s0 s:St}{i p:Nat}(hu:SU K s)(hn:s.n<=512)(hn0:s0.n=s.n)(hil:s.aB.length<=1073741824)(hi:∀x∈s.aB,kK s.n 8 x.g)(hii:i<s.aB.length)(hp:p<s.n)(hK8:8<=K)(hK:K+30<=cM)(c0:Bool):
 Tm (λN=>bO (B9 N s0.to (i:Int) (s.aB[i]).to (p:Int)) N (s.to.aA,s.to.aV,s.to.u,s.to.aM,s.to.value,s.to.aB,s.to.aK,c0,0))
  (λr=>∃c,r=((fW s (s.aB[i]).g p s.n).to.aA,(fW s (s.aB[i]).g p s.n).to.aV,(fW s (s.aB[i]).g p s.n).to.u,(fW s (s.aB[i]).g p s.n).to.aM,(fW s (s.aB[i]).g p s.n).to.value,(fW s (s.aB[i]).g p s.n).to.aB,(fW s (s.aB[i]).g p s.n).to.aK,c)/\(c=true↔c0=true/\∀j,j<s.n->j≠p->vf (s.aB[i]).g j=0)):=by
 generalize hx:s.aB[i]=x;have hxm:x∈s.aB:=hx▸dC hii;obtain⟨xl,xd⟩:=hi x hxm;have hxl:x.to.g.length=s.n:=(dF _).trans xl;have ha:∀j,dl (vf x.g j)<=8:=kK.vf ⟨xl,xd⟩;refine eE s.n (λk t=>∃c,t=((fW s x.g p k).to.aA,(fW s x.g p k).to.aV,(fW s x.g p k).to.u,(fW s x.g p k).to.aM,(fW s x.g p k).to.value,(fW s x.g p k).to.aB,(fW s x.g p k).to.aK,c,(k:Int))/\(c=true↔c0=true/\∀j,j<k->j≠p->vf x.g j=0)) ⟨c0,by rw[Q4];rfl,by simp⟩ ?_;rintro k hk _ ⟨c,rfl,hc⟩;dsimp only[B9];refine bB (λhlt=>?_) (λhge=>aI ?_)
 . have hlt:k<s.n:=by rw[hxl]at hlt;omega
   have hik:∀z∈(fW s x.g p k).aB,kK s.n (8+9) z.g:=by
    intro z hz;obtain⟨w,hw,rfl⟩:=eh.1 hz;exact Ei (hi w hw) ha
   have hgk:(fW s x.g p k).aB[i]?=some {x with g:=cA x.g p k x.g}:=by
    show(s.aB.map _)[i]?=_;rw[iA,cy hii,hx];rfl
   refine Tm.bind (Q:=λr=>(r.1,r.2.1,r.2.2.1,r.2.2.2.1,r.2.2.2.2.1,r.2.2.2.2.2.1,r.2.2.2.2.2.2.1)=gV (fW s x.g p (k+1))/\(r.2.2.2.2.2.2.2=true↔c0=true/\∀j,j<k+1->j≠p->vf x.g j=0)) (Tm.bind (Q:=λb=>b=decide (k≠p/\vf x.g k≠0)) (bB (λhkp=>?_) (λhkp=>aI ?_)) ?_) ?_
   . have hkp:k≠p:=by omega
     refine aJ (a:=({x with g:=cA x.g p k x.g}:AI).to) (k9 (by show((fW s x.g p k).aB.map AI.to)[i]?=_;rw[iA,hgk];rfl)) ?_;refine aJ (dX (l:=cA x.g p k x.g) (by rw[qb];omega)) ?_;have e:vf (cA x.g p k x.g) k=vf x.g k:=by unfold cA;rw[db (by omega),aQ (by omega)]
     rw[e];refine aU (j2 (bV (ha k) (by decide))) (aI ?_);apply decide_eq_decide.2;rw[qj];exact⟨λh=>⟨hkp,h⟩,λh=>h.2⟩
   . rw[sS];omega
   . rintro _ rfl;refine bB (λh1=>?_) (λh1=>aI ?_)
     . obtain⟨hkp,hk0⟩:=jf h1;refine aJ (dX (l:=x.g) (by omega)) (aJ (dX (l:=x.g) (k:=p) (by omega)) (Tm.bind (rY (bV (ha k) (by decide)) (bV (ha p) (by decide))) ?_));intro r hr;rw[hr,iO (x:=(fW s x.g p k).to) (by show(s0.n:Int)=s.n;rw[hn0])];have hSUk:SU (K+9) (fW s x.g p k):=⟨⟨by show(s.u.map _).length=_;rw[cS];exact hu.u.1,λl hl=>by
        obtain⟨w,hw,rfl⟩:=eh.1 hl;exact Ei (hu.u.2 w hw) ha⟩,hu.st,⟨hu.v.1,λv hv=>by have:=hu.v.2 v hv;omega⟩⟩
       have hq:=sZ (vf x.g k) (vf x.g p);have hq8:=ha k;refine aU (S8 (s:=fW s x.g p k) hSUk hn (by show(s.aB.map _).length<=_;rw[cS];exact hil) (λz hz=>⟨(hik z hz).1,λv hv=>by have:=(hik z hz).2 v hv;omega⟩) hlt hp (by omega)) (aI ?_);rw[Rd (λr hr=>(hu.u.2 r hr).1) (λz hz=>(hi z hz).1) hp hlt hkp];refine⟨rfl,?_⟩;dsimp only;exact⟨λe=>(by cases e),λe=>bX (e.2 k (by omega) hkp) hk0⟩
     . have h2:k=p\/vf x.g k=0:=by
        have:¬(k≠p/\vf x.g k≠0):=λe=>h1 (jg e);omega
       rw[UT h2];refine⟨rfl,?_⟩;dsimp only;rw[hc];refine and_congr_right λ_=>⟨λh j hj hjp=>?_,λh j hj hjp=>h j (by omega) hjp⟩;rcases cG j k with h3|h3
       . exact h j h3 hjp
       . obtain rfl:j=k:=by omega
         rcases h2 with h2|h2
         . exact bX h2 hjp
         . exact h2
   . rintro⟨r1,r2,r3,r4,r5,r6,r7,r8⟩ ⟨h1,h2⟩;dsimp only at h1 h2⊢;obtain⟨rfl,rfl,rfl,rfl,rfl,rfl,rfl⟩:=by simpa[gV]using h1
     exact aI ⟨hlt,r8,by rw[dV (by omega)],h2⟩
 . have:k=s.n:=by rw[hxl]at hge;omega
   subst this;exact⟨c,rfl,hc⟩
open Go Go.X
def bK(f g:Nat->Int):Nat->Int
 |0=>0
 |n+1=>bK f g n+f n*g n
theorem ed{f f' g g':Nat->Int}:∀{n:Nat},(∀j,j<n->f j=f' j)->(∀j,j<n->g j=g' j)->bK f g n=bK f' g' n
 |0,_,_=>rfl
 |n+1,h,h'=>by simp only[bK];rw[ed (n:=n) (λj hj=>h j (by omega)) (λj hj=>h' j (by omega)),h n (by omega),h' n (by omega)]
theorem rZ{f h g:Nat->Int}{k:Int}:∀n,bK (λj=>f j+k*h j) g n=bK f g n+k*bK h g n
 |0=>by simp[bK]
 |n+1=>by simp only[bK,rZ n];grind
theorem qe{f g:Nat->Int}{k:Int}:∀n,bK (λj=>k*f j) g n=k*bK f g n
 |0=>by simp[bK]
 |n+1=>by simp only[bK,qe n];grind
theorem kU{f g:Nat->Int}:∀n,bK f g n=bK g f n
 |0=>rfl
 |n+1=>by simp only[bK,kU n];grind
theorem nZ{f g:Nat->Int}:∀{n:Nat},(∀j,j<n->f j=0)->bK f g n=0
 |0,_=>rfl
 |n+1,h=>by simp only[bK];rw[nZ (n:=n) λj hj=>h j (by omega),h n (by omega)];simp
theorem mW{f g:Nat->Int}{p:Nat}:∀{n:Nat},p<n->(∀j,j<n->j≠p->f j=0)->bK f g n=f p*g p
 |n+1,hp,h=>by
  simp only[bK];by_cases e:n=p
  . subst e;rw[nZ λj hj=>h j (by omega) (by omega)];simp
  . rw[mW (n:=n) (by omega) λj hj=>h j (by omega),h n (by omega) e];simp
def cX(y:Nat->Int)(v:Nat)(z:Int):Nat->Int:=λj=>if j=v then z else y j
theorem uy{f y:Nat->Int}{v:Nat}{z:Int}:∀{n:Nat},v<n->bK f (cX y v z) n=bK f y n+f v*(z-y v)
 |n+1,hv=>by
  simp only[bK];by_cases e:n=v
  . subst e;rw[ed (f:=f) (f':=f) (g:=cX y n z) (g':=y) (n:=n) (λ_ _=>rfl) λj hj=>by unfold cX;rw[aQ (by omega)]];unfold cX;rw[bA rfl];grind
  . rw[uy (n:=n) (by omega)];unfold cX;rw[aQ e];grind
theorem mc{c y:Nat->Int}{U:Nat->Nat->Int}{n:Nat}:∀{m:Nat},bK c (λi=>bK (U i) y n) m=bK (λj=>bK c (λi=>U i j) m) y n
 |0=>by simp only[bK];rw[nZ λ_ _=>rfl]
 |m+1=>by
  simp only[bK];rw[mc (m:=m)];have:=rZ (f:=λj=>bK c (λi=>U i j) m) (h:=λj=>U m j) (g:=y) (k:=c m) n;exact this.symm
theorem FI{f g:Nat->Int}{d:Int}:∀{n:Nat},(∀j,j<n->d∣f j)->d∣bK f g n
 |0,_=>xz d
 |n+1,h=>Int.dvd_add (FI λj hj=>h j (by omega)) (P7 (h n (by omega)) (IY ..))
def mx(u:List (List Int))(i j:Nat):Int:=vf (u.getD i []) j
def ux(s:St)(y:Nat->Int)(i:Nat):Int:=bK (mx s.u i) y s.n
def cu(u:List (List Int))(n:Nat)(c:List Int)(j:Nat):Int:=bK (vf c) (λi=>mx u i j) n
theorem C3(s:St)(c:List Int)(y:Nat->Int):bK (vf c) (ux s y) s.n=bK (cu s.u s.n c) y s.n:=mc
theorem Fj{s:St}{y:Nat->Int}{v:Nat}{z:Int}{i:Nat}(hv:v<s.n):ux s (cX y v z) i=ux s y i+mx s.u i v*(z-y v):=uy hv
def Bj(u:List (List Int))(n:Nat)(w:Nat->Nat->Int):Prop:=(∀i,i<n->∀k,k<n->bK (mx u i) (λj=>w j k) n=if i=k then 1 else 0)/\∀i,i<n->∀k,k<n->bK (w i) (λj=>mx u j k) n=if i=k then 1 else 0
theorem o5{c:Nat->Int}{n k:Nat}(hk:k<n):bK c (λi=>if i=k then 1 else 0) n=c k:=by
 rw[kU,mW hk λj _ hj=>aQ hj,bA rfl];omega
theorem vj{u:List (List Int)}{n:Nat}{w:Nat->Nat->Int}(h:Bj u n w){c:List Int}{k:Nat}(hk:k<n):vf c k=bK (cu u n c) (λj=>w j k) n:=by
 have:bK (cu u n c) (λj=>w j k) n=bK (vf c) (λi=>bK (mx u i) (λj=>w j k) n) n:=mc.symm;rw[this,ed (f':=vf c) (g':=λi=>if i=k then 1 else 0) (λ_ _=>rfl) (λi hi=>h.1 i hi k hk),o5 hk]
theorem AD{u:List (List Int)}{n:Nat}{a b:List Int}{k:Int}{j:Nat}{c:List Int}(h:∀i,i<n->vf c i=vf a i+k*vf b i):cu u n c j=cu u n a j+k*cu u n b j:=by
 unfold cu;rw[ed (f':=λi=>vf a i+k*vf b i) (g':=λi=>mx u i j) h λ_ _=>rfl,rZ]
theorem zW{u:List (List Int)}{n:Nat}{a c:List Int}{k:Int}{j:Nat}(h:∀i,i<n->vf c i=k*vf a i):cu u n c j=k*cu u n a j:=by
 unfold cu;rw[ed (f':=λi=>k*vf a i) (g':=λi=>mx u i j) h λ_ _=>rfl,qe]
structure Inv (s:St):Prop where
 ul:s.u.length=s.n/\∀r∈s.u,r.length=s.n
 gB:s.aM.length=s.n
 vl:s.value.length=s.n
 kl:∀q∈s.aA,q.c.length=s.n
 it:∀x∈s.aB,x.pos<s.aA.length/\x.g.length=s.n
 dG:∀x∈s.aB,∀j,j<s.n->vf x.g j=cu s.u s.n (aG s.aA x.pos).c j
 nf:∀x∈s.aB,∀j,j<s.n->vf s.aM j≠0->vf x.g j=0
 ia:∀x∈s.aB,di x.g=1
 kr:s.aB.Pairwise λx y=>x.g≠y.g
 j1:∃w,Bj s.u s.n w
 stat:∀j,j<s.n->vf s.aM j=0\/vf s.aM j=1\/vf s.aM j=2
 sv:∀e∈s.aK,e.v<s.n/\vf s.aM e.v=2/\∀p∈e.aB,p<s.aA.length
 s2:∀j,j<s.n->vf s.aM j=2->∃e∈s.aK,e.v=j
 sd:s.aK.Pairwise λe' e=>e'.v≠e.v/\∀p∈e.aB,cu s.u s.n (aG s.aA p).c e'.v=0
def IH(s:St)(y:Nat->Int)(x:AI):Prop:=bK (vf x.g) y s.n<=(aG s.aA x.pos).b
def hx(s:St)(x:Nat->Int)(p:Nat):Prop:=bK (vf (aG s.aA p).c) x s.n<=(aG s.aA p).b
theorem tu{s:St}(h:Inv s){x:AI}(hx':x∈s.aB){y:Nat->Int}:IH s y x↔hx s (ux s y) x.pos:=by
 unfold IH hx;rw[C3,ed (f:=vf x.g) (f':=cu s.u s.n (aG s.aA x.pos).c) (g:=y) (g':=y) (h.dG x hx') λ_ _=>rfl]
def Fx(s:St)(y:Nat->Int):Prop:=∀j,j<s.n->vf s.aM j=1->y j=vf s.value j
def Hs(s:St)(y:Nat->Int)(k:Nat):Prop:=Fx s y/\(∀x∈s.aB,IH s y x)/\∀e∈s.aK.drop k,∀p∈e.aB,hx s (ux s y) p
structure iQ (s s':St):Prop where
 n:s'.n=s.n
 kn:∃e,s'.aA=s.aA++e
 ep:∃t,s'.aK=s.aK++t
 col:∀j,j<s.n->vf s.aM j≠0->vf s'.aM j=vf s.aM j/\(vf s.aM j=1->vf s'.value j=vf s.value j)/\∀i,i<s.n->mx s'.u i j=mx s.u i j
 tr:∀y',∃y,(∀i,i<s.n->ux s' y' i=ux s y i)/\(∀j,j<s.n->vf s.aM j≠0->y j=y' j)/\∀k,k<=s.aK.length->Hs s' y' k->Hs s y k
theorem iQ.refl(s:St):iQ s s:=⟨rfl,⟨[],by simp⟩,⟨[],by simp⟩,λj _ _=>⟨rfl,λ_=>rfl,λ_ _=>rfl⟩,λy=>⟨y,λ_ _=>rfl,λ_ _ _=>rfl,λ_ _ h=>h⟩⟩
theorem iQ.trans{a b c:St}(h:iQ a b)(h':iQ b c):iQ a c:=by
 obtain⟨e1,h1⟩:=h.kn;obtain⟨e2,h2⟩:=h'.kn;obtain⟨t1,g1⟩:=h.ep;obtain⟨t2,g2⟩:=h'.ep;refine⟨h'.n.trans h.n,⟨e1++e2,by rw[h2,h1,jS]⟩,⟨t1++t2,by rw[g2,g1,jS]⟩,λj hj hs=>?_,λy''=>?_⟩
 . obtain⟨c1,c2,c3⟩:=h.col j hj hs;obtain⟨d1,d2,d3⟩:=h'.col j (by rw[h.n];exact hj) (by rw[c1];exact hs);exact⟨d1.trans c1,λe=>(d2 (by rw[c1];exact e)).trans (c2 e),λi hi=>(d3 i (by rw[h.n];exact hi)).trans (c3 i hi)⟩
 . obtain⟨y',p1,p2,p3⟩:=h'.tr y'';obtain⟨y,q1,q2,q3⟩:=h.tr y';refine⟨y,λi hi=>(p1 i (by rw[h.n];exact hi)).trans (q1 i hi),λj hj hs=>(q2 j hj hs).trans (p2 j (by rw[h.n];exact hj) (by rw[(h.col j hj hs).1];exact hs)),λk hk hh=>q3 k hk (p3 k (by rw[g1];simp;omega) hh)⟩
structure RF (sys:List AQ)(s:St):Prop where
 R:∀y,Hs s y 0->∀q∈sys,bK (vf q.c) (ux s y) s.n<=q.b
 F:∀k e,s.aK[k]?=some e->e.dT=false->∀y,Hs s y (k+1)->∃z,∀p∈e.aB,hx s (ux s (cX y e.v z)) p
theorem tR{s s':St}(hn:s'.n=s.n){e:List AQ}(h:s'.aA=s.aA++e){p:Nat}(hp:p<s.aA.length){x x':Nat->Int}(hx':∀i,i<s.n->x' i=x i):hx s' x' p↔hx s x p:=by
 unfold hx;rw[h,iz hp,hn,ed (f:=vf (aG s.aA p).c) (f':=vf (aG s.aA p).c) (λ_ _=>rfl) hx']
theorem iQ.R{sys:List AQ}{s s':St}(h:iQ s s')(hr:∀y,Hs s y 0->∀q∈sys,bK (vf q.c) (ux s y) s.n<=q.b):∀y,Hs s' y 0->∀q∈sys,bK (vf q.c) (ux s' y) s'.n<=q.b:=by
 intro y' hy q hq;obtain⟨y,h1,h2,h3⟩:=h.tr y';have:=hr y (h3 0 (fI _) hy) q hq;rw[h.n,ed (f:=vf q.c) (f':=vf q.c) (λ_ _=>rfl) h1];exact this
theorem iQ.F{s s':St}(h:iQ s s')(hI:Inv s){k:Nat}{e:AE}(hk:s.aK[k]?=some e)(hf:∀y,Hs s y (k+1)->∃z,∀p∈e.aB,hx s (ux s (cX y e.v z)) p):∀y,Hs s' y (k+1)->∃z,∀p∈e.aB,hx s' (ux s' (cX y e.v z)) p:=by
 intro y' hy;obtain⟨y,h1,h2,h3⟩:=h.tr y';have hkl:k<s.aK.length:=(eN.1 hk).1;obtain⟨z,hz⟩:=hf y (h3 (k+1) hkl hy);have hm:e∈s.aK:=oB hk;obtain⟨e1,e2,e3⟩:=hI.sv e hm;obtain⟨ek,hek⟩:=h.kn;refine⟨z,λp hp=>(tR h.n hek (e3 p hp) λi hi=>?_).2 (hz p hp)⟩;rw[Fj (by rw[h.n];exact e1),Fj e1,h1 i hi,h2 e.v e1 (by omega),(h.col e.v e1 (by omega)).2.2 i hi]
def Cf(s:St)(us:List AU)(j:Nat):Int:=cu s.u s.n (vec s.n (eQ s.aA us)) j
structure n5 (s:St)(g:List Int)(us:List AU):Prop where
 dG:∀j,j<s.n->vf g j=Cf s us j
 nf:∀j,j<s.n->vf s.aM j≠0->vf g j=0
theorem He{g:List Int}{n j:Nat}(hl:g.length=n)(hj:j<n):vf (vec n λj=>vf g j/dv g) j*dv g=vf g j:=by
 rw[db hj];refine P9 ?_;unfold dv;split
 . exact Int.one_dvd _
 . exact qy (gP (by omega))
theorem LI{s:St}{g:List Int}{us:List AU}(hI:Inv s)(hl:g.length=s.n)(h:n5 s g us){i:Nat}(hi:i<s.n):dv g∣eQ s.aA us i:=by
 obtain⟨w,hw⟩:=hI.j1;have h1:=vj hw (c:=vec s.n (eQ s.aA us)) hi;rw[db hi]at h1;rw[h1];refine FI λj hj=>?_;rw[<-show Cf s us j=cu s.u s.n (vec s.n (eQ s.aA us)) j from rfl,<-h.dG j hj];unfold dv;split
 . exact Int.one_dvd _
 . exact qy (gP (by omega))
theorem OU{K:Nat}{s:St}{g:List Int}{us:List AU}(hI:Inv s)(hp:gX K s g us)(h:n5 s g us):∀j,j<s.n->vf (kC s g us).g j=cu s.u s.n (aG (dst s g us).aA (jz s g us)).c j:=by
 intro j hj;show vf (vec s.n λj=>vf g j/dv g) j=_;have hd:=qC g;have h1:=He (j:=j) hp.gl hj;by_cases hm:many g us=true
 . have e:aG (dst s g us).aA (jz s g us)=nX s.n s.aA us (dv g):=by
    unfold dst jz;rw[bA hm,bA hm];exact oO
   rw[e];have h2:cu s.u s.n (vec s.n (eQ s.aA us)) j=dv g*cu s.u s.n (nX s.n s.aA us (dv g)).c j:=zW λi hi=>by
    rw[db hi];show _=dv g*vf (vec s.n _) i;rw[db hi,fU,P9 (LI hI hp.gl h hi)]
   rw[h.dG j hj]at h1;have h3:dv g*vf (vec s.n λj=>vf g j/dv g) j=dv g*cu s.u s.n (nX s.n s.aA us (dv g)).c j:=by
    rw[<-h2,fU,h1];rfl
   exact PL (by omega) h3
 . have hm':=hm;have e:aG (dst s g us).aA (jz s g us)=aG s.aA (us.headD ⟨0,0⟩).ix:=by
    unfold dst jz;rw[aQ hm,aQ hm]
   rw[e];unfold many at hm;simp only[xo,decide_eq_true_eq,not_or,Nat.not_lt,uW]at hm;obtain⟨m1,m2,m3⟩:=hm;have hu0:=hp.u0
   match us,hu0,m1 with
   |[u],_,_=>
    have m2:u.n=1:=m2;have h1:vf (vec s.n λj=>vf g j/dv g) j=vf g j:=by
     have h2:=h1;rwa[show∀z:Int,z*dv g=z from λz=>by rw[m3];omega]at h2
    rw[h1,h.dG j hj];show cu s.u s.n (vec s.n (eQ s.aA [u])) j=cu s.u s.n (aG s.aA u.ix).c j;unfold cu;refine ed (λi hi=>?_) λ_ _=>rfl;rw[db hi];show u.n*vf (aG s.aA u.ix).c i+0=_;rw[m2];omega
theorem Hg{K:Nat}{s:St}{g:List Int}{us:List AU}(hp:gX K s g us):(aG (dst s g us).aA (jz s g us)).b=fN s.aA us/dv g:=by
 by_cases hm:many g us=true
 . have e:aG (dst s g us).aA (jz s g us)=nX s.n s.aA us (dv g):=by
    unfold dst jz;rw[bA hm,bA hm];exact oO
   rw[e];rfl
 . have e:aG (dst s g us).aA (jz s g us)=aG s.aA (us.headD ⟨0,0⟩).ix:=by
    unfold dst jz;rw[aQ hm,aQ hm]
   rw[e];unfold many at hm;simp only[xo,decide_eq_true_eq,not_or,Nat.not_lt,uW]at hm;obtain⟨m1,m2,m3⟩:=hm;have hu0:=hp.u0
   match us,hu0,m1 with
   |[u],_,_=>
    have m2:u.n=1:=m2;show(aG s.aA u.ix).b=(u.n*(aG s.aA u.ix).b+0)/dv g;rw[m2,m3];omega
theorem Xh{g:List Int}{n:Nat}(hl:g.length=n)(h:di g≠0):di (vec n λj=>vf g j/dv g)=1:=by
 generalize hk:di (vec n λj=>vf g j/dv g)=k;have hd:dv g=(di g:Nat):=by unfold dv;rw[aQ h]
 have h1:((k*di g:Nat):Int)∣((di g:Nat):Int):=oq λx hx=>by
  obtain⟨j,hj,rfl⟩:=gw hx;have h2:=He (g:=g) (n:=n) (j:=j) hl (by omega);rw[<-h2,hd,ID];refine Int.mul_dvd_mul ?_ (Int.dvd_refl _);rw[<-hk];rw[<-hd];exact qy (gP (by rw[dN];omega))
 have h2:k*di g∣di g:=D6.1 h1;obtain⟨c,hc⟩:=h2;have:0<di g:=by omega
 have h3:di g*(k*c)=di g*1:=by rw[Nat.mul_one,<-Nat.mul_assoc,IQ (di g) k];exact hc.symm
 have h4:=Nat.eq_of_mul_eq_mul_left this h3;exact Nat.eq_one_of_mul_eq_one_right h4
theorem Of{kn:List AQ}{x:AI}:∀{l:List AI},l.Pairwise (λx y=>x.g≠y.g)->(eG kn x l).Pairwise λx y=>x.g≠y.g
 |[],_=>by simp[eG]
 |y::l,h=>by
  obtain⟨h1,h2⟩:=Aq.1 h;rw[eG];split
  . rename_i e;split
    . exact Aq.2 ⟨λz hz=>by rw[e];exact h1 z hz,h2⟩
    . exact h
  . rename_i e;refine Aq.2 ⟨λz hz=>?_,Of h2⟩;rcases mb hz with rfl|hz
    . exact λe'=>e e'.symm
    . exact h1 z hz
theorem Bz{s:St}{x:AI}{y:Nat->Int}:∀{l:List AI},(∀z∈eG s.aA x l,IH s y z)->(∀z∈l,IH s y z)/\IH s y x
 |[],h=>⟨λz hz=>(by cases hz),h x (by simp[eG])⟩
 |w::l,h=>by
  rw[eG]at h;split at h
  . rename_i e;split at h
    . rename_i hb;have hx:=h x cU;refine⟨λz hz=>?_,hx⟩;rcases eJ.1 hz with rfl|hz
      . unfold IH at hx⊢;rw[<-e];omega
      . exact h z (cP _ hz)
    . rename_i hb;refine⟨h,?_⟩;have hw:=h w cU;unfold IH at hw⊢;rw[e];omega
  . have h1:=Bz (l:=l) λz hz=>h z (cP _ hz);refine⟨λz hz=>?_,h1.2⟩;rcases eJ.1 hz with rfl|hz
    . exact h z cU
    . exact h1.1 z hz
structure ky (s:St)(x:AI):Prop where
 pos:x.pos<s.aA.length
 gl:x.g.length=s.n
 dG:∀j,j<s.n->vf x.g j=cu s.u s.n (aG s.aA x.pos).c j
 nf:∀j,j<s.n->vf s.aM j≠0->vf x.g j=0
 ia:di x.g=1
theorem Inv.add{s:St}(h:Inv s){x:AI}(hx:ky s x):Inv (add s x)where
 ul:=h.ul
 gB:=h.gB
 vl:=h.vl
 kl:=h.kl
 it z hz:=(mb hz).elim (λe=>by subst e;exact⟨hx.pos,hx.gl⟩) (λhz=>h.it z hz)
 dG z hz:=(mb hz).elim (λe=>by subst e;exact hx.dG) (λhz=>h.dG z hz)
 nf z hz:=(mb hz).elim (λe=>by subst e;exact hx.nf) (λhz=>h.nf z hz)
 ia z hz:=(mb hz).elim (λe=>by subst e;exact hx.ia) (λhz=>h.ia z hz)
 kr:=Of h.kr
 j1:=h.j1
 stat:=h.stat
 sv:=h.sv
 s2:=h.s2
 sd:=h.sd
theorem Inv.aA{s:St}(h:Inv s){kn e:List AQ}{st:List AS}(hk:kn=s.aA++e)(he:∀q∈e,q.c.length=s.n):Inv {s with aA:=kn,aV:=st}where
 ul:=h.ul
 gB:=h.gB
 vl:=h.vl
 kl q hq:=by
  have hq:q∈kn:=hq;rw[hk]at hq;rcases gH.1 hq with hq|hq
  . exact h.kl q hq
  . exact he q hq
 it z hz:=⟨by have:=(h.it z hz).1;show _<kn.length;rw[hk];simp;omega,(h.it z hz).2⟩
 dG z hz j hj:=by rw[h.dG z hz j hj];show _=cu s.u s.n (aG kn z.pos).c j;rw[hk,iz (h.it z hz).1]
 nf:=h.nf
 ia:=h.ia
 kr:=h.kr
 j1:=h.j1
 stat:=h.stat
 sv e' he':=⟨(h.sv e' he').1,(h.sv e' he').2.1,λp hp=>by have:=(h.sv e' he').2.2 p hp;show _<kn.length;rw[hk];simp;omega⟩
 s2:=h.s2
 sd:=by
  have hsv:=h.sv;have:∀a b,a∈s.aK->b∈s.aK->(a.v≠b.v/\∀p∈b.aB,cu s.u s.n (aG s.aA p).c a.v=0)->(a.v≠b.v/\∀p∈b.aB,cu s.u s.n (aG kn p).c a.v=0):=λa b ha hb hab=>⟨hab.1,λp hp=>by rw[hk,iz ((hsv b hb).2.2 p hp)];exact hab.2 p hp⟩;exact Qa (λ{a b} ha hb hab=>this a b ha hb hab) h.sd
theorem Inv.dst{K:Nat}{s:St}(h:Inv s){g:List Int}{us:List AU}(hp:gX K s g us):Inv (dst s g us):=by
 unfold D.dst;split
 . exact h.aA rfl λq hq=>by rw[df.1 hq];exact dN
 . exact h
theorem Df(s:St)(g:List Int)(us:List AU):(dst s g us).u=s.u/\(dst s g us).aM=s.aM/\(dst s g us).value=s.value/\(dst s g us).aK=s.aK/\(dst s g us).n=s.n/\(dst s g us).aB=s.aB:=by
 unfold dst;split<;>exact⟨rfl,rfl,rfl,rfl,rfl,rfl⟩
theorem U6(s:St)(g:List Int)(us:List AU):(put s g us).2.u=s.u/\(put s g us).2.aM=s.aM/\(put s g us).2.value=s.value/\(put s g us).2.aK=s.aK/\(put s g us).2.n=s.n:=by
 obtain⟨h1,h2,h3,h4,h5,_⟩:=Df s g us;unfold put;dsimp only;split<;>exact⟨h1,h2,h3,h4,h5⟩
theorem Vc{K:Nat}{s:St}(h:Inv s){g:List Int}{us:List AU}(hp:gX K s g us)(hs:n5 s g us)(h0:di g≠0):ky (dst s g us) (kC s g us):=by
 obtain⟨h1,h2,h3,h4,h5,_⟩:=Df s g us;refine⟨BL hp,by rw[h5];exact dN,λj hj=>?_,λj hj hst=>?_,Xh hp.gl h0⟩
 . rw[h5]at hj⊢;rw[h1];exact OU h hp hs j hj
 . rw[h5]at hj;rw[h2]at hst;show vf (vec s.n λj=>vf g j/dv g) j=0;rw[db hj,hs.nf j hj hst];simp
theorem Inv.put{K:Nat}{s:St}(h:Inv s){g:List Int}{us:List AU}(hp:gX K s g us)(hs:n5 s g us):Inv (put s g us).2:=by
 unfold D.put;dsimp only;split
 . rename_i h0;exact(h.dst hp).add (Vc h hp hs h0)
 . exact h.dst hp
theorem zH{s s':St}(hn:s'.n=s.n){e:List AQ}(he:s'.aA=s.aA++e){x:AI}(hx:x.pos<s.aA.length){y:Nat->Int}:IH s' y x↔IH s y x:=by
 unfold IH;rw[hn,he,iz hx]
theorem Xe{K:Nat}{s:St}(h:Inv s){g:List Int}{us:List AU}(hp:gX K s g us)(hs:n5 s g us)(hok:(put s g us).1=true){y:Nat->Int}(hy:∀z∈(put s g us).2.aB,IH (put s g us).2 y z):
 (∀z∈s.aB,IH s y z)/\bK (vf g) y s.n<=fN s.aA us:=by
 obtain⟨e,he,_⟩:=Gi s g us;obtain⟨f1,f2,f3,f4,f5,f6⟩:=Df s g us;have hd:=qC g;have hb:=Hg hp;by_cases h0:di g≠0
 . have e2:(D.put s g us).2=add (dst s g us) (kC s g us):=by unfold D.put;dsimp only;rw[bA h0]
   rw[e2]at hy;obtain⟨h1,h2⟩:=Bz (s:=dst s g us) hy;rw[f6]at h1;refine⟨λz hz=>(zH f5 he (h.it z hz).1).1 (h1 z hz),?_⟩;unfold IH at h2;rw[f5]at h2;have h3:bK (vf g) y s.n=dv g*bK (vf (kC s g us).g) y s.n:=by
    rw[<-qe];refine ed (λj hj=>?_) λ_ _=>rfl;rw[fU];exact(He hp.gl hj).symm
   rw[show(aG (dst s g us).aA (kC s g us).pos).b=fN s.aA us/dv g from hb]at h2;have h4:=gU h2 (eK hd);have h5:=Qb (x:=fN s.aA us) (k:=dv g) (by omega);omega
 . have e2:(D.put s g us).2=dst s g us:=by unfold D.put;dsimp only;rw[aQ h0]
   rw[e2,f6]at hy;refine⟨λz hz=>(zH f5 he (h.it z hz).1).1 (hy z hz),?_⟩;have h0:=uW.1 h0;have hz:=JK h0;rw[nZ λj hj=>hz _ (gP (by rw[hp.gl];exact hj))];have:ot s g us=true:=hok;unfold ot at this;rw[hb]at this;have hd1:dv g=1:=by unfold dv;rw[bA h0]
   rw[hd1,Int.ediv_one]at this;simpa[h0]using this
theorem WT{K:Nat}{s:St}(h:Inv s){g:List Int}{us:List AU}(hp:gX K s g us)(hs:n5 s g us)(hok:(put s g us).1=false):∃q∈(put s g us).2.aA,(∀j,j<s.n->vf q.c j=0)/\q.b<0:=by
 have hk:ot s g us=false:=hok;unfold ot at hk;simp only[IE,decide_eq_false_iff_not,ne_eq,uW,Int.not_le]at hk;obtain⟨h0,hb⟩:=hk;have e2:(D.put s g us).2=dst s g us:=by unfold D.put;dsimp only;rw[aQ (by simpa using h0)]
 rw[e2];refine⟨_,eW (BL hp),λj hj=>?_,hb⟩;obtain⟨w,hw⟩:=h.j1;rw[vj hw hj];refine nZ λi hi=>?_;rw[<-OU h hp hs i hi];show vf (vec s.n λj=>vf g j/dv g) i=0;rw[db hi,JK h0 _ (gP (by rw[hp.gl];exact hi))];simp
open Go Go.X
structure rC (n:Nat)(R:List Int->List Int)(T T':Nat->Nat->Int)(st:Nat->Int):Prop where
 len:∀l,l.length=n->(R l).length=n
 row:∀l,l.length=n->∀j,j<n->vf (R l) j=bK (vf l) (λk=>T k j) n
 one:∀i,i<n->∀k,k<n->bK (T i) (λj=>T' j k) n=if i=k then 1 else 0
 two:∀i,i<n->∀k,k<n->bK (T' i) (λj=>T j k) n=if i=k then 1 else 0
 nf:∀j,j<n->st j≠0->∀k,k<n->T k j=(if k=j then 1 else 0)/\T j k=(if k=j then 1 else 0)
theorem UX{c:Nat->Int}{n k:Nat}(hk:k<n):bK (λi=>if i=k then 1 else 0) c n=c k:=by
 rw[kU,o5 hk]
theorem CN{c:Nat->Int}{n k:Nat}(hk:k<n):bK c (λi=>if k=i then 1 else 0) n=c k:=by
 rw[<-o5 (c:=c) hk];exact ed (λ_ _=>rfl) λj _=>by by_cases e:k=j<;>simp[e,eq_comm]
def iP(s:St)(R:List Int->List Int):St:={s with u:=s.u.map R,aB:=s.aB.map λx=>{x with g:=R x.g}}
section
variable {s:St} {R:List Int->List Int} {T T':Nat->Nat->Int}
theorem yw(h:Inv s)(b:rC s.n R T T' (vf s.aM)){i j:Nat}(hi:i<s.n)(hj:j<s.n):mx (iP s R).u i j=bK (mx s.u i) (λk=>T k j) s.n:=by
 have hl:i<s.u.length:=by rw[h.ul.1];exact hi
 unfold mx;have e:(iP s R).u.getD i []=R (s.u.getD i []):=by
  show(s.u.map R).getD i []=_;rw[cL,cL,iA,cy hl];rfl
 rw[e];refine b.row _ ?_ j hj;rw[cL,cy hl];exact h.ul.2 _ (dC hl)
theorem JJ(h:Inv s)(b:rC s.n R T T' (vf s.aM)){c:List Int}{j:Nat}(hj:j<s.n):cu (iP s R).u s.n c j=bK (cu s.u s.n c) (λk=>T k j) s.n:=by
 unfold cu;rw[ed (f':=vf c) (g':=λi=>bK (mx s.u i) (λk=>T k j) s.n) (λ_ _=>rfl) λi hi=>yw h b hi hj];exact mc
theorem FJ(b:rC s.n R T T' (vf s.aM)){f:Nat->Int}{j:Nat}(hj:j<s.n)(hst:vf s.aM j≠0):bK f (λk=>T k j) s.n=f j:=by
 rw[ed (f:=f) (f':=f) (g':=λk=>if k=j then 1 else 0) (λ_ _=>rfl) λk hk=>(b.nf j hj hst k hk).1];exact o5 hj
theorem EN(b:rC s.n R T T' (vf s.aM)){l:List Int}(hl:l.length=s.n){k:Nat}(hk:k<s.n):vf l k=bK (vf (R l)) (λj=>T' j k) s.n:=by
 rw[ed (f':=λj=>bK (vf l) (λm=>T m j) s.n) (g':=λj=>T' j k) (λj hj=>b.row l hl j hj) λ_ _=>rfl];have:bK (λj=>bK (vf l) (λm=>T m j) s.n) (λj=>T' j k) s.n=bK (vf l) (λm=>bK (T m) (λj=>T' j k) s.n) s.n:=mc.symm;rw[this,ed (f:=vf l) (f':=vf l) (g':=λm=>if m=k then 1 else 0) (λ_ _=>rfl) λm hm=>b.one m hm k hk,o5 hk]
theorem Inv.ch(h:Inv s)(b:rC s.n R T T' (vf s.aM)):Inv (iP s R)where
 ul:=⟨by show(s.u.map R).length=_;rw[cS];exact h.ul.1,λr hr=>by
  obtain⟨l,hl,rfl⟩:=eh.1 hr;exact b.len l (h.ul.2 l hl)⟩
 gB:=h.gB
 vl:=h.vl
 kl:=h.kl
 it x hx:=by
  obtain⟨z,hz,rfl⟩:=eh.1 hx;exact⟨(h.it z hz).1,b.len _ (h.it z hz).2⟩
 dG x hx j hj:=by
  obtain⟨z,hz,rfl⟩:=eh.1 hx;show vf (R z.g) j=cu (iP s R).u s.n (aG s.aA z.pos).c j;rw[JJ h b hj,b.row z.g (h.it z hz).2 j hj];exact ed (h.dG z hz) λ_ _=>rfl
 nf x hx j hj hst:=by
  obtain⟨z,hz,rfl⟩:=eh.1 hx;show vf (R z.g) j=0;rw[b.row z.g (h.it z hz).2 j hj,FJ b hj hst];exact h.nf z hz j hj hst
 ia x hx:=by
  obtain⟨z,hz,rfl⟩:=eh.1 hx;have h1:=h.ia z hz;have hzl:=(h.it z hz).2;have h2:((di (R z.g):Nat):Int)∣((di z.g:Nat):Int):=oq λv hv=>by
   obtain⟨k,hk,rfl⟩:=gw hv;rw[EN b hzl (by omega)];exact FI λj hj=>qy (gP (by rw[b.len _ hzl];exact hj))
  rw[h1]at h2;exact I5 (D6.1 h2)
 kr:=by
  show(s.aB.map _).Pairwise _;rw[I6];refine Qa (λ{x y} hx hy hne e=>hne ?_) h.kr;have e:R x.g=R y.g:=e;have hxl:=(h.it x hx).2;have hyl:=(h.it y hy).2;refine kg (hxl.trans hyl.symm) λk hk=>?_;rw[EN b hxl (by omega),EN b hyl (by omega),e]
 j1:=by
  obtain⟨w,hw⟩:=h.j1;refine⟨λj k=>bK (T' j) (λm=>w m k) s.n,λi hi k hk=>?_,λi hi k hk=>?_⟩
  . show bK (mx (iP s R).u i) (λj=>bK (T' j) (λm=>w m k) s.n) s.n=_;rw[mc];rw[ed (f':=mx s.u i) (g':=λm=>w m k) (λm hm=>?_) λ_ _=>rfl]
    . exact hw.1 i hi k hk
    . rw[ed (f':=λj=>bK (mx s.u i) (λk=>T k j) s.n) (g':=λj=>T' j m) (λj hj=>yw h b hi hj) λ_ _=>rfl];have:bK (λj=>bK (mx s.u i) (λk=>T k j) s.n) (λj=>T' j m) s.n=bK (mx s.u i) (λr=>bK (T r) (λj=>T' j m) s.n) s.n:=mc.symm;rw[this,ed (f:=mx s.u i) (f':=mx s.u i) (g':=λr=>if r=m then 1 else 0) (λ_ _=>rfl) λr hr=>b.one r hr m hm,o5 hm]
  . show bK (λk'=>bK (T' i) (λm=>w m k') s.n) (λj=>mx (iP s R).u j k) s.n=_;rw[ed (f:=λk'=>bK (T' i) (λm=>w m k') s.n) (f':=λk'=>bK (T' i) (λm=>w m k') s.n) (g':=λj=>bK (mx s.u j) (λr=>T r k) s.n) (λ_ _=>rfl) λj hj=>yw h b hj hk];rw[mc];rw[ed (f':=T' i) (g':=λr=>T r k) (λr hr=>?_) λ_ _=>rfl]
    . exact b.two i hi k hk
    . have:bK (λk'=>bK (T' i) (λm=>w m k') s.n) (λj=>mx s.u j r) s.n=bK (T' i) (λm=>bK (w m) (λj=>mx s.u j r) s.n) s.n:=mc.symm;rw[this,ed (f:=T' i) (f':=T' i) (g':=λm=>if m=r then 1 else 0) (λ_ _=>rfl) λm hm=>hw.2 m hm r hr,o5 hr]
 stat:=h.stat
 sv:=h.sv
 s2:=h.s2
 sd:=by
  refine Qa (λ{a e} ha he hae=>⟨hae.1,λp hp=>?_⟩) h.sd;obtain⟨a1,a2,_⟩:=h.sv a ha;show cu (iP s R).u s.n (aG s.aA p).c a.v=0;rw[JJ h b a1,FJ b a1 (by omega)];exact hae.2 p hp
theorem iQ.ch(h:Inv s)(b:rC s.n R T T' (vf s.aM)):iQ s (iP s R):=by
 refine⟨rfl,⟨[],by simp[iP]⟩,⟨[],by simp[iP]⟩,λj hj hst=>⟨rfl,λ_=>rfl,λi hi=>?_⟩,λy'=>?_⟩
 . rw[yw h b hi hj,FJ b hj hst]
 . have hux:∀i,i<s.n->ux (iP s R) y' i=ux s (λk=>bK (T k) y' s.n) i:=λi hi=>by
    unfold ux;show bK (mx (iP s R).u i) y' s.n=_;rw[ed (f':=λj=>bK (mx s.u i) (λk=>T k j) s.n) (g':=y') (λj hj=>yw h b hi hj) λ_ _=>rfl];exact mc.symm
   have hnf:∀j,j<s.n->vf s.aM j≠0->bK (T j) y' s.n=y' j:=λj hj hst=>by
    rw[ed (f':=λk=>if k=j then 1 else 0) (g':=y') (λk hk=>(b.nf j hj hst k hk).2) λ_ _=>rfl];exact UX hj
   refine⟨λk=>bK (T k) y' s.n,hux,hnf,λk hk ⟨h1,h2,h3⟩=>⟨λj hj hst=>?_,λx hx=>?_,λe he p hp=>?_⟩⟩
   . show bK (T j) y' s.n=_;rw[hnf j hj (by omega)];exact h1 j hj hst
   . have:=h2 {x with g:=R x.g} (eh.2 ⟨x,hx,rfl⟩);unfold IH at this⊢;have e:bK (vf (R x.g)) y' s.n=bK (vf x.g) (λk=>bK (T k) y' s.n) s.n:=by
      rw[ed (f':=λj=>bK (vf x.g) (λk=>T k j) s.n) (g':=y') (λj hj=>b.row x.g (h.it x hx).2 j hj) λ_ _=>rfl];exact mc.symm
     rw[<-e];exact this
   . have:=h3 e he p hp;unfold hx at this⊢;show bK (vf (aG s.aA p).c) _ s.n<=_;rw[ed (f:=vf (aG s.aA p).c) (f':=vf (aG s.aA p).c) (g:=ux s λk=>bK (T k) y' s.n) (g':=ux (iP s R) y') (λ_ _=>rfl) λi hi=>(hux i hi).symm];exact this
end
theorem SZ{f g:Nat->Int}{p k n:Nat}(hp:p<n)(hk:k<n)(hne:k≠p)(h:∀j,j<n->j≠p->j≠k->f j=0):bK f g n=f k*g k+f p*g p:=by
 have h1:=rZ (f:=λj=>if j=k then f j else 0) (h:=λj=>if j=p then f j else 0) (g:=g) (k:=1) n;rw[mW (f:=λj=>if j=k then f j else 0) hk λj _ hj=>aQ hj,mW (f:=λj=>if j=p then f j else 0) hp λj _ hj=>aQ hj]at h1;simp only[if_true]at h1;rw[ed (f':=λj=>(if j=k then f j else 0)+1*(if j=p then f j else 0)) (g':=g) (λj hj=>?_) λ_ _=>rfl,h1]
 . omega
 . by_cases e1:j=k
   . subst e1;rw[bA rfl,aQ hne];omega
   . by_cases e2:j=p
     . subst e2;rw[aQ e1,bA rfl];omega
     . rw[aQ e1,aQ e2,h j hj e2 e1];omega
def rT(p:Nat)(q:Nat->Int)(k j:Nat):Int:=if k=j then 1 else if k=p then-q j else 0
theorem KM{p:Nat}{q:Nat->Int}{n j:Nat}{f:Nat->Int}(hp:p<n)(hj:j<n):bK f (λk=>rT p q k j) n=if j=p then f j else f j-q j*f p:=by
 rw[kU];by_cases e:j=p
 . subst e;rw[bA rfl,mW hj λi _ hi=>by unfold rT;rw[aQ hi,aQ hi]];unfold rT;rw[bA rfl];omega
 . rw[aQ e,SZ hp hj e λi _ h1 h2=>by unfold rT;rw[aQ h2,aQ h1]];unfold rT;rw[bA rfl,aQ (by omega),bA rfl];grind
theorem M9{p:Nat}{q:Nat->Int}{n i k:Nat}(hp:p<n)(hi:i<n)(hk:k<n):bK (rT p q i) (λj=>rT p (λj=>-q j) j k) n=if i=k then 1 else 0:=by
 rw[KM hp hk];by_cases e:k=p
 . subst e;rw[bA rfl];unfold rT;by_cases e2:i=k
   . rw[bA e2,bA e2]
   . rw[aQ e2,aQ e2,aQ e2]
 . rw[aQ e];unfold rT;by_cases e2:i=k
   . subst e2;rw[bA rfl,aQ e,aQ e];simp
   . rw[aQ e2];by_cases e3:i=p
     . subst e3;rw[bA rfl,bA rfl,aQ e2];omega
     . rw[aQ e3,aQ e3,aQ e3,aQ e2];simp
theorem QJ{s:St}{a:List Int}{p:Nat}(hp:p<s.n)(hps:vf s.aM p=0)(ha:∀j,j<s.n->vf s.aM j≠0->vf a j=0):
 rC s.n (cA a p s.n) (rT p λj=>(vf a j).fdiv (vf a p)) (rT p λj=>-(vf a j).fdiv (vf a p)) (vf s.aM)where
 len l hl:=qb.trans hl
 row l hl j hj:=by
  rw[KM hp hj];unfold cA;rw[db (by omega)];by_cases e:j=p
  . rw[aQ (by omega),bA e]
  . rw[bA ⟨hj,e⟩,aQ e]
 one i hi k hk:=M9 hp hi hk
 two i hi k hk:=by
  have:=M9 (q:=λj=>-(vf a j).fdiv (vf a p)) hp hi hk;rw[<-this];refine ed (λ_ _=>rfl) λj _=>?_;unfold rT;simp
 nf j hj hst k hk:=by
  have hjp:j≠p:=λe=>hst (e▸hps);have h0:=ha j hj hst;unfold rT;constructor
  . by_cases e:k=j
    . rw[bA e,bA e]
    . rw[aQ e,aQ e];dsimp only;rw[h0,xw];simp
  . by_cases e:k=j
    . rw[bA e.symm,bA e]
    . rw[aQ (λh=>e h.symm),aQ hjp,aQ e]
theorem XD(s:St)(a:List Int)(p:Nat):fW s a p s.n=iP s (cA a p s.n):=rfl
def fT(p k j:Nat):Int:=if k=j then(if k=p then-1 else 1)else 0
theorem Pk{p n j:Nat}{f:Nat->Int}(hj:j<n):bK f (λk=>fT p k j) n=if j=p then-f j else f j:=by
 rw[kU,mW hj λi _ hi=>by unfold fT;rw[aQ hi]];unfold fT;rw[bA rfl];split<;>omega
theorem J3{p n i k:Nat}(hi:i<n)(hk:k<n):bK (fT p i) (λj=>fT p j k) n=if i=k then 1 else 0:=by
 rw[Pk hk];unfold fT;by_cases e:i=k
 . subst e;by_cases e2:i=p
   . simp[e2]
   . simp[e2]
 . simp[e]
theorem Ss{s:St}{p:Nat}(hp:p<s.n)(hps:vf s.aM p=0):rC s.n (λl=>l.set p (-vf l p)) (fT p) (fT p) (vf s.aM)where
 len l hl:=by rw[gI];exact hl
 row l hl j hj:=by
  rw[Pk hj,iX (by omega)];by_cases e:p=j
  . subst e;simp
  . rw[aQ e,aQ λh=>e h.symm]
 one i hi k hk:=J3 hi hk
 two i hi k hk:=J3 hi hk
 nf j hj hst k hk:=by
  have hjp:j≠p:=λe=>hst (e▸hps);unfold fT;constructor
  . by_cases e:k=j
    . subst e;rw[bA rfl,aQ hjp,bA rfl]
    . rw[aQ e,aQ e]
  . by_cases e:k=j
    . rw[bA e.symm,aQ hjp,bA e]
    . rw[aQ (λh=>e h.symm),aQ e]
theorem Wj(s:St)(p:Nat):flS s p=iP s λl=>l.set p (-vf l p):=rfl
open Go Go.X
theorem y8{p m M:Int}(hp:0<p)(h1:p*m<=p*M)(h2:-(p*M)<=p*m):-M<=m/\m<=M:=by
 refine⟨?_,D7 h1 hp⟩;refine D7 (a:=p) ?_ hp;rw[mi];exact h2
theorem Jq{p m m' u v U V A B M:Int}(hp:0<p)(e':p*m'=u*A-v*B)(e:p*m=U*A-V*B)(u0:0<=u)(uU:u<=U)(v0:0<=v)(vV:v<=V)(up:u<=p)(vp:v<=p)
 (hA:-M<=A/\A<=M)(hB:-M<=B/\B<=M)(hm:-M<=m/\m<=M):-M<=m'/\m'<=M:=by
 have M0:0<=M:=by omega
 have hpm1:=gU hm.2 (eK hp);have hpm2:=gU hm.1 (eK hp);rw[mi]at hpm2;have upM:u*M<=p*M:=fp up M0;have vpM:v*M<=p*M:=fp vp M0;rcases xA 0 A with a|a<;>rcases xA 0 B with b|b
 . have h1:=gU hA.2 u0;have h2:=gU hB.2 v0;have h3:=fb u0 a;have h4:=fb v0 b;exact y8 hp (by omega) (by omega)
 . have h1:=fp uU a;have h2:=fp vV (show 0≤-B by omega);have h3:=fb u0 a;have h4:=fb v0 (show 0≤-B by omega);rw[mi]at h2 h4;rw[mi]at h2;exact y8 hp (by omega) (by omega)
 . have h1:=fp uU (show 0≤-A by omega);have h2:=fp vV b;have h3:=fb u0 (show 0≤-A by omega);have h4:=fb v0 b;rw[mi]at h1 h3;rw[mi]at h1;exact y8 hp (by omega) (by omega)
 . have h1:=gU (show-A<=M by omega) u0;have h2:=gU (show-B<=M by omega) v0;have h3:=fb u0 (show 0≤-A by omega);have h4:=fb v0 (show 0≤-B by omega);rw[mi]at h1 h2 h3 h4;exact y8 hp (by omega) (by omega)
theorem Ko{p m' u v A B M:Int}(hp:0<p)(e':p*m'=u*A-v*B)(hu:-p<=u/\u<=p)(hv:-p<=v/\v<=p)(hA:-M<=A/\A<=M)(hB:-M<=B/\B<=M):-(2*M)<=m'/\m'<=2*M:=by
 have key:∀{x y:Int},-p<=x->x<=p→-M<=y->y<=M→-(p*M)<=x*y/\x*y<=p*M:=by
  intro x y h1 h2 h3 h4;have M0:0<=M:=by omega
  rcases xA 0 x with a|a<;>rcases xA 0 y with b|b
  . have g1:=oH h2 h4 b (by omega);have g2:=fb a b;have g3:=fb (eK hp) M0;omega
  . have g1:=oH h2 (show-y<=M by omega) (by omega) (by omega);have g2:=fb a (show 0≤-y by omega);rw[mi]at g1 g2;have g3:=fb (eK hp) M0;omega
  . have g1:=oH (show-x<=p by omega) h4 b (by omega);have g2:=fb (show 0≤-x by omega) b;rw[mh]at g1 g2;have g3:=fb (eK hp) M0;omega
  . have g1:=oH (show-x<=p by omega) (show-y<=M by omega) (by omega) (by omega);have g2:=fb (show 0≤-x by omega) (show 0≤-y by omega);rw[Int.neg_mul_neg]at g1 g2;have g3:=fb (eK hp) M0;omega
 have h1:=key hu.1 hu.2 hA.1 hA.2;have h2:=key hv.1 hv.2 hB.1 hB.2;have e3:p*(2*M)=2*(p*M):=by grind
 exact y8 hp (by omega) (by omega)
def Mi(a x:List Int)(j k:Nat):Int:=vf a j*vf x k-vf a k*vf x j
def MB(n:Nat)(a x:List Int)(M:Int):Prop:=∀j,j<n->∀k,k<n→-M<=Mi a x j k/\Mi a x j k<=M
def SG(n:Nat)(a:List Int):Prop:=(∀j,j<n->0<=vf a j)\/∀j,j<n->vf a j<=0
theorem qM{a p:Int}(hp:0<p):0<=a-a.fdiv p*p/\a-a.fdiv p*p<p:=by
 have h1:=I1 a p;have h2:=Int.fmod_nonneg_of_pos a hp;have h3:=Int.fmod_lt_of_pos a hp;rw[fU]at h1;omega
theorem Pa{a p:Int}(hp:p<0):a-a.fdiv p*p<=0/\p<a-a.fdiv p*p:=by
 have h:=qM (a:=-a) (p:=-p) (by omega);rw[I0,mi]at h;omega
section
variable {n p:Nat} {a x:List Int}
theorem mA(hp:p<n)(hl:x.length=n):vf (cA a p n x) p=vf x p:=by unfold cA;rw[db (by omega),aQ (by omega)]
theorem nL{j:Nat}(hj:j<n)(hl:x.length=n)(hjp:j≠p):vf (cA a p n x) j=vf x j-(vf a j).fdiv (vf a p)*vf x p:=by unfold cA;rw[db (by omega),bA ⟨hj,hjp⟩]
theorem pg(hp:rS a p)(hl:a.length=n){j:Nat}(hj:j<n)(hjp:j≠p):(vf (cA a p n a) j).natAbs<(vf a p).natAbs/\(0<vf a p->0<=vf (cA a p n a) j)/\(vf a p<0->vf (cA a p n a) j<=0):=by
 rw[nL hj hl hjp];have h0:=hp.2.1;rcases sP h0 with h|h
 . have:=Pa (a:=vf a j) h;omega
 . have:=qM (a:=vf a j) h;omega
theorem Jv{j k:Nat}(hp:p<n)(ha:a.length=n)(hx:x.length=n)(hj:j<n)(hk:k<n)(hjp:j≠p)(hkp:k≠p):
 vf a p*Mi (cA a p n a) (cA a p n x) j k=vf (cA a p n a) j*Mi a x p k-vf (cA a p n a) k*Mi a x p j:=by
 unfold Mi;rw[nL hj ha hjp,nL hk ha hkp,nL hj hx hjp,nL hk hx hkp];generalize(vf a j).fdiv (vf a p)=q;generalize(vf a k).fdiv (vf a p)=r;grind
theorem Xn{j k:Nat}:vf a p*Mi a x j k=vf a j*Mi a x p k-vf a k*Mi a x p j:=by unfold Mi;grind
theorem xS{k:Nat}(hp:p<n)(ha:a.length=n)(hx:x.length=n)(hk:k<n):Mi (cA a p n a) (cA a p n x) p k=Mi a x p k:=by
 unfold Mi;rw[mA hp ha,mA hp hx];by_cases e:k=p
 . subst e;rw[mA hk ha,mA hk hx]
 . rw[nL hk ha e,nL hk hx e];grind
theorem MM{j k:Nat}:Mi a x j k=-Mi a x k j:=by unfold Mi;omega
theorem Wz{M:Int}(hM:0<=M)(hp:rS a p)(ha:a.length=n)(hx:x.length=n)(h:MB n a x M):MB n (cA a p n a) (cA a p n x) (2*M):=by
 have hpn:p<n:=by have:=hp.1;omega
 intro j hj k hk;by_cases e:j=p
 . subst e;rw[xS hj ha hx hk];have:=h j hj k hk;omega
 by_cases e2:k=p
 . subst e2;rw[MM,xS hk ha hx hj];have:=h k hk j hj;omega
 have h1:=Jv hpn ha hx hj hk e e2;have hA:=h p hpn k hk;have hB:=h p hpn j hj;have sj:=(pg hp ha hj e).1;have sk:=(pg hp ha hk e2).1;rcases sP hp.2.1 with h0|h0
 . refine Ko (p:=-vf a p) (u:=-vf (cA a p n a) j) (v:=-vf (cA a p n a) k) (A:=Mi a x p k) (B:=Mi a x p j) (by omega) ?_ (by omega) (by omega) hA hB;rw[mh,mh,mh,h1];omega
 . exact Ko (p:=vf a p) h0 h1 (by omega) (by omega) hA hB
theorem TV{M:Int}(hp:rS a p)(hs:SG n a)(ha:a.length=n)(hx:x.length=n)(h:MB n a x M):MB n (cA a p n a) (cA a p n x) M:=by
 have hpn:p<n:=by have:=hp.1;omega
 intro j hj k hk;by_cases e:j=p
 . subst e;rw[xS hj ha hx hk];exact h j hj k hk
 by_cases e2:k=p
 . subst e2;rw[MM,xS hk ha hx hj];have:=h k hk j hj;omega
 have h1:=Jv hpn ha hx hj hk e e2;have h2:=Xn (a:=a) (x:=x) (p:=p) (j:=j) (k:=k);have hA:=h p hpn k hk;have hB:=h p hpn j hj;have hm:=h j hj k hk;obtain⟨sj,sj1,sj2⟩:=pg hp ha hj e;obtain⟨sk,sk1,sk2⟩:=pg hp ha hk e2;have pj:=hp.2.2 j (by omega);have pk:=hp.2.2 k (by omega);have zj:vf a j=0->vf (cA a p n a) j=0:=λz=>by rw[nL hj ha e,z,xw];omega
 have zk:vf a k=0->vf (cA a p n a) k=0:=λz=>by rw[nL hk ha e2,z,xw];omega
 rcases sP hp.2.1 with h0|h0
 . have hs':∀j,j<n->vf a j<=0:=by
    rcases hs with hs|hs
    . have:=hs p hpn;omega
    . exact hs
   have hj':=hs' j hj;have hk':=hs' k hk;refine Jq (p:=-vf a p) (m:=Mi a x j k) (u:=-vf (cA a p n a) j) (v:=-vf (cA a p n a) k) (U:=-vf a j) (V:=-vf a k) (A:=Mi a x p k) (B:=Mi a x p j) (by omega) ?_ ?_ ?_ ?_ ?_ ?_ ?_ ?_ hA hB hm
   . rw[mh,mh,mh,h1];omega
   . rw[mh,mh,mh,h2];omega
   . have:=sj2 h0;omega
   . by_cases z:vf a j=0
     . have:=zj z;omega
     . have:=pj z;omega
   . have:=sk2 h0;omega
   . by_cases z:vf a k=0
     . have:=zk z;omega
     . have:=pk z;omega
   . omega
   . omega
 . have hs':∀j,j<n->0<=vf a j:=by
    rcases hs with hs|hs
    . exact hs
    . have:=hs p hpn;omega
   have hj':=hs' j hj;have hk':=hs' k hk;refine Jq (p:=vf a p) (m:=Mi a x j k) (u:=vf (cA a p n a) j) (v:=vf (cA a p n a) k) (U:=vf a j) (V:=vf a k) (A:=Mi a x p k) (B:=Mi a x p j) h0 h1 h2 (sj1 h0) ?_ (sk1 h0) ?_ ?_ ?_ hA hB hm
   . by_cases z:vf a j=0
     . have:=zj z;omega
     . have:=pj z;omega
   . by_cases z:vf a k=0
     . have:=zk z;omega
     . have:=pk z;omega
   . omega
   . omega
theorem Tw(hp:rS a p)(ha:a.length=n):SG n (cA a p n a):=by
 have hpn:p<n:=by have:=hp.1;omega
 rcases sP hp.2.1 with h0|h0
 . refine .inr λj hj=>?_;by_cases e:j=p
   . subst e;rw[mA hj ha];omega
   . exact(pg hp ha hj e).2.2 h0
 . refine .inl λj hj=>?_;by_cases e:j=p
   . subst e;rw[mA hj ha];omega
   . exact(pg hp ha hj e).2.1 h0
theorem Qt{M X:Nat}(hp:rS a p)(ha:a.length=n)(hx:x.length=n)(h:MB n a x M)(hX:∀j,j<n->(vf x j).natAbs<=X):∀j,j<n->(vf (cA a p n x) j).natAbs<=M+X:=by
 have hpn:p<n:=by have:=hp.1;omega
 intro j hj;by_cases e:j=p
 . subst e;rw[mA hj hx];have:=hX j hj;omega
 have h1:=xS (k:=j) hpn ha hx hj;have h2:=h p hpn j hj;have hs:=(pg hp ha hj e).1;have hxp:=hX p hpn;unfold Mi at h1;rw[mA hpn ha,mA hpn hx]at h1;have h3:vf a p*vf (cA a p n x) j=Mi a x p j+vf (cA a p n a) j*vf x p:=by unfold Mi;omega
 have h4:(vf a p).natAbs*(vf (cA a p n x) j).natAbs<=M+(vf a p).natAbs*X:=by
  rw[<-Ao,h3];have g1:(vf (cA a p n a) j*vf x p).natAbs<=(vf a p).natAbs*X:=by
   rw[Ao];exact kY (by omega) hxp
  omega
 have hpos:0<(vf a p).natAbs:=by have:=hp.2.1;omega
 have h5:(vf a p).natAbs*(vf (cA a p n x) j).natAbs<=(vf a p).natAbs*(M+X):=by
  rw[Nat.mul_add];have:1*M<=(vf a p).natAbs*M:=qQ _ hpos;omega
 exact Nat.le_of_mul_le_mul_left h5 hpos
end
def fj(a:List Int):Nat->Nat
 |0=>0
 |n+1=>fj a n+(vf a n).natAbs
theorem NX{a b:List Int}:∀{n:Nat},(∀j,j<n->(vf a j).natAbs<=(vf b j).natAbs)->fj a n<=fj b n
 |0,_=>bQ _
 |n+1,h=>by
  have:=NX (n:=n) λj hj=>h j (by omega);have:=h n (by omega);simp only[fj];omega
theorem Mr{a b:List Int}{k:Nat}:∀{n:Nat},k<n->(∀j,j<n->(vf a j).natAbs<=(vf b j).natAbs)->(vf a k).natAbs<(vf b k).natAbs->fj a n<fj b n
 |n+1,hk,h,hlt=>by
  simp only[fj];by_cases e:k=n
  . subst e;have:=NX (n:=k) λj hj=>h j (by omega);omega
  . have:=Mr (n:=n) (by omega) (λj hj=>h j (by omega)) hlt;have:=h n (by omega);omega
theorem Gg{a:List Int}{C:Nat}:∀{n:Nat},(∀j,j<n->(vf a j).natAbs<=C)->fj a n<=n*C
 |0,_=>by simp[fj]
 |n+1,h=>by
  have:=Gg (n:=n) λj hj=>h j (by omega);have:=h n (by omega);simp only[fj];rw[iJ];omega
theorem QZ{a:List Int}{n p:Nat}(hp:rS a p)(ha:a.length=n){k:Nat}(hk:k<n)(hkp:k≠p)(hk0:vf a k≠0):fj (cA a p n a) n<fj a n:=by
 have hpn:p<n:=by have:=hp.1;omega
 have key:∀j,j<n->(vf (cA a p n a) j).natAbs<=(vf a j).natAbs:=λj hj=>by
  by_cases e:j=p
  . subst e;rw[mA hj ha];exact bQ _
  . by_cases z:vf a j=0
    . rw[nL hj ha e,z,xw];simp
    . have:=(pg hp ha hj e).1;have:=hp.2.2 j (by omega) z;omega
 exact Mr hk key (by have:=(pg hp ha hk hkp).1;have:=hp.2.2 k (by omega) hk0;omega)
theorem K6{a b:List Int}{p m:Nat}:∀{n:Nat},(∀j,j<n->2*(vf b j).natAbs<=(vf a j).natAbs+if j=p then m else 0)->2*fj b n<=fj a n+if p<n then m else 0
 |0,_=>by simp[fj]
 |n+1,h=>by
  have h1:=K6 (n:=n) λj hj=>h j (by omega);have h2:=h n (by omega);simp only[fj];by_cases e:n=p
  . subst e;rw[bA rfl]at h2;rw[aQ (by omega)]at h1;rw[bA (by omega)];omega
  . rw[aQ e]at h2;by_cases e2:p<n
    . rw[bA e2]at h1;rw[bA (by omega)];omega
    . rw[aQ e2]at h1;rw[aQ (by omega)];omega
theorem zY{a:List Int}{p m:Nat}:∀{n:Nat},p<n->m<=(vf a p).natAbs->m<=fj a n
 |n+1,hp,h=>by
  simp only[fj];by_cases e:n=p
  . subst e;omega
  . have:=zY (n:=n) (by omega) h;omega
theorem Nw{a:List Int}{p k m:Nat}:∀{n:Nat},p<n->k<n->k≠p->m<=(vf a p).natAbs->m<=(vf a k).natAbs->2*m<=fj a n
 |n+1,hp,hk,hkp,h1,h2=>by
  simp only[fj];by_cases e:n=p
  . subst e;have:=zY (n:=n) (by omega) h2;omega
  . by_cases e2:n=k
    . subst e2;have:=zY (n:=n) (by omega) h1;omega
    . have:=Nw (n:=n) (by omega) (by omega) hkp h1 h2;omega
theorem RY{a:List Int}{n p k:Nat}(hp:rS a p)(hs:SG n a)(ha:a.length=n)(hk:k<n)(hkp:k≠p)(hk0:vf a k≠0):4*fj (cA a p n a) n<=3*fj a n:=by
 have hpn:p<n:=by have:=hp.1;omega
 have h2:=Nw (a:=a) (p:=p) (k:=k) (m:=(vf a p).natAbs) hpn hk hkp (bQ _) (hp.2.2 k (by omega) hk0);have h1:=K6 (a:=a) (b:=cA a p n a) (p:=p) (m:=(vf a p).natAbs) (n:=n) λj hj=>by
  by_cases e:j=p
  . subst e;rw[mA hj ha,bA rfl];omega
  . rw[aQ e,nL hj ha e];by_cases z:vf a j=0
    . rw[z,xw];simp
    . have hm:=hp.2.2 j (by omega) z;rcases sP hp.2.1 with h0|h0
      . have hs':∀j,j<n->vf a j<=0:=by
         rcases hs with hs|hs
         . have:=hs p hpn;omega
         . exact hs
        have hj0:=hs' j hj;have hf:=Pa (a:=vf a j) h0;generalize(vf a j).fdiv (vf a p)=q at*;have hq:1<=q:=by
         rcases pO q 1 with g|g
         . have:=fp (show q<=0 by omega) (show 0≤-vf a p by omega);simp only[mi]at this;omega
         . exact g
        have:=fp hq (show 0≤-vf a p by omega);simp only[mi]at this;omega
      . have hs':∀j,j<n->0<=vf a j:=by
         rcases hs with hs|hs
         . exact hs
         . have:=hs p hpn;omega
        have hj0:=hs' j hj;have hf:=qM (a:=vf a j) h0;generalize(vf a j).fdiv (vf a p)=q at*;have hq:1<=q:=by
         rcases pO q 1 with g|g
         . have:=fp (show q<=0 by omega) (eK h0);omega
         . exact g
        have:=fp hq (eK h0);omega
 rw[bA hpn]at h1;omega
theorem S6{t S C:Nat}(hS:1<=S)(hC:C<=40000000000)(h:S*4^t<=3^t*C):t<=90:=by
 refine je λhn=>?_;obtain⟨s,rfl⟩:∃s,t=90+s:=⟨t-90,by omega⟩;have h1:3^s<=4^s:=Nat.pow_le_pow_left (by decide) s;have h2:0<3^s:=Nat.pow_pos (by decide);have h3:4^90*3^s<=S*4^(90+s):=by
  rw[Nat.pow_add];have:4^90*3^s<=4^90*4^s:=I7 _ h1;exact bV this (Nat.le_mul_of_pos_left _ hS)
 have h4:3^(90+s)*C<=(3^90*40000000000)*3^s:=by
  rw[Nat.pow_add];have:3^90*3^s*C<=3^90*3^s*40000000000:=I7 _ hC;refine bV this (Nat.le_of_eq ?_);rw[Nat.mul_right_comm]
 have h5:4^90*3^s<=(3^90*40000000000)*3^s:=bV h3 (bV h h4);have h6:=DM h5 h2;revert h6
 decide
open Go Go.X
structure lW (K C:Nat)(s:St)(i p:Nat)(s':St):Prop where
 sim:iQ s s'
 inv:Inv s'
 kn:s'.aA=s.aA
 st:s'.aV=s.aV
 aM:s'.aM=s.aM
 value:s'.value=s.value
 ep:s'.aK=s.aK
 n:s'.n=s.n
 pos:s'.aB.map AI.pos=s.aB.map AI.pos
 pn:p<s.n
 free:vf s.aM p=0
 unit:∀x,s'.aB[i]?=some x->∀j,j<s.n->vf x.g j=if j=p then 1 else 0
 co:∀x∈s'.aB,∀j,j<s.n->j≠p->(vf x.g j).natAbs<=4*(C*C)
 big:∀x∈s'.aB,∀j,j<s.n->(vf x.g j).natAbs<=C+90*(4*(C*C))
 su:SU (K+820) s'
theorem RC{n C:Nat}{a x:List Int}(ha:∀j,j<n->(vf a j).natAbs<=C)(hx:∀j,j<n->(vf x j).natAbs<=C):MB n a x ((2*(C*C):Nat):Int):=by
 intro j hj k hk;have key:∀{y z:Int},y.natAbs<=C->z.natAbs<=C->(y*z).natAbs<=C*C:=λh1 h2=>by rw[Ao];exact kY h1 h2
 have h1:=key (ha j hj) (hx k hk);have h2:=key (ha k hk) (hx j hj);unfold Mi;omega
structure IsoI (K C:Nat)(s:St)(i:Nat)(g:St):Prop where
 sim:iQ s g
 inv:Inv g
 kn:g.aA=s.aA
 st:g.aV=s.aV
 aM:g.aM=s.aM
 value:g.value=s.value
 ep:g.aK=s.aK
 n:g.n=s.n
 pos:g.aB.map AI.pos=s.aB.map AI.pos
 t:∃t a,(g.aB[i]?).map AI.g=some a/\a.length=s.n/\(1<=fj a s.n/\fj a s.n*4^t<=3^t*(2*(s.n*C)))/\SU (K+9*t) g/\(∀j,j<s.n->(vf a j).natAbs<=C)/\
  (∀x∈g.aB,∀j,j<s.n->(vf x.g j).natAbs<=C+t*(4*(C*C)))/\
  ((t=0/\∀x∈g.aB,MB s.n a x.g ((2*(C*C):Nat):Int))\/(SG s.n a/\∀x∈g.aB,MB s.n a x.g ((4*(C*C):Nat):Int)))
theorem tE{s0 s:St}(h:s0.n=s.n):aS.mk s0.to.n s.to.aA s.to.aV s.to.u s.to.aM s.to.value s.to.aB s.to.aK=s.to:=iO (x:=s.to) (by show(s0.n:Int)=s.n;rw[h])
theorem RW{K C:Nat}{s:St}{i:Nat}(hI:Inv s)(hu:SU K s)(hn:s.n<=4)(hil:s.aB.length<=1073741824)(hi:i<s.aB.length)(hC:∀x∈s.aB,∀j,j<s.n->(vf x.g j).natAbs<=C)(hCb:C<=4294967296)(hK8:8<=K)(hK:K+900<=cM):
 Tm (λN=>zr N s.to (i:Int)) (λr=>∃(p:Nat) (s':St),r=((p:Int),s'.to)/\lW K C s i p s'):=by
 have hL:cM=1099511627776:=rfl;unfold zr;have hC2:C*C<=4294967296*4294967296:=kY hCb hCb;have hnC:s.n*C<=4*4294967296:=kY hn hCb;have ha0:s.aB[i]∈s.aB:=dC hi;refine Tm.bind (Q:=λr=>∃(p:Nat) (s':St),r=((p:Int),s'.to)/\lW K C s i p s')
  (Tm.rK (λ(g:St) t=>t=gV g/\IsoI K C s i g) (λg=>fj (((g.aB[i]?).map AI.g).getD []) s.n) s ⟨rfl,iQ.refl s,hI,rfl,rfl,rfl,rfl,rfl,rfl,rfl,?_⟩ ?_) λr hr=>aI hr
 . refine⟨0,(s.aB[i]).g,by rw[cy hi];rfl,(hI.it _ ha0).2,?_,hu,hC _ ha0,λx hx j hj=>by have:=hC x hx j hj;omega,.inl ⟨rfl,λx hx=>RC (hC _ ha0) (hC x hx)⟩⟩;have:=Gg (a:=(s.aB[i]).g) (n:=s.n) (C:=C) (hC _ ha0);refine⟨?_,by rw[Nat.pow_zero];omega⟩;refine je λh=>?_;have h1:=hI.ia _ ha0;have h2:(2:Int)∣((di (s.aB[i]).g:Nat):Int):=oq λv hv=>by
    obtain⟨j,hj,rfl⟩:=gw hv;have:=zY (a:=(s.aB[i]).g) (p:=j) (m:=(vf (s.aB[i]).g j).natAbs) (n:=s.n) (by rw[(hI.it _ ha0).2]at hj;exact hj) (bQ _);have:vf (s.aB[i]).g j=0:=by omega
    rw[this];exact xz 2
   rw[h1]at h2;omega
 . rintro g _ ⟨rfl,hg⟩;obtain⟨t,a,ea,al,hμ,hsu,hac,hX,hM⟩:=hg.t;have hgl:g.aB.length=s.aB.length:=by have:=dd List.length hg.pos;simpa using this
   have hig:i<g.aB.length:=by omega
   have eai:(g.aB[i]).g=a:=by rw[cy hig]at ea;exact jd ea
   have hxm:g.aB[i]∈g.aB:=dC hig;have ht90:t<=90:=S6 hμ.1 (by omega) hμ.2;have ht:t*(4*(C*C))<=90*(4*(C*C)):=qQ _ ht90;have hfit:∀x∈g.aB,kK g.n 8 x.g:=λx hx=>⟨(hg.inv.it x hx).2,λv hv=>by
    obtain⟨j,hj,rfl⟩:=gw hv;have h1:=hX x hx j (by rw[(hg.inv.it x hx).2,hg.n]at hj;exact hj);refine bV (uO (k:=4) ?_) (by decide);have:aD^4=340282366920938463463374607431768211456:=by decide
    omega⟩
   have hnz:∃j,j<(g.aB[i]).g.length/\vf (g.aB[i]).g j≠0:=by
    refine je λh=>?_;have h1:=hg.inv.ia _ hxm;have h2:(2:Int)∣((di (g.aB[i]).g:Nat):Int):=oq λv hv=>by
     obtain⟨j,hj,rfl⟩:=gw hv;have:vf (g.aB[i]).g j=0:=je λe=>h ⟨j,hj,e⟩;rw[this];exact xz 2
    rw[h1]at h2;omega
   show Tm (λN=>Co N s.to (i:Int) (g.to.aA,g.to.aV,g.to.u,g.to.aM,g.to.value,g.to.aB,g.to.aK)) _;unfold Co;refine aJ (a:=(g.aB[i]).to) (by show idx (g.aB.map AI.to) _=_;rw[dt (by simpa using hig),k6]) ?_;refine Tm.bind (SM (x:=g.aB[i]) (by rw[(hg.inv.it _ hxm).2,hg.n];omega) (λv hv=>bV ((hfit _ hxm).2 v hv) (by decide)) hnz) ?_;rintro _ ⟨p,rfl,hp⟩;rw[eai]at hp hnz;have hpn:p<s.n:=by have:=hp.1;omega
   have hpg:p<g.n:=by rw[hg.n];exact hpn
   have hfree:vf g.aM p=0:=by
    refine je λe=>hp.2.1 ?_;rw[<-eai];exact hg.inv.nf _ hxm p hpg e
   have hanf:∀j,j<g.n->vf g.aM j≠0->vf a j=0:=λj hj hst=>by rw[<-eai];exact hg.inv.nf _ hxm j hj hst
   have hr:=QX (s0:=s) (s:=g) (i:=i) (p:=p) hsu (by rw[hg.n];omega) hg.n.symm (by omega) hfit hig hpg (by omega) (by omega) true;rw[eai]at hr;refine Tm.bind hr ?_;rintro _ ⟨c,rfl,hc⟩;dsimp only;rw[XD]at*;have hb:=QJ (s:=g) (a:=a) hpg hfree hanf;have hsim2:=iQ.ch hg.inv hb;have hinv2:=Inv.ch hg.inv hb;have hsu2:SU (K+9*(t+1)) (iP g (cA a p g.n)):=by
    refine⟨⟨by show(g.u.map _).length=_;rw[cS];exact hsu.u.1,λl hl=>?_⟩,hsu.st,⟨hsu.v.1,λv hv=>by have:=hsu.v.2 v hv;omega⟩⟩;obtain⟨w,hw,rfl⟩:=eh.1 hl;have:=Ei (a:=a) (p:=p) (k:=g.n) (hsu.u.2 w hw) (λj=>by rw[<-eai];exact(hfit _ hxm).vf j);exact⟨this.1,λv hv=>by have:=this.2 v hv;omega⟩
   cases c with
   |true=>
    refine cR rfl ?_;have hz:=(hc.1 rfl).2;rw[hg.n]at hz;have hzero:∀j,j<s.n->j≠p->vf a j=0:=hz;have hrow:∀l:List Int,cA a p g.n l=l:=λl=>by
     refine kg qb λj hj=>?_;rw[qb]at hj;unfold cA;rw[db hj];split
     . rename_i h;rw[hzero j (by have:=h.1;rw[hg.n]at this;exact this) h.2,xw];omega
     . rfl
    have hsame:iP g (cA a p g.n)=g:=by
     unfold iP;rw[show cA a p g.n=id from funext hrow];simp
    rw[hsame];have hap:(vf a p).natAbs=1:=by
     have h1:=hg.inv.ia _ hxm;rw[eai]at h1;have h2:vf a p∣((di a:Nat):Int):=oq λv hv=>by
      obtain⟨j,hj,rfl⟩:=gw hv;by_cases e:j=p
      . subst e;exact Int.dvd_refl _
      . rw[hzero j (by omega) e];exact xz _
     rw[h1]at h2;have:=Int.natAbs_dvd_natAbs.2 h2;exact I5 this
    have hco:∀x∈g.aB,∀j,j<s.n->j≠p->(vf x.g j).natAbs<=4*(C*C):=λx hx j hj hjp=>by
     have hm:-((4*(C*C):Nat):Int)<=Mi a x.g p j/\Mi a x.g p j<=((4*(C*C):Nat):Int):=by
      rcases hM with⟨_,hM⟩|⟨_,hM⟩
      . have:=hM x hx p hpn j hj;omega
      . exact hM x hx p hpn j hj
     unfold Mi at hm;rw[hzero j hj hjp,Int.zero_mul,xB]at hm;have:(vf a p*vf x.g j).natAbs=(vf x.g j).natAbs:=by rw[Ao,hap,Ag]
     omega
    have hbg:∀x∈g.aB,∀j,j<s.n->(vf x.g j).natAbs<=C+90*(4*(C*C)):=λx hx j hj=>by have:=hX x hx j hj;omega
    have hgi:idx (mB (g.aB[i]).g) (p:Int)=some (B (vf a p)):=by rw[eai];exact dX (by omega)
    refine aJ hgi (aU (j2 (bV (kD (by omega)) (by decide))) ?_);have hsu3:SU (K+820) g:=⟨⟨hsu.u.1,λr hr=>⟨(hsu.u.2 r hr).1,λv hv=>by have:=(hsu.u.2 r hr).2 v hv;omega⟩⟩,hsu.st,⟨hsu.v.1,λv hv=>by have:=hsu.v.2 v hv;omega⟩⟩;refine Tm.bind (Q:=λr=>∃s',r=gV s'/\lW K C s i p s') (bB (λh0=>?_) (λh0=>aI ⟨g,rfl,?_⟩)) ?_
    . have hneg:vf a p<0:=pv.1 h0;rw[tE hg.n.symm];have hbf:=Ss (s:=g) hpg hfree;refine aU (Uq (K:=K+820) hsu3 (by rw[hg.n];omega) (by omega) (λx hx=>⟨(hfit x hx).1,λv hv=>by have:=(hfit x hx).2 v hv;omega⟩) hpg (by omega)) (aI ⟨flS g p,rfl,?_⟩);rw[Wj];have hvs:∀x∈g.aB,∀j,vf (x.g.set p (-vf x.g p)) j=if p=j then-vf x.g p else vf x.g j:=λx hx j=>iX (by rw[(hg.inv.it x hx).2];exact hpg);refine⟨hg.sim.trans (iQ.ch hg.inv hbf),Inv.ch hg.inv hbf,hg.kn,hg.st,hg.aM,hg.value,hg.ep,hg.n,?_,hpn,by rw[<-hg.aM];exact hfree,λx hx j hj=>?_,λx hx j hj hjp=>?_,λx hx j hj=>?_,?_⟩
      . show(g.aB.map _).map AI.pos=_;rw[nF,<-hg.pos];rfl
      . have hx':(g.aB[i]?).map (λx:AI=>({x with g:=x.g.set p (-vf x.g p)}:AI))=some x:=by rw[<-iA];exact hx
        rw[cy hig]at hx';obtain rfl:=jd hx';show vf ((g.aB[i]).g.set p _) j=_;rw[hvs _ hxm j,eai];by_cases e:p=j
        . subst e;rw[bA rfl,bA rfl];omega
        . rw[aQ e,aQ λh=>e h.symm];exact hzero j hj λh=>e h.symm
      . obtain⟨z,hz',rfl⟩:=eh.1 hx;show(vf (z.g.set p _) j).natAbs<=_;rw[hvs z hz' j,aQ λh=>hjp h.symm];exact hco z hz' j hj hjp
      . obtain⟨z,hz',rfl⟩:=eh.1 hx;show(vf (z.g.set p _) j).natAbs<=_;rw[hvs z hz' j];split
        . have:=hbg z hz' p hpn;omega
        . exact hbg z hz' j hj
      . refine⟨⟨by show(g.u.map _).length=_;rw[cS];exact hsu3.u.1,λl hl=>?_⟩,hsu3.st,hsu3.v⟩;obtain⟨w,hw,rfl⟩:=eh.1 hl;have hw':=hsu3.u.2 w hw;refine⟨by rw[gI];exact hw'.1,λv hv=>?_⟩;rcases qP hv with hv|rfl
        . exact hw'.2 v hv
        . rw[gL];exact hw'.vf p
    . have hpos:¬vf a p<0:=λe=>h0 (pv.2 e);refine⟨hg.sim,hg.inv,hg.kn,hg.st,hg.aM,hg.value,hg.ep,hg.n,hg.pos,hpn,by rw[<-hg.aM];exact hfree,λx hx j hj=>?_,hco,hbg,hsu3⟩;rw[cy hig]at hx;obtain rfl:=jd hx;rw[eai];by_cases e:j=p
      . subst e;rw[bA rfl];omega
      . rw[aQ e];exact hzero j hj e
    . rintro⟨r1,r2,r3,r4,r5,r6,r7⟩ ⟨s',hs',hP⟩;obtain⟨rfl,rfl,rfl,rfl,rfl,rfl,rfl⟩:=by simpa[gV]using hs'
      refine aI ⟨p,s',?_,hP⟩;dsimp only;rw[tE hP.n.symm]
   |false=>
    refine cE (by simp) (aI ?_);have hex:∃k,k<s.n/\k≠p/\vf a k≠0:=je λh=>by
     have:=hc.2 ⟨rfl,λj hj hjp=>je λe=>h ⟨j,by rw[<-hg.n];exact hj,hjp,e⟩⟩;cases this
    obtain⟨k,hk,hkp,hk0⟩:=hex;have hlt:=QZ hp al hk hkp hk0;have hgn:=hg.n;have e1:(((iP g (cA a p g.n)).aB[i]?).map AI.g)=some (cA a p s.n a):=by
     show((g.aB.map _)[i]?).map AI.g=_;rw[iA,cy hig];show some (cA a p g.n (g.aB[i]).g)=_;rw[eai,hgn]
    have e0:((g.aB[i]?).map AI.g)=some a:=ea;have hpos1:1<=fj (cA a p s.n a) s.n:=bV (show 1<=(vf a p).natAbs by have:=hp.2.1;omega) (zY (a:=cA a p s.n a) hpn (by rw[mA hpn al];exact bQ _));refine⟨iP g (cA a p g.n),⟨rfl,hg.sim.trans hsim2,hinv2,hg.kn,hg.st,hg.aM,hg.value,hg.ep,hg.n,?_,t+1,cA a p s.n a,e1,qb.trans al,⟨?_,?_⟩,hsu2,λj hj=>?_,λx hx j hj=>?_,.inr ⟨Tw hp al,λx hx=>?_⟩⟩,?_⟩
    . show(g.aB.map _).map AI.pos=_;rw[nF,<-hg.pos];rfl
    . exact hpos1
    . have hCn:=Gg (a:=a) (n:=s.n) (C:=C) hac;rcases hM with⟨rfl,_⟩|⟨hS,_⟩
      . rw[uY,uY,Nat.pow_zero];omega
      . have h34:=RY hp hS al hk hkp hk0;have h5:4*fj (cA a p s.n a) s.n*4^t<=3*fj a s.n*4^t:=qQ _ h34;have h6:3*(fj a s.n*4^t)<=3*(3^t*(2*(s.n*C))):=I7 _ hμ.2;have e1:fj (cA a p s.n a) s.n*4^(t+1)=4*fj (cA a p s.n a) s.n*4^t:=by rw[uY];grind
        have e2:3*fj a s.n*4^t=3*(fj a s.n*4^t):=by grind
        have e3:3^(t+1)*(2*(s.n*C))=3*(3^t*(2*(s.n*C))):=by rw[uY];grind
        omega
    . by_cases e:j=p
      . subst e;rw[mA hj al];exact hac j hj
      . have:=(pg hp al hj e).1;have:=hac p hpn;omega
    . obtain⟨z,hz',rfl⟩:=eh.1 hx;show(vf (cA a p g.n z.g) j).natAbs<=_;rw[hgn];have hzl:z.g.length=s.n:=(hg.inv.it z hz').2.trans hgn;have hMz:MB s.n a z.g ((4*(C*C):Nat):Int):=by
       rcases hM with⟨_,hM⟩|⟨_,hM⟩
       . intro j hj k hk;have:=hM z hz' j hj k hk;omega
       . exact hM z hz'
      have:=Qt hp al hzl hMz (hX z hz') j hj;rw[iJ];omega
    . obtain⟨z,hz',rfl⟩:=eh.1 hx;show MB s.n (cA a p s.n a) (cA a p g.n z.g) _;rw[hgn];have hzl:z.g.length=s.n:=(hg.inv.it z hz').2.trans hgn;rcases hM with⟨_,hM⟩|⟨hS,hM⟩
      . have:=Wz (M:=((2*(C*C):Nat):Int)) (by omega) hp al hzl (hM z hz');intro j hj k hk;have:=this j hj k hk;omega
      . exact TV hp hS al hzl (hM z hz')
    . show fj ((((iP g (cA a p g.n)).aB[i]?).map AI.g).getD []) s.n<fj (((g.aB[i]?).map AI.g).getD []) s.n;rw[e1,e0];exact hlt
open Go Go.X
structure Bf (n:Nat)(l:List AQ)(s:AS)(q:AQ):Prop where
 d:0<s.d
 dl:dl s.d<=4
 len:s.dc.length<=2
 dc:∀u∈s.dc,u.ix<l.length/\0<=u.n/\D.dl u.n<=4
 dvd:∀j,j<n->s.d∣eQ l s.dc j
 q:q=nX n l s.dc s.d
inductive iH (n:Nat)(base:List AQ):List AS->List AQ->Prop where
 |nil:iH n base [] base
 |snoc {ss:List AS} {l:List AQ} {s:AS} {q:AQ} (h:iH n base ss l) (hs:Bf n l s q):iH n base (ss++[s]) (l++[q])
structure Kept (s s':St):Prop where
 u:s'.u=s.u
 aM:s'.aM=s.aM
 value:s'.value=s.value
 ep:s'.aK=s.aK
 n:s'.n=s.n
 kn:∃e,s'.aA=s.aA++e
theorem Kept.refl(s:St):Kept s s:=⟨rfl,rfl,rfl,rfl,rfl,[],by simp⟩
theorem Kept.trans{a b c:St}(h:Kept a b)(h':Kept b c):Kept a c:=by
 obtain⟨e,he⟩:=h.kn;obtain⟨e',he'⟩:=h'.kn;exact⟨h'.u.trans h.u,h'.aM.trans h.aM,h'.value.trans h.value,h'.ep.trans h.ep,h'.n.trans h.n,e++e',by rw[he',he,jS]⟩
theorem B3(s:St)(g:List Int)(us:List AU):Kept s (put s g us).2:=by
 obtain⟨h1,h2,h3,h4,h5⟩:=U6 s g us;obtain⟨e,he,_⟩:=BZ s g us;exact⟨h1,h2,h3,h4,h5,e,he⟩
theorem Bo(s:St)(x:AI):Kept s (add s x):=⟨rfl,rfl,rfl,rfl,rfl,[],by simp[add]⟩
theorem Ct:∀(L:List Act) (s:St),Kept s (ct s L).2
 |[],s=>Kept.refl s
 |.add x::r,s=>(Bo s x).trans (Ct r _)
 |.put g us::r,s=>by
  unfold ct;split
  . exact(B3 s g us).trans (Ct r _)
  . exact B3 s g us
def kO(K:Nat)(s:St):Act->Prop
 |.add x=>ky s x
 |.put g us=>gX K s g us/\n5 s g us/\dl (dv g)<=4
def Cl(s:St)(y:Nat->Int):Act->Prop
 |.add x=>IH s y x
 |.put g us=>bK (vf g) y s.n<=fN s.aA us
theorem OG{kn e:List AQ}{j:Nat}:∀{us:List AU},(∀u∈us,u.ix<kn.length)->eQ (kn++e) us j=eQ kn us j
 |[],_=>rfl
 |u::us,h=>by
  show _+eQ (kn++e) us j=_;rw[OG λv hv=>h v (cP _ hv),iz (h u cU)];rfl
theorem A5{kn e:List AQ}:∀{us:List AU},(∀u∈us,u.ix<kn.length)->fN (kn++e) us=fN kn us
 |[],_=>rfl
 |u::us,h=>by
  show _+fN (kn++e) us=_;rw[A5 λv hv=>h v (cP _ hv),iz (h u cU)];rfl
theorem ky.kept{s s':St}{x:AI}(h:ky s x)(k:Kept s s'):ky s' x:=by
 obtain⟨e,he⟩:=k.kn;exact⟨by rw[he];have:=h.pos;simp;omega,by rw[k.n];exact h.gl,λj hj=>by rw[k.n]at hj⊢;rw[k.u,he,iz h.pos];exact h.dG j hj,λj hj hst=>by rw[k.n]at hj;rw[k.aM]at hst;exact h.nf j hj hst,h.ia⟩
theorem kO.kept{K:Nat}{s s':St}{a:Act}(h:kO K s a)(k:Kept s s'):kO K s' a:=by
 obtain⟨e,he⟩:=k.kn;cases a with
 |add x=>exact ky.kept h k
 |put g us=>
  obtain⟨h1,h2,h3⟩:=h;have hix:∀u∈us,u.ix<s.aA.length:=λu hu=>(h1.u u hu).1;refine⟨mr.app (a:=.put g us) h1 k.n he,⟨λj hj=>?_,λj hj hst=>?_⟩,h3⟩
  . rw[k.n]at hj;rw[h2.dG j hj];unfold Cf;rw[k.u,k.n,he];congr 1;exact sc λi _=>(OG hix).symm
  . rw[k.n]at hj;rw[k.aM]at hst;exact h2.nf j hj hst
theorem Cl.kept{K:Nat}{s s':St}{a:Act}{y:Nat->Int}(hs:kO K s a)(k:Kept s s'):Cl s' y a↔Cl s y a:=by
 obtain⟨e,he⟩:=k.kn;cases a with
 |add x=>exact zH k.n he (ky.pos hs)
 |put g us=>
  show bK (vf g) y s'.n<=fN s'.aA us↔_;rw[k.n,he,A5 λu hu=>(hs.1.u u hu).1];rfl
theorem L8{K n:Nat}{base:List AQ}{s:St}(h:Inv s){g:List Int}{us:List AU}(hn:n=s.n)(hp:gX K s g us)(hs:n5 s g us)(hd:dl (dv g)<=4)(hD:iH n base s.aV s.aA):iH n base (put s g us).2.aV (put s g us).2.aA:=by
 have e:(put s g us).2.aV=(dst s g us).aV/\(put s g us).2.aA=(dst s g us).aA:=by
  unfold put;dsimp only;split<;>exact⟨rfl,rfl⟩
 rw[e.1,e.2];unfold dst;split
 . refine hD.snoc ⟨qC g,hd,hp.ul,λu hu=>⟨(hp.u u hu).1,(hp.u u hu).2.1,(hp.u u hu).2.2.1⟩,λj hj=>LI h hp.gl hs (by omega),by rw[hn]⟩
 . exact hD
def GB(M:Nat)(g:List Int):Prop:=∀v∈g,v.natAbs<=M
def zm(M:Nat):Act->Prop
 |.add x=>GB M x.g
 |.put g _=>GB M g
theorem RX{M n:Nat}{g:List Int}{d:Int}(hd:0<=d)(h:GB M g):GB M (vec n λj=>vf g j/d):=λv hv=>by
 obtain⟨j,hj,rfl⟩:=gw hv;rw[dN]at hj;rw[db hj];have:=NV (a:=vf g j) (b:=d);rw[j4 _ hd]at this;have h2:(vf g j).natAbs<=M:=by
  rcases cG j g.length with h1|h1
  . exact h _ (gP h1)
  . rw[jA h1];omega
 omega
structure wG (K M:Nat)(s:St)(L:List Act)(ok:Bool)(s':St):Prop where
 kept:Kept s s'
 inv:Inv s'
 imp:ok=true->∀y,(∀z∈s'.aB,IH s' y z)->(∀z∈s.aB,IH s y z)/\∀a∈L,Cl s y a
 bad:ok=false->∃q∈s'.aA,(∀j,j<s.n->vf q.c j=0)/\q.b<0
 il:s'.aB.length<=s.aB.length+L.length
 kl:s'.aA.length<=s.aA.length+L.length
 sl:s'.aV.length<=s.aV.length+L.length
 gb:∀z∈s'.aB,GB M z.g
 jb:∀base,iH s.n base s.aV s.aA->iH s.n base s'.aV s'.aA
theorem qc{K M:Nat}:∀(L:List Act) (s:St),Inv s->(∀a∈L,kO K s a)->(∀z∈s.aB,GB M z.g)->(∀a∈L,zm M a)->wG K M s L (ct s L).1 (ct s L).2
 |[],s,hI,_,hg,_=>⟨Kept.refl s,hI,λ_ y hy=>⟨hy,λa ha=>(by cases ha)⟩,λh=>(by cases h),bQ _,bQ _,bQ _,hg,λ_ h=>h⟩
 |.add x::r,s,hI,hA,hg,hB=>by
  have hx:ky s x:=hA _ cU;have k:=Bo s x;have hg':∀z∈(add s x).aB,GB M z.g:=λz hz=>(mb hz).elim (λe=>by subst e;exact hB _ cU) (hg z);have h:=qc r (add s x) (hI.add hx) (λa ha=>(hA a (cP _ ha)).kept k) hg' λa ha=>hB a (cP _ ha);have hl:=wF (kn:=s.aA) (x:=x) (l:=s.aB);refine⟨k.trans h.kept,h.inv,λhok y hy=>?_,h.bad,?_,?_,?_,h.gb,h.jb⟩
  . obtain⟨h1,h2⟩:=h.imp hok y hy;obtain⟨g1,g2⟩:=Bz (s:=s) (x:=x) (y:=y) (l:=s.aB) h1;refine⟨g1,λa ha=>?_⟩;rcases eJ.1 ha with rfl|ha
    . exact g2
    . exact(Cl.kept (hA a (cP _ ha)) k).1 (h2 a ha)
  . have:=h.il;have:(add s x).aB.length<=s.aB.length+1:=hl.2;simp only[cN];show(ct (add s x) r).2.aB.length<=_;omega
  . have:=h.kl;have:(add s x).aA.length=s.aA.length:=rfl;simp only[cN];show(ct (add s x) r).2.aA.length<=_;omega
  . have:=h.sl;have:(add s x).aV.length=s.aV.length:=rfl;simp only[cN];show(ct (add s x) r).2.aV.length<=_;omega
 |.put g us::r,s,hI,hA,hg,hB=>by
  obtain⟨hp,hs,hd⟩:gX K s g us/\n5 s g us/\dl (dv g)<=4:=hA _ cU;have k:=B3 s g us;have hgb:GB M g:=hB (.put g us) cU;have hg':∀z∈(put s g us).2.aB,GB M z.g:=λz hz=>by
   have hi:=MD s g us;unfold put at hz;dsimp only at hz;split at hz
   . rcases mb hz with e|hz
     . subst e;exact RX (eK (qC g)) hgb
     . rw[hi]at hz;exact hg z hz
   . rw[hi]at hz;exact hg z hz
  have hkl:(put s g us).2.aA.length<=s.aA.length+1:=by
   obtain⟨e,he,hel⟩:=BZ s g us;rw[he];simp;omega
  have hsl:(put s g us).2.aV.length<=s.aV.length+1:=by
   have:(put s g us).2.aV=(dst s g us).aV:=by unfold put;dsimp only;split<;>rfl
   rw[this];unfold dst;split<;>simp
  have hil:(put s g us).2.aB.length<=s.aB.length+1:=by
   have hi:=MD s g us;unfold put;dsimp only;split
   . have:=wF (kn:=(dst s g us).aA) (x:=kC s g us) (l:=(dst s g us).aB);show(eG _ _ _).length<=_;rw[hi]at this⊢;exact this.2
   . rw[hi];omega
  by_cases hok:(put s g us).1=true
  . have h:=qc r (put s g us).2 (hI.put hp hs) (λa ha=>(hA a (cP _ ha)).kept k) hg' λa ha=>hB a (cP _ ha);have e:ct s (.put g us::r)=ct (put s g us).2 r:=by show(if _ then _ else _)=_;rw[bA hok]
    rw[e];refine⟨k.trans h.kept,h.inv,λhok' y hy=>?_,λhb=>by have:=h.bad hb;rwa[k.n]at this,?_,?_,?_,h.gb,λbase hD=>?_⟩
    . obtain⟨h1,h2⟩:=h.imp hok' y hy;obtain⟨g1,g2⟩:=Xe hI hp hs hok h1;refine⟨g1,λa ha=>?_⟩;rcases eJ.1 ha with rfl|ha
      . exact g2
      . exact(Cl.kept (hA a (cP _ ha)) k).1 (h2 a ha)
    . have:=h.il;simp only[cN];omega
    . have:=h.kl;simp only[cN];omega
    . have:=h.sl;simp only[cN];omega
    . have:=h.jb base (by rw[k.n];exact L8 hI rfl hp hs hd hD);rwa[k.n]at this
  . have e:ct s (.put g us::r)=(false,(put s g us).2):=by show(if _ then _ else _)=_;rw[aQ hok]
    rw[e];refine⟨k,hI.put hp hs,λh=>(by cases h),λ_=>WT hI hp hs (by simpa using hok),?_,?_,?_,hg',λbase hD=>L8 hI rfl hp hs hd hD⟩
    . simp only[cN];omega
    . simp only[cN];omega
    . simp only[cN];omega
open Go Go.X
def bE(s:St)(k:Nat):AI:=s.aB.getD k ⟨0,[]⟩
theorem jc{s:St}{k:Nat}(h:k<s.aB.length):bE s k=s.aB[k]:=by unfold bE;rw[cL,cy h];rfl
theorem eU{s:St}{k:Nat}(h:k<s.aB.length):bE s k∈s.aB:=by rw[jc h];exact dC h
theorem tP{s:St}{k:Nat}(h:k<s.aB.length):idx s.to.aB (k:Int)=some (bE s k).to:=by
 show idx (s.aB.map AI.to) _=_;rw[dt (by simpa using h),k6,jc h]
def eu(s:St)(i p:Nat):St:={s with aM:=s.aM.set p 1,value:=s.value.set p (aG s.aA (bE s i).pos).b,aB:=[]}
def ju(s:St)(i j p k:Nat):List Act:= if k=i\/k=j then[]else if vf (bE s k).g p=0 then[.add (bE s k)] else[.put ((bE s k).g.set p 0) [⟨(bE s k).pos,1⟩,if vf (bE s k).g p<0 then⟨(bE s i).pos,-vf (bE s k).g p⟩else⟨(bE s j).pos,vf (bE s k).g p⟩]]
def ez(s:St)(i j p k:Nat):List Act:=((List.range s.aB.length).drop k).flatMap (ju s i j p)
theorem NK{s:St}{i j p k:Nat}(h:k<s.aB.length):ez s i j p k=ju s i j p k++ez s i j p (k+1):=by
 unfold ez;rw[gn (by simpa using h),D8,PU]
theorem Mo{s:St}{i j p:Nat}:ez s i j p s.aB.length=[]:=by unfold ez;rw[D1 (by simp)];rfl
theorem Mm{s:St}{i j p k:Nat}:(ju s i j p k).length<=1:=by unfold ju;(repeat' split)<;>simp
theorem Hb{s:St}{i j p:Nat}:∀(m k:Nat),k+m=s.aB.length->(ez s i j p k).length<=m
  | 0, k, h => by obtain rfl : k = s.aB.length := by omega
                  rw[Mo];simp
  |m+1,k,h=>by
    rw[NK (s:=s) (by omega),dL];have:=Hb (s:=s) (i:=i) (j:=j) (p:=p) m (k+1) (by omega);have:=Mm (s:=s) (i:=i) (j:=j) (p:=p) (k:=k);omega
theorem Lc{s:St}{i j p:Nat}{a:Act}(h:a∈ez s i j p 0):∃k,k<s.aB.length/\k≠i/\k≠j/\ju s i j p k=[a]:=by
 unfold ez at h;rw[mf,uZ]at h;obtain⟨k,hk,ha⟩:=h;have hk:k<s.aB.length:=by simpa using hk
 have hl:=Mm (s:=s) (i:=i) (j:=j) (p:=p) (k:=k);refine⟨k,hk,?_,?_,?_⟩
 . rintro rfl;unfold ju at ha;simp at ha
 . rintro rfl;unfold ju at ha;simp at ha
 . match he:ju s i j p k,hl,ha with
   |[b],_,ha=>rw[df.1 ha]
   |[],_,ha=>cases ha
theorem vY{s:St}{i j p k:Nat}(hk:k<s.aB.length){a:Act}(h:a∈ju s i j p k):a∈ez s i j p 0:=by
 unfold ez;rw[mf,uZ];exact⟨k,by simpa using hk,h⟩
theorem Ra{l:List Int}{p n:Nat}{y:Nat->Int}(hl:l.length=n)(hp:p<n):bK (vf (l.set p 0)) y n=bK (vf l) y n-vf l p*y p:=by
  have h:=uy (f:=y) (y:=vf l) (z:=0) (v:=p) hp;rw[kU (f:=vf l),kU (f:=vf (l.set p 0))]
  rw [ed (f := y) (f' := y) (g := vf (l.set p 0)) (g' := cX (vf l) p 0) (λ_ _ => rfl) (λj hj => by rw [iX (by omega)]; unfold cX; by_cases e : p = j
                                                                                                   . rw[bA e,bA e.symm]
                                                                                                   . rw[aQ e,aQ λh=>e h.symm]),h]
  grind
section
variable {K C Kk:Nat} {s s1:St} {i j p:Nat}
structure oK (s:St)(i j:Nat):Prop where
 il:i<s.aB.length
 jl:j<s.aB.length
 ne:i≠j
 g:∀k,k<s.n->vf (bE s j).g k=-vf (bE s i).g k
 b:(aG s.aA (bE s i).pos).b+(aG s.aA (bE s j).pos).b=0
theorem kQ(h:lW K C s i p s1)(k:Nat)(hk:k<s.aB.length):k<s1.aB.length/\(bE s1 k).pos=(bE s k).pos:=by
 have hl:s1.aB.length=s.aB.length:=by have:=dd List.length h.pos;simpa using this
 have hk1:k<s1.aB.length:=by omega
 refine⟨hk1,?_⟩;rw[jc hk1,jc hk];have:=dd (λl:List Nat=>l[k]?) h.pos;simp only[iA,cy hk1,cy hk,pL,uT]at this;exact this
theorem ED(h:lW K C s i p s1):s1.aB.length=s.aB.length:=by have:=dd List.length h.pos;simpa using this
theorem vA(h:lW K C s i p s1)(he:oK s i j):∀k,k<s.n->vf (bE s1 i).g k=if k=p then 1 else 0:=by
 have hi:=(kQ h i he.il).1;exact h.unit _ (by rw[cy hi,jc hi])
theorem yZ(hI:Inv s)(h:lW K C s i p s1)(he:oK s i j):∀k,k<s.n->vf (bE s1 j).g k=if k=p then-1 else 0:=by
 intro k hk;obtain⟨hj,hjp⟩:=kQ h j he.jl;obtain⟨hi,hip⟩:=kQ h i he.il;obtain⟨w,hw⟩:=hI.j1;have hc:∀m,m<s.n->vf (aG s.aA (bE s j).pos).c m=0+-1*vf (aG s.aA (bE s i).pos).c m:=λm hm=>by
  rw[vj hw hm,vj hw hm,<-qe,D4];refine ed (λr hr=>?_) λ_ _=>rfl;rw[<-hI.dG _ (eU he.jl) r hr,<-hI.dG _ (eU he.il) r hr,he.g r hr];omega
 have h1:=h.inv.dG _ (eU hj) k (by rw[h.n];exact hk);have h2:=h.inv.dG _ (eU hi) k (by rw[h.n];exact hk);rw[hjp,h.kn,h.n]at h1;rw[hip,h.kn,h.n]at h2;have h3:cu s1.u s.n (aG s.aA (bE s j).pos).c k=-1*cu s1.u s.n (aG s.aA (bE s i).pos).c k:=zW λm hm=>by rw[hc m hm];omega
 rw[h1,h3,<-h2,vA h he k hk];split<;>omega
theorem RA{C:Nat}(hC:C<=4294967296):C+90*(4*(C*C))<340282366920938463463374607431768211456:=by
 have h1:C*C<=4294967296*4294967296:=kY hC hC;omega
theorem A3{v:Int}(h:v.natAbs<340282366920938463463374607431768211456):dl v<=4:=uO (by
 have:aD^4=340282366920938463463374607431768211456:=by decide
 omega)
theorem CZ(hn:s.n<=4)(hC:C<=4294967296)(h:lW K C s i p s1){x:AI}(hx:x∈s1.aB):∀v∈x.g,dl v<=4:=λv hv=>by
 obtain⟨k,hk,rfl⟩:=gw hv;have:=h.big x hx k (by rw[(h.inv.it x hx).2,h.n]at hk;exact hk);exact A3 (DV this (RA hC))
theorem GZ(hI:Inv s)(hs:ig Kk s)(hn:s.n<=4)(hC:C<=4294967296)(h:lW K C s i p s1)(he:oK s i j):
 ∀a∈ez s1 i j p 0,(mr Kk (eu s1 i p) a/\zm (4*(C*C)) a)/\kO Kk (eu s1 i p) a:=by
 intro a ha;obtain⟨k,hk,hki,hkj,hke⟩:=Lc ha;have hkm:=eU hk;obtain⟨k1,k2⟩:=h.inv.it _ hkm;have hp1:p<s1.n:=by rw[h.n];exact h.pn
 have hn1:=h.n;have hvs:∀m,vf ((bE s1 k).g.set p 0) m=if p=m then 0 else vf (bE s1 k).g m:=λm=>iX (by omega);have hstat:∀m,m<s1.n->vf (s1.aM.set p 1) m≠0->m=p\/vf s1.aM m≠0:=λm hm hst=>by
  rw[iX (by rw[h.inv.gB];exact hp1)]at hst;by_cases e:p=m
  . exact .inl e.symm
  . rw[aQ e]at hst;exact .inr hst
 unfold ju at hke;rw[aQ (by omega)]at hke;split at hke
 . rename_i hc;obtain rfl:=(sN hke).1;refine⟨⟨⟨k1,k2,λv hv=>bV (CZ hn hC h hkm v hv) (by decide)⟩,λv hv=>?_⟩,⟨k1,k2,h.inv.dG _ hkm,λm hm hst=>?_,h.inv.ia _ hkm⟩⟩
   . obtain⟨m,hm,rfl⟩:=gw hv;by_cases e:m=p
     . subst e;rw[hc];simp
     . exact h.co _ hkm m (by omega) e
   . rcases hstat m hm hst with rfl|hst
     . exact hc
     . exact h.inv.nf _ hkm m hm hst
 . rename_i hc;obtain rfl:=(sN hke).1;obtain⟨hi,hip⟩:=kQ h i he.il;obtain⟨hj,hjp⟩:=kQ h j he.jl;have hkn:(eu s1 i p).aA=s.aA:=h.kn;have hq:∀m,m<s1.aB.length->np s1.n Kk s1.aA ⟨(bE s1 m).pos,1⟩:=λm hm=>by
    have h1:=(h.inv.it _ (eU hm)).1;have h2:=hs.k (aG s1.aA (bE s1 m).pos) (by rw[<-h.kn];exact eW h1);exact⟨h1,I4 1,bV kE (by decide),h2.1,h2.2.trans h.n.symm⟩
   have hcdl:dl (vf (bE s1 k).g p)<=4:=CZ hn hC h hkm _ (gP (by omega));have hu2:np s1.n Kk s1.aA (if vf (bE s1 k).g p<0 then⟨(bE s1 i).pos,-vf (bE s1 k).g p⟩else⟨(bE s1 j).pos,vf (bE s1 k).g p⟩):=by
    split
    . obtain⟨g1,g2,g3,g4,g5⟩:=hq i hi;exact⟨g1,by dsimp only;omega,by dsimp only;rw[gL];exact hcdl,g4,g5⟩
    . obtain⟨g1,g2,g3,g4,g5⟩:=hq j hj;exact⟨g1,by dsimp only;omega,hcdl,g4,g5⟩
   have hg8:∀v∈(bE s1 k).g.set p 0,dl v<=8:=λv hv=>by
    rcases qP hv with hv|rfl
    . exact bV (CZ hn hC h hkm v hv) (by decide)
    . rw[fw];omega
   have hP:gX Kk (eu s1 i p) ((bE s1 k).g.set p 0) [⟨(bE s1 k).pos,1⟩,if vf (bE s1 k).g p<0 then⟨(bE s1 i).pos,-vf (bE s1 k).g p⟩else⟨(bE s1 j).pos,vf (bE s1 k).g p⟩]:=
    ⟨by rw[gI];exact k2,hg8,by simp,by simp,λu hu=>by
     rcases eJ.1 hu with rfl|hu
     . exact hq k hk
     . rw[df.1 hu];exact hu2⟩
   have hgb:GB (4*(C*C)) ((bE s1 k).g.set p 0):=λv hv=>by
    obtain⟨m,hm,rfl⟩:=gw hv;rw[gI]at hm;rw[hvs m];split
    . simp
    . rename_i e;exact h.co _ hkm m (by omega) λe'=>e e'.symm
   refine⟨⟨hP,hgb⟩,hP,⟨λm hm=>?_,λm hm hst=>?_⟩,?_⟩
   . have hm:m<s1.n:=hm;rw[hvs m];have hup:=vA h he m (by omega);have hdn:=yZ hI h he m (by omega);have r0:=h.inv.dG _ hkm m hm;have r1:=h.inv.dG _ (eU hi) m hm;have r2:=h.inv.dG _ (eU hj) m hm;show _=cu s1.u s1.n (vec s1.n (eQ s1.aA _)) m;by_cases hneg:vf (bE s1 k).g p<0
     . rw[bA hneg];have e:cu s1.u s1.n (vec s1.n (eQ s1.aA [⟨(bE s1 k).pos,1⟩,⟨(bE s1 i).pos,-vf (bE s1 k).g p⟩])) m=cu s1.u s1.n (aG s1.aA (bE s1 k).pos).c m+(-vf (bE s1 k).g p)*cu s1.u s1.n (aG s1.aA (bE s1 i).pos).c m:=AD λr hr=>by
        rw[db hr];show 1*_+(_+0)=_;dsimp only;omega
       rw[e,<-r0,<-r1,hup];by_cases e2:p=m
       . subst e2;rw[bA rfl,bA rfl];omega
       . rw[aQ e2,aQ λh=>e2 h.symm];omega
     . rw[aQ hneg];have e:cu s1.u s1.n (vec s1.n (eQ s1.aA [⟨(bE s1 k).pos,1⟩,⟨(bE s1 j).pos,vf (bE s1 k).g p⟩])) m=cu s1.u s1.n (aG s1.aA (bE s1 k).pos).c m+(vf (bE s1 k).g p)*cu s1.u s1.n (aG s1.aA (bE s1 j).pos).c m:=AD λr hr=>by
        rw[db hr];show 1*_+(_+0)=_;dsimp only;omega
       rw[e,<-r0,<-r2,hdn];by_cases e2:p=m
       . subst e2;rw[bA rfl,bA rfl];omega
       . rw[aQ e2,aQ λh=>e2 h.symm];omega
   . have hm:m<s1.n:=hm;rw[hvs m];rcases hstat m hm hst with rfl|hst
     . rw[bA rfl]
     . split
       . rfl
       . exact h.inv.nf _ hkm m hm hst
   . unfold dv;split
     . exact bV kE (by decide)
     . exact wY λv hv=>by
        have:=hgb v hv;refine A3 (DV this ?_);have h1:C*C<=4294967296*4294967296:=kY hC hC;omega
theorem Lr(hI:Inv s)(h:lW K C s i p s1):Inv (eu s1 i p)where
 ul:=h.inv.ul
 gB:=by show(s1.aM.set p 1).length=_;rw[gI];exact h.inv.gB
 vl:=by show(s1.value.set p _).length=_;rw[gI];exact h.inv.vl
 kl:=h.inv.kl
 it x hx:=by cases hx
 dG x hx:=by cases hx
 nf x hx:=by cases hx
 ia x hx:=by cases hx
 kr:=List.Pairwise.nil
 j1:=h.inv.j1
 stat m hm:=by
  show vf (s1.aM.set p 1) m=0\/vf (s1.aM.set p 1) m=1\/vf (s1.aM.set p 1) m=2;rw[iX (by rw[h.inv.gB,h.n];exact h.pn)];split
  . exact .inr (.inl rfl)
  . exact h.inv.stat m hm
 sv e he:=by
  obtain⟨e1,e2,e3⟩:=h.inv.sv e he;refine⟨e1,?_,e3⟩;show vf (s1.aM.set p 1) e.v=2;rw[iX (by rw[h.inv.gB,h.n];exact h.pn),aQ]
  . exact e2
  . intro e';have:=h.free;rw[h.aM]at e2;rw[e',e2]at this;omega
 s2 m hm hst:=by
  have hst:vf (s1.aM.set p 1) m=2:=hst;rw[iX (by rw[h.inv.gB,h.n];exact h.pn)]at hst;split at hst
  . omega
  . exact h.inv.s2 m hm hst
 sd:=h.inv.sd
theorem ND(hI:Inv s)(h:lW K C s i p s1)(he:oK s i j){M:Nat}{s3:St}(hA:wG Kk M (eu s1 i p) (ez s1 i j p 0) true s3)(hL:∀a∈ez s1 i j p 0,kO Kk (eu s1 i p) a):iQ s s3:=by
 refine h.sim.trans ?_;have hp1:p<s1.n:=by rw[h.n];exact h.pn
 obtain⟨e,hek⟩:=hA.kept.kn;have hst:∀m,vf s3.aM m=if p=m then 1 else vf s1.aM m:=λm=>by
  rw[hA.kept.aM];exact iX (by rw[h.inv.gB];exact hp1)
 have hva:∀m,vf s3.value m=if p=m then(aG s1.aA (bE s1 i).pos).b else vf s1.value m:=λm=>by
  rw[hA.kept.value];exact iX (by rw[h.inv.vl];exact hp1)
 have hfree:vf s1.aM p=0:=by rw[h.aM];exact h.free
 have hn3:s3.n=s1.n:=hA.kept.n;have hux:∀y i,ux s3 y i=ux s1 y i:=λy i=>by unfold ux;rw[hA.kept.u,hn3];rfl
 refine⟨hn3,⟨e,hek⟩,⟨[],by rw[hA.kept.ep];simp[eu]⟩,λm hm hs=>?_,λy=>⟨y,λi _=>hux y i,λ_ _ _=>rfl,λk hk ⟨h1,h2,h3⟩=>?_⟩⟩
 . have hpm:p≠m:=λe=>hs (by rw[<-e];exact hfree);exact⟨by rw[hst,aQ hpm],λ_=>by rw[hva,aQ hpm],λi _=>by rw[hA.kept.u];rfl⟩
 . obtain⟨_,hcl⟩:=hA.imp rfl y h2;have hyp:y p=(aG s1.aA (bE s1 i).pos).b:=by
    have:=h1 p (by rw[hn3];exact hp1) (by rw[hst,bA rfl]);rw[hva,bA rfl]at this;exact this
   obtain⟨hi,hip⟩:=kQ h i he.il;obtain⟨hj,hjp⟩:=kQ h j he.jl;have hbj:(aG s1.aA (bE s1 j).pos).b=-(aG s1.aA (bE s1 i).pos).b:=by
    have:=he.b;rw[hjp,hip,h.kn];omega
   refine⟨λm hm hs=>?_,λx hx=>?_,λe' he' q hq=>?_⟩
   . have hpm:p≠m:=λe=>by rw[<-e,hfree]at hs;omega
     have:=h1 m (by rw[hn3];exact hm) (by rw[hst,aQ hpm];exact hs);rw[hva,aQ hpm]at this;exact this
   . obtain⟨k',hk',rfl⟩:=lL hx;rw[<-jc hk'];unfold IH;by_cases e1:k'=i
     . subst e1;rw[mW hp1 λm hm hmp=>by rw[vA h he m (by rw[<-h.n];exact hm),aQ hmp],vA h he p h.pn,bA rfl,hyp];omega
     by_cases e2:k'=j
     . subst e2;rw[mW hp1 λm hm hmp=>by rw[yZ hI h he m (by rw[<-h.n];exact hm),aQ hmp],yZ hI h he p h.pn,bA rfl,hyp,hbj];omega
     by_cases hc:vf (bE s1 k').g p=0
     . have:=hcl (.add (bE s1 k')) (vY hk' (by unfold ju;rw[aQ (by omega),bA hc];simp));exact this
     . have:=hcl _ (vY (a:=.put ((bE s1 k').g.set p 0) [⟨(bE s1 k').pos,1⟩,if vf (bE s1 k').g p<0 then⟨(bE s1 i).pos,-vf (bE s1 k').g p⟩else⟨(bE s1 j).pos,vf (bE s1 k').g p⟩]) hk' (by unfold ju;rw[aQ (by omega),aQ hc];simp));have this:bK (vf ((bE s1 k').g.set p 0)) y s1.n<=1*(aG s1.aA (bE s1 k').pos).b+(_+0):=this;rw[Ra (h.inv.it _ (eU hk')).2 hp1,hyp]at this;generalize hcv:vf (bE s1 k').g p=c at*;by_cases hneg:c<0
       . rw[bA hneg]at this;dsimp only at this;rw[show(eu s1 i p).aA=s1.aA from rfl,show-c*(aG s1.aA (bE s1 i).pos).b=-(c*(aG s1.aA (bE s1 i).pos).b) by rw[mh]]at this;omega
       . rw[aQ hneg]at this;dsimp only at this;rw[show(eu s1 i p).aA=s1.aA from rfl,hbj,show c*-(aG s1.aA (bE s1 i).pos).b=-(c*(aG s1.aA (bE s1 i).pos).b) by rw[mi]]at this;omega
   . have h4:=h3 e' (by rw[hA.kept.ep];exact he') q hq;exact(tR hn3 hek ((h.inv.sv e' (II he')).2.2 q hq) λi _=>hux y i).1 h4
end
end Go.D
set_option maxHeartbeats 1000000
namespace Go.D
open Go Go.X
theorem xQ{l:List Int}{k:Nat}(h:k<l.length):idx l (k:Int)=some (vf l k):=by rw[dt h,px h]
theorem Ki{K C Kk:Nat}{s:St}{i j:Nat}(hI:Inv s)(hs:ig Kk s)(hu:SU K s)(hn:s.n<=4)(he:oK s i j)(hC:∀x∈s.aB,∀k,k<s.n->(vf x.g k).natAbs<=C)(hCb:C<=4294967296)(hK8:8<=K)(hK:K+900<=cM)
 (hkl:s.aA.length+s.aB.length<=1073741824)(hsl:s.aV.length+s.aB.length<=1073741824)(hKk:Kk+6<=1099511627000):
 Tm (λN=>pA N s.to (i:Int) (j:Int)) (λr=>∃(p:Nat) (s1:St),lW K C s i p s1/\r=((ct (eu s1 i p) (ez s1 i j p 0)).1,(ct (eu s1 i p) (ez s1 i j p 0)).2.to)):=by
 have hL:cM=1099511627776:=rfl;have hil:=hs.il;unfold pA;refine Tm.bind (RW hI hu hn hs.il he.il hC hCb hK8 hK) ?_;rintro _ ⟨p,s1,rfl,hP⟩;obtain⟨hi,hip⟩:=kQ hP i he.il;obtain⟨hj,hjp⟩:=kQ hP j he.jl;have hn1:=hP.n;have hlen:=ED hP;have hp1:p<s1.n:=by rw[hP.n];exact hP.pn
 have hkn:=hP.kn;dsimp only;refine aJ (tP hi) (aJ (tP hj) ?_);rw[tE hn1.symm];refine aU (uf (hP.inv.it _ (eU hi)).1) ?_;refine aJ (xQ (l:=s1.aM) (by rw[hP.inv.gB];exact hp1)) (aJ (eH (xs:=s1.aM) rfl (by rw[hP.inv.gB];exact hp1)) ?_);refine aJ (dX (l:=s1.value) (by rw[hP.inv.vl];exact hp1)) (aJ (eH (xs:=mB s1.value) rfl (by rw[dF,hP.inv.vl];exact hp1)) ?_);have hok2:ig (Kk+6) (eu s1 i p):=⟨by show s1.n<=_;omega,by show s1.aA.length<=_;rw[hkn];exact hs.kl,by show s1.aV.length<=_;rw[hP.st];exact hs.sl,by simp[eu],λq hq=>by
  have hq:q∈s1.aA:=hq;rw[hkn]at hq;exact⟨(hs.k q hq).1.mono (by omega),by rw[(hs.k q hq).2];exact hn1.symm⟩,λx hx=>(by cases hx),hKk⟩
 have hLl:=Hb (s:=s1) (i:=i) (j:=j) (p:=p) s1.aB.length 0 (by omega);have hroom:j3 (ez s1 i j p 0).length (eu s1 i p):=⟨by show s1.aA.length+_<=_;rw[hkn];omega,by show s1.aV.length+_<=_;rw[hP.st];omega,by show 0+_<=_;omega⟩;have hA:=GZ hI hs hn hCb hP he;have hmi:s1.to.aB.length=s1.aB.length:=cS ..;refine Tm.bind (Q:=λr=>(∃s',r=.inl (gV s')/\ct (eu s1 i p) (ez s1 i j p 0)=(true,s')/\s'.n=s1.n)\/r=.inr ((ct (eu s1 i p) (ez s1 i j p 0)).1,(ct (eu s1 i p) (ez s1 i j p 0)).2.to))
  (eE s1.aB.length (λk t=>∃s' k',jq (Kk+6) (eu s1 i p) (ez s1 i j p 0) k' s'/\(ez s1 i j p 0).drop k'=ez s1 i j p k/\t=(s'.to.aA,s'.to.aV,s'.to.u,s'.to.aM,s'.to.value,s'.to.aB,s'.to.aK,(k:Int))) ⟨eu s1 i p,0,jq.first hok2 hroom,rfl,?_⟩ ?_) ?_
 . show(s1.to.aA,s1.to.aV,s1.to.u,s1.aM.set p 1,(mB s1.value).set p _,[],s1.to.aK,(0:Int))=_;rw[tK];rfl
 . rintro k hk _ ⟨s',k',hv,hd,rfl⟩;dsimp only[Hi];refine bB (λhlt=>?_) (λhge=>aI ?_)
   . have hlt:k<s1.aB.length:=by omega
     have hstp:=NK (i:=i) (j:=j) (p:=p) hlt;have hxg:=(hP.inv.it _ (eU hlt)).2;have hcd:dl (vf (bE s1 k).g p)<=4:=CZ hn hCb hP (eU hlt) _ (gP (by omega));have hns:s.to.n=s'.to.n:=by show(s.n:Int)=s'.n;rw[hv.n];show(s.n:Int)=s1.n;rw[hn1]
     refine Tm.bind (Q:=λr=>(∃s'' k'',r=.inl (gV s'')/\jq (Kk+6) (eu s1 i p) (ez s1 i j p 0) k'' s''/\(ez s1 i j p 0).drop k''=ez s1 i j p (k+1))\/r=.inr ((ct (eu s1 i p) (ez s1 i j p 0)).1,(ct (eu s1 i p) (ez s1 i j p 0)).2.to)) (aJ (tP hlt) (Tm.bind (Q:=λc=>c=decide (k=i\/k=j)) (bB (λh=>aI ?_) (λh=>aI ?_)) ?_)) ?_
     . rw[jg];omega
     . apply decide_eq_decide.2;omega
     . rintro _ rfl;refine bB (λh=>aI (.inl ⟨s',k',rfl,hv,?_⟩)) (λh=>?_)
       . rw[hd,hstp];unfold ju;rw[bA (jf h)];rfl
       have hne:¬(k=i\/k=j):=λe=>h (jg e);refine aJ (dX (l:=(bE s1 k).g) (by omega)) (aU (j2 (by omega)) (bB (λh0=>?_) (λh0=>?_)))
       . have h0:vf (bE s1 k).g p=0:=je λe=>qj.2 e h0;have ha:ju s1 i j p k=[.add (bE s1 k)]:=by unfold ju;rw[aQ hne,bA h0]
         rw[ha]at hstp;have hk'l:k'<(ez s1 i j p 0).length:=by
          rcases cG k' (ez s1 i j p 0).length with h1|h1
          . exact h1
          . rw[D1 h1,hstp]at hd;cases hd
         rw[gn hk'l,hstp]at hd;obtain⟨hd1,hd2⟩:=sN hd;obtain⟨g1,g2⟩:=hv.add hk'l hd1 (K0:=Kk) (hA _ (vY hlt (by rw[ha];simp))).1.1;rw[iO (x:=s'.to) hns];refine aU (w7 hv.ok g1) (aI (.inl ⟨add s' (bE s1 k),k'+1,rfl,g2,hd2⟩))
       . have h0:vf (bE s1 k).g p≠0:=qj.1 h0;refine aU (Bu (by omega)) (aJ (dX (l:=(bE s1 k).g) (by omega)) (aJ (eH (xs:=mB (bE s1 k).g) rfl (by rw[dF];omega)) (aU (j2 (by omega)) ?_)));have hset:(mB (bE s1 k).g).set p ⟨false,[]⟩=mB ((bE s1 k).g.set p 0):=by rw[<-tK,B0]
         rw[hset];have ha:ju s1 i j p k=[.put ((bE s1 k).g.set p 0) [⟨(bE s1 k).pos,1⟩,if vf (bE s1 k).g p<0 then⟨(bE s1 i).pos,-vf (bE s1 k).g p⟩else⟨(bE s1 j).pos,vf (bE s1 k).g p⟩]]:=by unfold ju;rw[aQ hne,aQ h0]
         refine aU (a:=(if vf (bE s1 k).g p<0 then(⟨(bE s1 i).pos,-vf (bE s1 k).g p⟩:AU)else⟨(bE s1 j).pos,vf (bE s1 k).g p⟩).to) (bB (λh1=>?_) (λh1=>aI ?_)) ?_
         . rw[bA (pv.1 h1)];exact aU (oR (by omega)) (aI rfl)
         . rw[aQ λe=>h1 (pv.2 e)];rfl
         rw[ha]at hstp;have hk'l:k'<(ez s1 i j p 0).length:=by
          rcases cG k' (ez s1 i j p 0).length with h1|h1
          . exact h1
          . rw[D1 h1,hstp]at hd;cases hd
         rw[gn hk'l,hstp]at hd;obtain⟨hd1,hd2⟩:=sN hd;obtain⟨g1,g2,g3,g4⟩:=hv.put hk'l hd1 (K0:=Kk) (hA _ (vY hlt (by rw[ha];simp))).1.1 (by omega);refine aU (kR (by decide) (by decide)) ?_;rw[iO (x:=s'.to) hns];refine aU g1 ?_;have hns2:s.to.n=(put s' ((bE s1 k).g.set p 0) [⟨(bE s1 k).pos,1⟩,if vf (bE s1 k).g p<0 then⟨(bE s1 i).pos,-vf (bE s1 k).g p⟩else⟨(bE s1 j).pos,vf (bE s1 k).g p⟩]).2.to.n:=by
          show(s.n:Int)=((put s' _ _).2.n:Int);rw[g4];show(s.n:Int)=s1.n;rw[hn1]
         refine bB (λhf=>aI (.inr ?_)) (λht=>aI (.inl ⟨_,k'+1,rfl,g2 (by simpa using ht),hd2⟩));dsimp only;rw[iO hns2,g3 (by simpa using hf)]
     . rintro r (⟨s'',k'',rfl,h1,h2⟩|rfl)
       . exact aI ⟨hlt,s'',k'',h1,h2,by rw[dV (by omega)]⟩
       . exact aI (.inr rfl)
   . have:k=s1.aB.length:=by omega
     subst this;rw[Mo]at hd;refine .inl ⟨s',rfl,?_,hv.n⟩;rw[hv.run,hd];rfl
 . rintro r (⟨s',rfl,h1,h2⟩|rfl)
   . refine aI ⟨p,s1,hP,?_⟩;show(true,aS.mk s.to.n s'.to.aA s'.to.aV s'.to.u s'.to.aM s'.to.value s'.to.aB s'.to.aK)=_;rw[tE (h2.trans hn1).symm,h1]
   . exact aI ⟨p,s1,hP,rfl⟩
theorem HH{K V:Type}[DecidableEq K]{k k':K}{v z:V}:∀{m:List (K×V)},gh (lE m k v) k' z=if k=k' then(v,true)else gh m k' z
 |[]=>by simp only[lE,gh]
 |p::m=>by
  simp only[lE];by_cases e:p.1=k
  . rw[bA e];simp only[gh];by_cases e2:k=k'
    . rw[bA e2,bA e2]
    . rw[aQ e2,aQ e2,aQ (by rw[e];exact e2)]
  . rw[aQ e];simp only[gh];by_cases e2:p.1=k'
    . rw[bA e2];by_cases e3:k=k'
      . exact bX (e2.trans e3.symm) e
      . rw[aQ e3,bA e2]
    . rw[aQ e2,HH];by_cases e3:k=k'
      . rw[bA e3,bA e3]
      . rw[aQ e3,aQ e3,aQ e2]
inductive v7 (K:Nat)(s:St):Int×Int×Bool×Bool×aS->Prop where
 |none (h:∀i j,i<s.aB.length->j<s.aB.length->(∀k,k<s.n->vf (bE s j).g k=-vf (bE s i).g k)->0<(aG s.aA (bE s i).pos).b+(aG s.aA (bE s j).pos).b):v7 K s (0,0,false,true,s.to)
 |some (i j:Nat) (h:oK s i j):v7 K s (i,j,true,true,s.to)
 |bad (s':St) (L:List Act) (hL:∀a∈L,kO K s a) (hO:∀a∈L,mr K s a) (hB:∀a∈L,zm 0 a) (hl:L.length<=1) (hb:ct s L=(false,s')):v7 K s (0,0,false,false,s'.to)
theorem vN{n:Nat}:(List.replicate n (0:Int))=vec n λ_=>0:=by
 apply oD (by simp[vec]);intro i h1 h2;simp[vec]
theorem Jz:∀m,di (List.replicate m (0:Int))=0
 |0=>rfl
 |m+1=>by rw[Ah];show Int.gcd 0 (di _:Nat)=0;rw[Jz m];rfl
theorem RI{Kk:Nat}{s:St}(hI:Inv s)(hKq:∀q∈s.aA,gu Kk q){k o:Nat}(hlt:k<s.aB.length)(ho:o<s.aB.length)(hog:(bE s o).g=bW (bE s k).g)(hlt0:(aG s.aA (bE s k).pos).b+(aG s.aA (bE s o).pos).b<0):
 kO Kk s (.put (List.replicate s.n 0) [⟨(bE s k).pos,1⟩,⟨(bE s o).pos,1⟩])/\ct s [.put (List.replicate s.n 0) [⟨(bE s k).pos,1⟩,⟨(bE s o).pos,1⟩]]=(false,(put s (List.replicate s.n 0) [⟨(bE s k).pos,1⟩,⟨(bE s o).pos,1⟩]).2):=by
 have hUO:∀m,m<s.aB.length->np s.n Kk s.aA ⟨(bE s m).pos,1⟩:=λm hm=>by
  have h1:=(hI.it _ (eU hm)).1;exact⟨h1,I4 1,bV kE (by decide),hKq _ (eW h1),hI.kl _ (eW h1)⟩
 have hP:gX Kk s (List.replicate s.n 0) [⟨(bE s k).pos,1⟩,⟨(bE s o).pos,1⟩]:=⟨by simp,λv hv=>by rw[(Ak.1 hv).2,fw];omega,by simp,by simp,λu hu=>by
  rcases eJ.1 hu with rfl|hu
  . exact hUO k hlt
  . rw[df.1 hu];exact hUO o ho⟩
 have hz:∀j,j<s.n->vf (List.replicate s.n (0:Int)) j=0:=λj hj=>by rw[vN,db hj]
 have hgc:di (List.replicate s.n (0:Int))=0:=Jz _;have hdv:dv (List.replicate s.n (0:Int))=1:=by unfold dv;rw[bA hgc]
 have hPS:n5 s (List.replicate s.n 0) [⟨(bE s k).pos,1⟩,⟨(bE s o).pos,1⟩]:=⟨λj hj=>by
  rw[hz j hj];have e:Cf s [⟨(bE s k).pos,1⟩,⟨(bE s o).pos,1⟩] j=cu s.u s.n (aG s.aA (bE s k).pos).c j+1*cu s.u s.n (aG s.aA (bE s o).pos).c j:=AD λr hr=>by
   rw[db hr];show 1*_+(1*_+0)=_;dsimp only;omega
  rw[e,<-hI.dG _ (eU hlt) j hj,<-hI.dG _ (eU ho) j hj,hog,gr];omega,λj hj _=>hz j hj⟩
 have hdok:(put s (List.replicate s.n 0) [⟨(bE s k).pos,1⟩,⟨(bE s o).pos,1⟩]).1=false:=by
  show ot s _ _=false;unfold ot;rw[Hg hP,hdv,hgc];have:fN s.aA [⟨(bE s k).pos,1⟩,⟨(bE s o).pos,1⟩]=(aG s.aA (bE s k).pos).b+(aG s.aA (bE s o).pos).b:=by
   show 1*_+(1*_+0)=_;dsimp only;omega
  rw[this];simp;omega
 refine⟨⟨hP,hPS,by rw[hdv];exact bV kE (by decide)⟩,?_⟩;show(if _ then _ else _)=_;rw[aQ (by rw[hdok];simp)]
theorem NL{K Kk:Nat}{s:St}(hI:Inv s)(hs:ig K s)(hK:Kk+6<=K)(hKq:∀q∈s.aA,gu Kk q)(hr:j3 1 s):Tm (λN=>rG N s.to) (v7 Kk s):=by
 have hL:cM=1099511627776:=rfl;have hil:=hs.il;have hKK:=hs.K;have hn:=hs.n;have hmi:s.to.aB.length=s.aB.length:=cS ..;have hgl:∀k,k<s.aB.length->(bE s k).g.length=s.n:=λk hk=>(hI.it _ (eU hk)).2;have hgd:∀k,k<s.aB.length->∀v∈(bE s k).g,dl v<=8:=λk hk=>(hs.i _ (eU hk)).2.2;have hdis:∀i j,i<s.aB.length->j<s.aB.length->(bE s i).g=(bE s j).g->i=j:=λi j hi hj e=>by
  have:=Ar.1 hI.kr;rcases An i j with h|h|h
  . exact bX (by rw[<-jc hi,<-jc hj];exact e) (this i j hi hj h)
  . exact h
  . exact bX (by rw[<-jc hi,<-jc hj];exact e.symm) (this j i hj hi h)
 unfold rG;refine Tm.bind (Q:=λm=>(∀k,k<s.aB.length->gh m (keyOf (bE s k).g) (0:Int)=((k:Int),true))/\∀t:List UInt8,(∀k,k<s.aB.length->keyOf (bE s k).g≠t)->gh m t (0:Int)=(0,false)) (eE s.aB.length (λk t=>t.2=(k:Int)/\(∀j,j<k->gh t.1 (keyOf (bE s j).g) (0:Int)=((j:Int),true))/\∀u:List UInt8,(∀j,j<k->keyOf (bE s j).g≠u)->gh t.1 u (0:Int)=(0,false)) ⟨rfl,λj hj=>by omega,λu _=>rfl⟩ ?_) ?_
 . rintro k hk ⟨m,i⟩ ⟨rfl,h1,h2⟩;dsimp only at h1 h2;dsimp only[Hn];refine bB (λhlt=>?_) (λhge=>aI ?_)
   . have hlt:k<s.aB.length:=by omega
     refine aJ (tP hlt) (aU (Oz (g:=(bE s k).g) (by rw[hgl k hlt];omega) (λv hv=>bV (hgd k hlt v hv) (by decide))) (aI ⟨hlt,dV (by omega),λj hj=>?_,λu hu=>?_⟩))
     . dsimp only;rw[HH];by_cases e:k=j
       . subst e;rw[bA rfl]
       . rw[aQ,h1 j (by omega)];intro e2;exact e (hdis k j hlt (by omega) (LP (by rw[hgl k hlt,hgl j (by omega)]) e2))
     . dsimp only;rw[HH,aQ (hu k (by omega)),h2 u λj hj=>hu j (by omega)]
   . have:k=s.aB.length:=by omega
     subst this;exact⟨h1,h2⟩
 rintro m ⟨m1,m2⟩;dsimp only;have hopp:∀k,k<s.aB.length->(∃o,o<s.aB.length/\(bE s o).g=bW (bE s k).g/\gh m (keyOf (bW (bE s k).g)) (0:Int)=((o:Int),true))\/((∀o,o<s.aB.length->(bE s o).g≠bW (bE s k).g)/\gh m (keyOf (bW (bE s k).g)) (0:Int)=(0,false)):=λk hk=>by
  by_cases h:∃o,o<s.aB.length/\(bE s o).g=bW (bE s k).g
  . obtain⟨o,ho,he⟩:=h;exact .inl ⟨o,ho,he,by rw[<-he];exact m1 o ho⟩
  . have h':∀o,o<s.aB.length->(bE s o).g≠bW (bE s k).g:=λo ho e=>h ⟨o,ho,e⟩;refine .inr ⟨h',m2 _ λo ho e=>h' o ho (LP (by rw[hgl o ho,iF,hgl k hk]) e)⟩
 have hbd:∀k,k<s.aB.length->dl (aG s.aA (bE s k).pos).b<=Kk:=λk hk=>(hKq _ (eW (hI.it _ (eU hk)).1)).2;refine Tm.bind (Q:=λr=>(r=.inl ()/\∀k o,k<s.aB.length->o<s.aB.length->k<=o->(bE s o).g=bW (bE s k).g->0<(aG s.aA (bE s k).pos).b+(aG s.aA (bE s o).pos).b)\/∃z,r=.inr z/\v7 Kk s z)
  (eE s.aB.length (λk t=>t=(k:Int)/\∀k' o,k'<k->o<s.aB.length->k'<=o->(bE s o).g=bW (bE s k').g->0<(aG s.aA (bE s k').pos).b+(aG s.aA (bE s o).pos).b) ⟨rfl,λk' o h=>by omega⟩ ?_) ?_
 . rintro k hk _ ⟨rfl,hp⟩;dsimp only[Gt];refine bB (λhlt=>?_) (λhge=>aI (.inl ⟨rfl,λk' o h1=>hp k' o (by omega)⟩));have hlt:k<s.aB.length:=by omega
   have hng:∀v∈bW (bE s k).g,dl v<=8:=λv hv=>by rw[<-gL];exact hgd k hlt _ (Db hv)
   refine Tm.bind (Q:=λr=>(r=.inl ()/\∀o,o<s.aB.length->k<=o->(bE s o).g=bW (bE s k).g->0<(aG s.aA (bE s k).pos).b+(aG s.aA (bE s o).pos).b)\/∃z,r=.inr z/\v7 Kk s z)
    (aJ (tP hlt) (aU (tW (l:=(bE s k).g) (K:=8) (by omega) (by rw[hgl k hlt];omega) (hgd k hlt)) (aU (Oz (g:=bW (bE s k).g) (by rw[iF,hgl k hlt];omega) (λv hv=>bV (hng v hv) (by decide))) ?_))) ?_
   . rcases hopp k hlt with⟨o,ho,hog,hom⟩|⟨hno,hom⟩
     . rw[hom];dsimp only;refine Tm.bind (Q:=λc=>c=decide ((o:Int)<(k:Int))) (cE (by simp) (aI rfl)) ?_;rintro _ rfl;refine bB (λhlt'=>aI (.inl ⟨rfl,λo' ho' hko hg=>?_⟩)) (λhlt'=>?_)
       . have:o'=o:=hdis o' o ho' ho (hg.trans hog.symm);have:=jf hlt';omega
       . have hko:k<=o:=by
          have:¬((o:Int)<(k:Int)):=λe=>hlt' (jg e);omega
         have b1:=hbd k hlt;have b2:=hbd o ho;refine aU (uf (hI.it _ (eU hlt)).1) (aJ (tP ho) (aU (uf (hI.it _ (eU ho)).1) (aU (ox (by omega) (by omega)) (aU (j2 (bV (pV b1 b2) (by omega))) ?_))));refine bB (λhs1=>?_) (λhs1=>bB (λhs2=>aI (.inr ⟨_,rfl,?_⟩)) (λhs2=>aI (.inl ⟨rfl,λo' ho' _ hg=>?_⟩)))
         . 
           have hlt0:(aG s.aA (bE s k).pos).b+(aG s.aA (bE s o).pos).b<0:=pv.1 (by omega);obtain⟨hP,hb⟩:=RI hI hKq hlt ho hog hlt0;refine aJ (iu (n:=s.n) rfl (by omega) (by decide)) (aU (kR (by decide) (by decide)) (aJ (tP ho) (aU (kR (by decide) (by decide)) ?_)));rw[<-nh];have hput:=K8 hs hP.1 hK hr;refine aU hput (aI (.inr ⟨_,rfl,?_⟩));dsimp only;rw[iO (by show(s.n:Int)=((put s _ _).2.n:Int);rw[AF])];exact .bad _ [.put (List.replicate s.n 0) [⟨(bE s k).pos,1⟩,⟨(bE s o).pos,1⟩]] (λa ha=>by rw[df.1 ha];exact hP) (λa ha=>by rw[df.1 ha];exact hP.1) (λa ha=>by rw[df.1 ha];exact λv hv=>by rw[(Ak.1 hv).2];simp) (by simp) hb
         . refine .some k o ⟨hlt,ho,λe=>?_,λm hm=>by rw[hog,gr],?_⟩
           . subst e;have h1:=hI.ia _ (eU hlt);have h2:(2:Int)∣((di (bE s k).g:Nat):Int):=oq λv hv=>by
              obtain⟨m,hm,rfl⟩:=gw hv;have:=dd (λl=>vf l m) hog;simp only[gr]at this;have:vf (bE s k).g m=0:=by omega
              rw[this];exact xz 2
             rw[h1]at h2;omega
           . exact je λe=>qj.2 e hs2
         . have:o'=o:=hdis o' o ho' ho (hg.trans hog.symm);subst this;revert hs1 hs2;unfold bZ;(repeat' split)<;>omega
     . rw[hom];refine Tm.bind (Q:=λc=>c=true) (cR (by simp) (aI rfl)) ?_;rintro _ rfl;exact cR rfl (aI (.inl ⟨rfl,λo ho _ hg=>bX hg (hno o ho)⟩))
   . rintro r (⟨rfl,h⟩|⟨z,rfl,hz⟩)
     . refine aI ⟨hlt,dV (by omega),λk' o h1 h2 h3 h4=>?_⟩;rcases cG k' k with h5|h5
       . exact hp k' o h5 h2 h3 h4
       . obtain rfl:k'=k:=by omega
         exact h o h2 h3 h4
     . exact aI (.inr ⟨z,rfl,hz⟩)
 . rintro r (⟨rfl,h⟩|⟨z,rfl,hz⟩)
   . refine aI (.none λi j hi hj hg=>?_);have hg1:(bE s j).g=bW (bE s i).g:=kg (by rw[iF,hgl i hi,hgl j hj]) λk hk=>by rw[gr];exact hg k (by rw[hgl j hj]at hk;exact hk)
     rcases Nat.le_total i j with h1|h1
     . exact h i j hi hj h1 hg1
     . have:=h j i hj hi h1 (by rw[hg1,sE]);omega
   . exact aI hz
open Go Go.X
def HX(N:Nat)(s:aS)(v:Int):((List bD)×(List bD)×Int)->Option (aH ((List bD)×(List bD)×Int) ((List bD)×(List bD)))
 |(a,b,c)=>(if(c:Int)<(List.length s.aB:Int)then ((((idx s.aB c).bind λd=>(idx d.g v).bind λf=>(im N f).bind λe=>(if(e:Int)=1 then (cY 32 a [d]).bind λi=>some (i,b) else (if(e:Int)=(-1)then (cY 32 b [d]).bind λj=>some (a,j) else some (a,b)))):Option ((List bD)×(List bD)))).bind λss=>match ss with
    |(k,l)=>some (aH.next (k,l,(iw (c+1)))) else some (aH.done (a,b)))
def uA(N:Nat)(s:aS)(v:Int):Option ((List bD)×(List bD)):=(bO (HX N s v) N (([]:(List bD)),([]:(List bD)),0)).bind λss=>match ss with
  |(a,b)=>some (a,b)
def Kz(N:Nat)(s:aS)(v:Int):((List bD)×(List bD)×Int)->Option (aH ((List bD)×(List bD)×Int) ((List bD)×(List bD)))
 |(a,b,c)=>(if(c:Int)<(List.length s.aB:Int)then ((((idx s.aB c).bind λd=>(idx d.g v).bind λf=>(im N f).bind λe=>(if(e:Int)=1 then (cY 32 a [d]).bind λi=>some (i,b) else (if(e:Int)=(-1)then (cY 32 b [d]).bind λj=>some (a,j) else some (a,b)))):Option ((List bD)×(List bD)))).bind λss=>match ss with
    |(k,l)=>some (aH.next (k,l,(iw (c+1)))) else some (aH.done (a,b)))
def tx(N:Nat)(s:aS)(v:Int):Option ((List bD)×(List bD)):=(bO (Kz N s v) N (([]:(List bD)),([]:(List bD)),0)).bind λss=>match ss with
  |(a,b)=>some (a,b)
def Ij(N:Nat)(v:Int)(r1:((List bD)×(List bD))):(aC×Int)->Option (aH (aC×Int) aC)
 |(a,b)=>(if(b:Int)<(List.length r1.2:Int)then ((((idx r1.2 b).bind λd=>(qg N v d r1.1).bind λc=>(im N c).bind λe=>(if(e:Int)≥0 then (gF N 1000).bind λf=>(jK N c f).bind λg=>(lj N a g).bind λi=>some i else some a)):Option aC)).bind λss=>match ss with
    |j=>some (aH.next (j,(iw (b+1)))) else some (aH.done a))
def yv(N:Nat)(s:aS)(v:Int):Option (aC×Bool):=(uA N s v).bind λr1=>(if((iw ((List.length r1.1:Int)+(List.length r1.2:Int))):Int)=0 then some ((aC.mk false ([]:(List Int))),false) else ((((if((List.length r1.1:Int):Int)=0 then some true else some (decide (((List.length r1.2:Int):Int)=0)))):Option Bool)).bind λss=>match ss with
   |x7=>(if x7=true then some ((aC.mk false ([]:(List Int))),true) else (gF N (iw ((List.length r1.1:Int)*(List.length r1.2:Int)))).bind λa=>(bO (Ij N v r1) N (a,0)).bind λss=>match ss with
      |b=>some (b,true)))
def GX(N:Nat)(s:aS):(Int×Bool×aC×Int)->Option (aH (Int×Bool×aC×Int) (Int×Bool))
 |(c,b,d,a)=>(if(a:Int)<s.n then ((((idx s.aM a).bind λf=>(if(f:Int)≠0 then some (c,b,d) else (yv N s a).bind λe=>((((if e.2=true then (if(!b)=true then some true else (jx N e.1 d).bind λg=>some (decide ((g:Int)<0))) else some false)):Option Bool)).bind λss=>match ss with
     |i=>(if i=true then some (a,true,e.1) else some (c,b,d)))):Option (Int×Bool×aC))).bind λss=>match ss with
    |(j,k,l)=>some (aH.next (j,k,l,(iw (a+1)))) else some (aH.done (c,b)))
def vR(N:Nat)(s:aS):Option (Int×Bool):=(bO (GX N s) N (0,false,(aC.mk false ([]:(List Int))),0)).bind λss=>match ss with
  |(a,b)=>some (a,b)
def vd(N:Nat)(s:aS)(v:Int):Option Bool:=(uA N s v).bind λr1=>(if((List.length r1.1:Int):Int)=0 then some true else (AO N r1.2 (λy0=>wP N y0 v r1.1)).bind λr5=>some (!r5))
def Ha(N:Nat)(r2:(List bD)):((List Int)×Int)->Option (aH ((List Int)×Int) (List Int))
 |(b,a)=>(if(a:Int)<(List.length r2:Int)then (idx r2 a).bind λc=>(cY 8 b [c.pos]).bind λd=>some (aH.next (d,(iw (a+1)))) else some (aH.done b))
def AP(N:Nat)(c:(List aC))(d:bD)(e:aC)(f:bD)(i:aC):((List aC)×Int)->Option (aH ((List aC)×Int) (List aC))
 |(b,a)=>(if(a:Int)<(List.length c:Int)then (idx d.g a).bind λj=>(lj N e j).bind λk=>(idx f.g a).bind λl=>(lj N i l).bind λm=>(jK N k m).bind λn=>(idx b a).bind λp=>(dw b a n).bind λo=>some (aH.next (o,(iw (a+1)))) else some (aH.done b))
def Hw(N:Nat)(s:aS)(v:Int)(r1:((List bD)×(List bD)))(b:bD):((List bI)×(List Step)×(List (List aC))×(List Int)×(List aC)×(List bD)×(List dW)×Int)->Option (aH ((List bI)×(List Step)×(List (List aC))×(List Int)×(List aC)×(List bD)×(List dW)×Int) (Sum ((List bI)×(List Step)×(List (List aC))×(List Int)×(List aC)×(List bD)×(List dW)) (Bool×aS)))
 |(e,f,i,j,k,l,m,c)=>(if(c:Int)<(List.length r1.2:Int)then (idx r1.2 c).bind λd=>(idx b.g v).bind λo=>(idx d.g v).bind λa0=>(jZ N a0).bind λp=>(fZ (α:=aC) 32 (aC.mk false ([]:(List Int))) s.n).bind λy=>(bO (AP N y b p d o) N (y,0)).bind λss=>match ss with
    |a1=>(nP N (aS.mk s.n e f i j k l m) a1 [(eF.mk b.pos p),(eF.mk d.pos o)]).bind λa=>(if(!a.1)=true then some (aH.done (Sum.inr (false,(aS.mk s.n a.2.aA a.2.aV a.2.u a.2.aM a.2.value a.2.aB a.2.aK)))) else some (aH.next (a.2.aA,a.2.aV,a.2.u,a.2.aM,a.2.value,a.2.aB,a.2.aK,(iw (c+1))))) else some (aH.done (Sum.inl (e,f,i,j,k,l,m))))
def Fh(N:Nat)(s:aS)(v:Int)(r1:((List bD)×(List bD))):((List bI)×(List Step)×(List (List aC))×(List Int)×(List aC)×(List bD)×(List dW)×Int)->Option (aH ((List bI)×(List Step)×(List (List aC))×(List Int)×(List aC)×(List bD)×(List dW)×Int) (Sum ((List bI)×(List Step)×(List (List aC))×(List Int)×(List aC)×(List bD)×(List dW)) (Bool×aS)))
 |(b,c,d,e,f,g,i,a)=>(if(a:Int)<(List.length r1.1:Int)then (idx r1.1 a).bind λj=>(bO (Hw N s v r1 j) N (b,c,d,e,f,g,i,0)).bind λss=>match ss with
    |(Sum.inl (k,l,m,n,o,p,u))=>some (aH.next (k,l,m,n,o,p,u,(iw (a+1))))
    |(Sum.inr z)=>some (aH.done (Sum.inr z)) else some (aH.done (Sum.inl (b,c,d,e,f,g,i))))
def oL(N:Nat)(s:aS)(v:Int)(dT:Bool):Option (Bool×aS):=(uA N s v).bind λr1=>(vZ N [r1.1,r1.2]).bind λr2=>(bO (Ha N r2) N (([]:(List Int)),0)).bind λss=>match ss with
  |a=>(cY 40 s.aK [(dW.mk v a dT)]).bind λb=>(idx s.aM v).bind λo=>(dw s.aM v 2).bind λc=>(sf N s.aB).bind λd=>(yP N d (λy0=>wi N y0 v)).bind λe=>(bO (Fh N s v r1) N (s.aA,s.aV,s.u,c,s.value,e,b,0)).bind λss=>match ss with
    |(Sum.inl (f,g,i,j,k,l,m))=>some (true,(aS.mk s.n f g i j k l m))
    |(Sum.inr z)=>some z
def HL(N:Nat)(s:aS)(j:Int)(x1:bI):(aC×Int)->Option (aH (aC×Int) aC)
 |(b,a)=>(if(a:Int)<(List.length x1.bG:Int)then (idx x1.bG a).bind λc=>(idx s.u a).bind λd=>(idx d j).bind λe=>(lj N c e).bind λf=>(jK N b f).bind λg=>some (aH.next (g,(iw (a+1)))) else some (aH.done b))
def vL(N:Nat)(s:aS)(vat1:Int)(j:Int):Option aC:=(idx s.aA vat1).bind λx1=>(bO (HL N s j x1) N ((aC.mk false ([]:(List Int))),0)).bind λss=>match ss with
  |a=>some a
def BV(N:Nat)(s:aS)(e:dW)(y:(List aC))(c:Int):(aC×Int)->Option (aH (aC×Int) aC)
 |(b,a)=>(if(a:Int)<(List.length y:Int)then ((((if(a:Int)≠e.v then (vL N s c a).bind λd=>(idx y a).bind λf=>(lj N d f).bind λg=>(jL N b g).bind λi=>some i else some b)):Option aC)).bind λss=>match ss with
    |j=>some (aH.next (j,(iw (a+1)))) else some (aH.done b))
def Hz(N:Nat)(s:aS)(e:dW)(y:(List aC)):(aC×aC×Bool×Bool×Int)->Option (aH (aC×aC×Bool×Bool×Int) (aC×aC×Bool×Bool))
 |(a,b,c,d,f)=>(if(f:Int)<(List.length e.aB:Int)then ((((idx e.aB f).bind λg=>(idx s.aA g).bind λm=>(bO (BV N s e y g) N (m.dS,0)).bind λss=>match ss with
    |j=>(vL N s g e.v).bind λi=>(im N i).bind λn=>(if(n:Int)>0 then (lO N j i).bind λk=>((((if(!d)=true then some true else (jx N k.1 b).bind λo=>some (decide ((o:Int)<0)))):Option Bool)).bind λss=>match ss with
       |p=>(if p=true then some (a,k.1,c,true) else some (a,b,c,d)) else (jZ N i).bind λu=>(lO N j u).bind λa0=>(jZ N a0.1).bind λl=>((((if(!c)=true then some true else (jx N l a).bind λa1=>some (decide ((a1:Int)>0)))):Option Bool)).bind λss=>match ss with
       |a2=>(if a2=true then some (l,b,true,d) else some (a,b,c,d)))):Option (aC×aC×Bool×Bool))).bind λss=>match ss with
    |(a3,a4,a5,a6)=>some (aH.next (a3,a4,a5,a6,(iw (f+1)))) else some (aH.done (a,b,c,d)))
def pF(N:Nat)(s:aS)(e:dW)(y:(List aC)):Option (aC×Bool):=(bO (Hz N s e y) N ((aC.mk false ([]:(List Int))),(aC.mk false ([]:(List Int))),false,false,0)).bind λss=>match ss with
  |(a,b,c,d)=>(if(!c)=true then some (b,true) else (if(!d)=true then some (a,true) else (jx N a b).bind λf=>some (a,(decide ((f:Int)<=0)))))
def km(N:Nat)(s:aS):Option cD:= some (cD.mk 1 ([]:(List aC)) (Proof.mk s.aV ([]:(List aC)) (aC.mk false ([]:(List Int))) ([]:(List Proof))) 0)
def Fm(N:Nat)(n:Int):((List (List aC))×Int)->Option (aH ((List (List aC))×Int) (List (List aC)))
 |(b,a)=>(if(a:Int)<n then (fZ (α:=aC) 32 (aC.mk false ([]:(List Int))) n).bind λc=>(gF N 1).bind λd=>(idx c a).bind λg=>(dw c a d).bind λe=>(cY 24 b [e]).bind λf=>some (aH.next (f,(iw (a+1)))) else some (aH.done b))
def xe(N:Nat)(n:Int)(system:(List bI)):Option aS:=(DC N system).bind λr1=>(fZ (α:=Int) 8 0 n).bind λx2=>(fZ (α:=aC) 32 (aC.mk false ([]:(List Int))) n).bind λx3=>(bO (Fm N n) N (([]:(List (List aC))),0)).bind λss=>match ss with
  |a=>some (aS.mk n r1 ([]:(List Step)) a x2 x3 ([]:(List bD)) ([]:(List dW)))
def ry(N:Nat)(s:aS):Option aS:=(Bd N s.aA).bind λr1=>(G5 N s.aV).bind λr2=>(A9 N s.u).bind λr3=>(BT N s.aM).bind λr4=>(pI N s.value).bind λr5=>(sf N s.aB).bind λr6=>(E8 N s.aK).bind λr7=>some (aS.mk s.n r1 r2 r3 r4 r5 r6 r7)
def ov(N:Nat)(s:aS)(q:bI):Option aS:=(ry N s).bind λr1=>(cY 56 r1.aA [q]).bind λx2=>some (aS.mk r1.n x2 ([]:(List Step)) r1.u r1.aM r1.value r1.aB r1.aK)
def sq(N:Nat)(s:aS)(form:(List aC))(bound:aC)(left:cD)(right:cD):Option cD:= some (cD.mk 1 ([]:(List aC)) (Proof.mk s.aV form bound [left.proof,right.proof]) 0)
def H6(N:Nat)(v:Int)(r1:((List bD)×(List bD))):(aC×Int)->Option (aH (aC×Int) aC)
 |(a,b)=>(if(b:Int)<(List.length r1.2:Int)then ((((idx r1.2 b).bind λd=>(qg N v d r1.1).bind λc=>(im N c).bind λe=>(if(e:Int)≥0 then (gF N 1).bind λf=>(jK N c f).bind λg=>(jK N a g).bind λi=>some i else some a)):Option aC)).bind λss=>match ss with
    |j=>some (aH.next (j,(iw (b+1)))) else some (aH.done a))
def zQ(N:Nat)(s:aS)(v:Int):Option aC:=(tx N s v).bind λr1=>(bO (H6 N v r1) N ((aC.mk false ([]:(List Int))),0)).bind λss=>match ss with
  |a=>some a
def FO(N:Nat)(s:aS)(e:(Int×Bool))(f:bD):(iD×Bool×Int)->Option (aH (iD×Bool×Int) (iD×Bool))
 |(a,b,c)=>(if(c:Int)<(List.length s.aB:Int)then ((((idx s.aB c).bind λd=>(wS N d).bind λi=>((((if(!i.2)=true then some true else (if(i.1:Int)≠e.1 then some true else (idx d.g e.1).bind λl=>(im N l).bind λm=>some (decide ((m:Int)>0))))):Option Bool)).bind λss=>match ss with
    |n=>(if n=true then some (a,b) else (yq N s d).bind λo=>(jZ N o).bind λj=>(yq N s f).bind λk=>((((if(!b)=true then some true else (jL N k j).bind λp=>(jL N a.high a.low).bind λu=>(jx N p u).bind λv=>some (decide ((v:Int)<0)))):Option Bool)).bind λss=>match ss with
       |y=>(if y=true then some ((iD.mk f j k),true) else some (a,b)))):Option (iD×Bool))).bind λss=>match ss with
    |(a0,a1)=>some (aH.next (a0,a1,(iw (c+1)))) else some (aH.done (a,b)))
def HR(N:Nat)(s:aS):(iD×Bool×Int)->Option (aH (iD×Bool×Int) (iD×Bool))
 |(a,b,c)=>(if(c:Int)<(List.length s.aB:Int)then ((((idx s.aB c).bind λd=>(wS N d).bind λe=>((((if(!e.2)=true then some true else (idx d.g e.1).bind λf=>(im N f).bind λi=>some (decide ((i:Int)<0)))):Option Bool)).bind λss=>match ss with
    |j=>(if j=true then some (a,b) else (bO (FO N s e d) N (a,b,0)).bind λss=>match ss with
       |(k,l)=>some (k,l))):Option (iD×Bool))).bind λss=>match ss with
    |(m,n)=>some (aH.next (m,n,(iw (c+1)))) else some (aH.done (a,b)))
def xN(N:Nat)(s:aS):Option (iD×Bool):=(bO (HR N s) N ((iD.mk (bD.mk 0 ([]:(List aC))) (aC.mk false ([]:(List Int))) (aC.mk false ([]:(List Int)))),false,0)).bind λss=>match ss with
  |(a,b)=>some (a,b)
end Go.D
namespace Go.D
open Go Go.X
def cT(v:Nat)(l:List AI):List AI:=l.filter λx=>decide (0<vf x.g v)
def dQ(v:Nat)(l:List AI):List AI:=l.filter λx=>decide (vf x.g v<0)
theorem lG{v:Nat}{l:List AI}{x:AI}:x∈cT v l↔x∈l/\0<vf x.g v:=by simp[cT]
theorem iT{v:Nat}{l:List AI}{x:AI}:x∈dQ v l↔x∈l/\vf x.g v<0:=by simp[dQ]
def mI(l:List AI):List bD:=l.map AI.to
theorem fL(l:List AI):(mI l).length=l.length:=cS ..
theorem p5{l:List AI}{k:Nat}(h:k<l.length):idx (mI l) (k:Int)=some (l[k]).to:=by
 unfold mI;rw[dt (by simpa using h),k6]
def jB(n:Nat)(l:List AI):Prop:=l.length<=1073741824/\∀x∈l,x.g.length=n/\∀w∈x.g,dl w<=8
theorem jB.vf{n:Nat}{l:List AI}(h:jB n l){x:AI}(hx:x∈l)(v:Nat):dl (vf x.g v)<=8:=kK.vf ⟨(h.2 x hx).1,(h.2 x hx).2⟩ v
theorem jB.sub{n:Nat}{l m:List AI}(h:jB n l)(hl:m.length<=l.length)(hm:∀x∈m,x∈l):jB n m:=⟨by have:=h.1;omega,λx hx=>h.2 x (hm x hx)⟩
theorem pX{n v:Nat}{l:List AI}(h:jB n l):jB n (cT v l):=h.sub (qT ..) λx hx=>(lG.1 hx).1
theorem y5{n v:Nat}{l:List AI}(h:jB n l):jB n (dQ v l):=h.sub (qT ..) λx hx=>(iT.1 hx).1
theorem LB{a:Int}:bZ a 0=1↔0<a:=by unfold bZ;(repeat' split)<;>omega
theorem Km{a:Int}:bZ a 0=-1↔a<0:=by unfold bZ;(repeat' split)<;>omega
theorem Xs{a:Int}:bZ a 0≥0↔0<=a:=by unfold bZ;(repeat' split)<;>omega
theorem Xb{v:Nat}{l:List AI}{k:Nat}(h:k<l.length):cT v (l.take (k+1))=cT v (l.take k)++(if 0<vf (l[k]).g v then[l[k]]else[]):=by
 unfold cT;rw[<-jD h,sQ];congr 1;by_cases e:0<vf (l[k]).g v<;>simp[e]
theorem Q0{v:Nat}{l:List AI}{k:Nat}(h:k<l.length):dQ v (l.take (k+1))=dQ v (l.take k)++(if vf (l[k]).g v<0 then[l[k]]else[]):=by
 unfold dQ;rw[<-jD h,sQ];congr 1;by_cases e:vf (l[k]).g v<0<;>simp[e]
theorem CU{s:St}{v:Nat}(hi:jB s.n s.aB)(hv:v<s.n):Tm (λN=>uA N s.to (v:Int)) (·=(mI (cT v s.aB),mI (dQ v s.aB))):=by
 have hl:=hi.1;have hmi:s.to.aB.length=s.aB.length:=cS ..;unfold uA;refine aU (a:=(mI (cT v s.aB),mI (dQ v s.aB))) (eE s.aB.length (λk t=>t=(mI (cT v (s.aB.take k)),mI (dQ v (s.aB.take k)),(k:Int))) rfl ?_) (aI rfl);rintro k hk _ rfl;dsimp only[HX];refine bB (λhlt=>?_) (λhge=>aI ?_)
 . have hlt:k<s.aB.length:=by omega
   have hm:=dC hlt;have hd:=hi.vf hm v;have lu:(cT v (s.aB.take k)).length<=k:=bV (qT ..) (by rw[fm];omega);have ll:(dQ v (s.aB.take k)).length<=k:=bV (qT ..) (by rw[fm];omega);refine aU (a:=(mI (cT v (s.aB.take (k+1))),mI (dQ v (s.aB.take (k+1))))) ?_ (aI ⟨hlt,by rw[dV (by omega)]⟩);rw[Xb hlt,Q0 hlt];refine aJ (a:=(s.aB[k]).to) (by show idx (mI s.aB) _=_;exact p5 hlt) (aJ (dX (l:=(s.aB[k]).g) (by rw[(hi.2 _ hm).1];exact hv)) (aU (j2 (bV hd (by decide))) ?_));refine bB (λh1=>?_) (λh1=>bB (λh2=>?_) (λh2=>aI ?_))
   . have h1:=LB.1 h1;refine aJ (eb (by rw[fL];simp only[cN,dY];omega) (by decide)) (aI ?_);rw[bA h1,aQ (by omega)];simp[mI]
   . have h2:=Km.1 h2;refine aJ (eb (by rw[fL];simp only[cN,dY];omega) (by decide)) (aI ?_);rw[bA h2,aQ (by omega)];simp[mI]
   . rw[aQ λe=>h1 (LB.2 e),aQ λe=>h2 (Km.2 e)];simp[mI]
 . show _=_;rw[fx (by omega)]
theorem xH{s:St}{v:Nat}(hi:jB s.n s.aB)(hv:v<s.n):Tm (λN=>tx N s.to (v:Int)) (·=(mI (cT v s.aB),mI (dQ v s.aB))):=CU hi hv
def lC(v:Nat)(l:List AI)(a:Int):Int:=l.foldl (λa y=>if a<vf y.g v then vf y.g v else a) a
theorem OK{v:Nat}:∀{l:List AI} {a:Int},a<=lC v l a/\∀x∈l,vf x.g v<=lC v l a
 |[],a=>⟨kG _,λx hx=>by cases hx⟩
 |y::l,a=>by
  obtain⟨h1,h2⟩:=OK (v:=v) (l:=l) (a:=if a<vf y.g v then vf y.g v else a);refine⟨?_,λx hx=>?_⟩
  . show a<=lC v l _;split at h1<;>rename_i h<;>simp only[h,if_true,if_false]<;>omega
  . rcases eJ.1 hx with rfl|hx
    . show _<=lC v l _;split at h1<;>rename_i h<;>simp only[h,if_true,if_false]<;>omega
    . exact h2 x hx
theorem HV{v:Nat}:∀{l:List AI} {a:Int},lC v l a=a\/∃x∈l,lC v l a=vf x.g v
 |[],a=>.inl rfl
 |y::l,a=>by
  have e:lC v (y::l) a=lC v l (if a<vf y.g v then vf y.g v else a):=rfl;rw[e];rcases HV (v:=v) (l:=l) (a:=if a<vf y.g v then vf y.g v else a)with h|⟨x,hx,h⟩
  . rw[h];split
    . exact .inr ⟨y,cU,rfl⟩
    . exact .inl rfl
  . exact .inr ⟨x,cP _ hx,h⟩
def eR(v:Nat)(l:List AI):Int:=lC v l (vf (l.headD ⟨0,[]⟩).g v)
theorem OL{v:Nat}{l:List AI}:∀x∈l,vf x.g v<=eR v l:=OK.2
theorem Ep{v:Nat}{l:List AI}(h:l≠[]):∃x∈l,eR v l=vf x.g v:=by
 cases l with
 |nil=>exact bX rfl h
 |cons y r=>
  rcases HV (v:=v) (l:=y::r) (a:=vf y.g v)with h|h
  . exact⟨y,cU,h⟩
  . exact h
def iE(v:Nat)(low:AI)(cw:List AI):Int:=(eR v cw*-vf low.g v-eR v cw- -vf low.g v).fdiv (eR v cw)
theorem xO{n v:Nat}{low:AI}{cw:List AI}(h:jB n cw)(h0:cw≠[])(hl:dl (vf low.g v)<=8):dl (iE v low cw)<=18:=by
 obtain⟨x,hx,e⟩:=Ep (v:=v) h0;have h1:=h.vf hx v;rw[<-e]at h1;have h2:=jO (eR v cw) (-vf low.g v);rw[gL]at h2;have h3:=jX (K:=16) (a:=eR v cw*-vf low.g v) (b:=eR v cw) (by omega) (by omega);have h4:=jX (K:=17) (a:=eR v cw*-vf low.g v-eR v cw) (b:=-vf low.g v) (by omega) (by rw[gL];omega);exact bV (sZ _ _) (by omega)
theorem xV{n v:Nat}{low:AI}{cw:List AI}(h:jB n cw)(h0:cw≠[])(hll:low.g.length=n)(hl:dl (vf low.g v)<=8)(hv:v<n):Tm (λN=>qg N (v:Int) low.to (mI cw)) (·=B (iE v low cw)):=by
 have hL:cM=1099511627776:=rfl;have hul:=h.1;have hlen:0<cw.length:=sL.2 h0;obtain⟨u0,r,hur⟩:∃u r,cw=u::r:=by
  cases cw with
  |nil=>exact bX rfl h0
  |cons u r=>exact⟨u,r,rfl⟩
 have hmem0:u0∈cw:=by rw[hur];exact cU
 have hdl:∀k,dl (lC v (cw.take k) (vf u0.g v))<=8:=λk=>by
  rcases HV (v:=v) (l:=cw.take k) (a:=vf u0.g v)with e|⟨x,hx,e⟩
  . rw[e];exact h.vf hmem0 v
  . rw[e];exact h.vf (uS hx) v
 unfold qg;refine aJ (a:=u0.to) (by rw[hur];rfl) (aJ (dX (l:=u0.g) (by rw[(h.2 _ hmem0).1];exact hv)) ?_);refine aU (a:=B (eR v cw)) (eE cw.length (λk t=>t=(B (lC v (cw.take k) (vf u0.g v)),(k:Int))) rfl ?_) ?_
 . rintro k hk _ rfl;dsimp only[H4];rw[fL];refine bB (λhlt=>?_) (λhge=>aI ?_)
   . have hlt:k<cw.length:=by omega
     have hm:=dC hlt;have hstep:lC v (cw.take (k+1)) (vf u0.g v)=if lC v (cw.take k) (vf u0.g v)<vf (cw[k]).g v then vf (cw[k]).g v else lC v (cw.take k) (vf u0.g v):=by
      unfold lC;rw[<-jD hlt,PX];rfl
     have hi:=dX (l:=(cw[k]).g) (k:=v) (by rw[(h.2 _ hm).1];exact hv);have hvk:=h.vf hm v;have hdk:=hdl k;refine aJ (p5 hlt) (aJ hi (aU (lg (by omega) (by omega)) (bB (λh1=>aJ hi (aI ⟨hlt,?_⟩)) (λh1=>aI ⟨hlt,?_⟩))))
     . rw[dV (by omega),hstep,bA (by unfold bZ at h1;(repeat' split at h1)<;>omega)]
     . rw[dV (by omega),hstep,aQ (by unfold bZ at h1;(repeat' split at h1)<;>omega)]
   . show _=_;rw[fx (by omega)];unfold eR;rw[hur];rfl
 . dsimp only;have ha:dl (eR v cw)<=8:=by
    obtain⟨x,hx,e⟩:=Ep (v:=v) h0;rw[e];exact h.vf hx v
   have h2:=jO (eR v cw) (-vf low.g v);rw[gL]at h2;have h3:=jX (K:=16) (a:=eR v cw*-vf low.g v) (b:=eR v cw) (by omega) (by omega);have h4:=jX (K:=17) (a:=eR v cw*-vf low.g v-eR v cw) (b:=-vf low.g v) (by omega) (by rw[gL];omega);refine aJ (dX (l:=low.g) (by omega)) (aU (oR (by omega)) (aU (pe (by omega) (by rw[gL];omega)) (aU (nq (by omega) (by omega)) (aU (nq (by omega) (by rw[gL];omega)) (Tm.bind (rY (by omega) (by omega)) λr hr=>aI ?_)))));rw[hr];rfl
theorem Ty{s:St}{v:Nat}(hi:jB s.n s.aB)(hv:v<s.n):Tm (λN=>yv N s.to (v:Int)) (λr=>(r.2=true↔∃x∈s.aB,vf x.g v≠0)/\∃c,r.1=B c/\dl c<=cM):=by
 have hL:cM=1099511627776:=rfl;have hl:=hi.1;have hu:=(pX (v:=v) hi).1;have hw:=(y5 (v:=v) hi).1;have hex:(∃x∈s.aB,vf x.g v≠0)↔cT v s.aB≠[]\/dQ v s.aB≠[]:=by
  constructor
  . rintro⟨x,hx,h⟩;rcases sP h with h|h
    . exact .inr (I8 (iT.2 ⟨hx,h⟩))
    . exact .inl (I8 (lG.2 ⟨hx,h⟩))
  . rintro(h|h)
    . obtain⟨x,hx⟩:=XV _ h;exact⟨x,(lG.1 hx).1,by have:=(lG.1 hx).2;omega⟩
    . obtain⟨x,hx⟩:=XV _ h;exact⟨x,(iT.1 hx).1,by have:=(iT.1 hx).2;omega⟩
 have hul:∀{l:List AI},l≠[]↔l.length≠0:=λ{l}=>by rw[ne_eq,<-nD]
 rw[hex,hul,hul];unfold yv;refine aU (CU hi hv) ?_;dsimp only;rw[fL,fL];refine bB (λh0=>aI ⟨?_,0,B0.symm,by rw[fw];omega⟩) (λh0=>?_)
 . rw[bU (by omega) (by omega)]at h0;exact⟨λe=>(by cases e),λe=>by omega⟩
 . rw[bU (by omega) (by omega)]at h0;refine Tm.bind (Q:=λc=>c=decide ((cT v s.aB).length=0\/(dQ v s.aB).length=0)) (bB (λh=>aI ?_) (λh=>aI ?_)) ?_
   . rw[jg];omega
   . apply decide_eq_decide.2;omega
   rintro _ rfl;refine bB (λh1=>aI ⟨?_,0,B0.symm,by rw[fw];omega⟩) (λh1=>?_)
   . exact⟨λ_=>by omega,λ_=>rfl⟩
   . have h1:¬((cT v s.aB).length=0\/(dQ v s.aB).length=0):=λe=>h1 (jg e);have hun:cT v s.aB≠[]:=hul.2 (by omega);have hmul:((cT v s.aB).length:Int)*((dQ v s.aB).length:Int)<=1073741824*1073741824:=oH (by omega) (by omega) (by omega) (by omega);have hmul0:0<=((cT v s.aB).length:Int)*((dQ v s.aB).length:Int):=fb (by omega) (by omega);rw[bU (by omega) (by omega)];refine aU (kR (by omega) (by omega)) ?_;refine Tm.bind (Q:=λr=>∃c,r=B c/\dl c<=cM) (eE (dQ v s.aB).length (λk t=>∃c,t=(B c,(k:Int))/\dl c<=2+20*k) ⟨_,rfl,Dy (by omega)⟩ ?_) ?_
     . rintro k hk _ ⟨c,rfl,hc⟩;dsimp only[Ij];rw[fL];refine bB (λhlt=>?_) (λhge=>aI ⟨c,rfl,by omega⟩);have hlt:k<(dQ v s.aB).length:=by omega
       have hm:=dC hlt;have hlo:=(y5 (v:=v) hi);have hsd:=xO (low:=(dQ v s.aB)[k]) (pX (v:=v) hi) hun (hlo.vf hm v);refine Tm.bind (Q:=λr=>∃c,r=B c/\dl c<=2+20*(k+1)) (aJ (p5 hlt) (aU (xV (pX (v:=v) hi) hun (hlo.2 _ hm).1 (hlo.vf hm v) hv) (aU (j2 (by omega)) (bB (λh2=>?_) (λh2=>aI ⟨c,rfl,by omega⟩))))) ?_
       . have h1000:dl 1000<=18:=bV (kD (by decide)) (by decide);have ha:=pV hsd h1000;refine aU (kR (by decide) (by decide)) (aU (ox (by omega) (by omega)) (aU (pe (by omega) (by omega)) (aI ⟨_,rfl,?_⟩)));have:=jO c (iE v (dQ v s.aB)[k] (cT v s.aB)+1000);omega
       . rintro _ ⟨c',rfl,hc'⟩;exact aI ⟨hlt,c',by rw[dV (by omega)],hc'⟩
     . rintro _ ⟨c,rfl,hc⟩;exact aI ⟨⟨λ_=>by omega,λ_=>rfl⟩,c,rfl,hc⟩
theorem TP{s:St}(hi:jB s.n s.aB)(hst:s.aM.length=s.n)(hn:s.n<=512):Tm (λN=>vR N s.to) (λr=>(r.2=true/\∃v:Nat,r.1=(v:Int)/\v<s.n/\vf s.aM v=0/\∃x∈s.aB,vf x.g v≠0)\/(r.2=false/\∀v,v<s.n->vf s.aM v=0->∀x∈s.aB,vf x.g v=0)):=by
 have hL:cM=1099511627776:=rfl;unfold vR;refine Tm.bind (Q:=λr=>(r.2=true/\∃v:Nat,r.1=(v:Int)/\v<s.n/\vf s.aM v=0/\∃x∈s.aB,vf x.g v≠0)\/(r.2=false/\∀v,v<s.n->vf s.aM v=0->∀x∈s.aB,vf x.g v=0))
  (eE s.n (λk t=>t.2.2.2=(k:Int)/\(∃c,t.2.2.1=B c/\dl c<=cM)/\((t.2.1=true/\∃v:Nat,t.1=(v:Int)/\v<s.n/\vf s.aM v=0/\∃x∈s.aB,vf x.g v≠0)\/(t.2.1=false/\∀v,v<k->vf s.aM v=0->∀x∈s.aB,vf x.g v=0)))
   ⟨rfl,⟨0,B0.symm,by rw[fw];omega⟩,.inr ⟨rfl,λv hv=>by omega⟩⟩ ?_) λr hr=>aI hr
 rintro k hk ⟨b,f,l,i⟩ ⟨rfl,⟨c,rfl,hc⟩,hI⟩;dsimp only at hI;dsimp only[GX];refine bB (λhlt=>?_) (λhge=>aI ?_)
 . have hlt:k<s.n:=by have:(k:Int)<(s.n:Int):=hlt;omega
   refine Tm.bind (Q:=λr=>(∃c,r.2.2=B c/\dl c<=cM)/\((r.2.1=true/\∃v:Nat,r.1=(v:Int)/\v<s.n/\vf s.aM v=0/\∃x∈s.aB,vf x.g v≠0)\/(r.2.1=false/\∀v,v<k+1->vf s.aM v=0->∀x∈s.aB,vf x.g v=0))) (aJ (xQ (l:=s.aM) (by omega)) (bB (λh1=>aI ⟨⟨c,rfl,hc⟩,?_⟩) (λh1=>?_))) ?_
   . dsimp only;rcases hI with hI|⟨h2,h3⟩
     . exact .inl hI
     . refine .inr ⟨h2,λv hv h0=>?_⟩;rcases cG v k with h4|h4
       . exact h3 v h4 h0
       . obtain rfl:v=k:=by omega
         exact bX h0 h1
   . have h1:vf s.aM k=0:=uW.1 h1;refine Tm.bind (Ty hi hlt) ?_;rintro⟨pc,ok⟩ ⟨hp,c',hc',hcl'⟩;dsimp only at hp hc'⊢;subst hc';refine Tm.bind (Q:=λt=>(t=true->ok=true)/\(t=false->ok=true->f=true)) (bB (λh2=>bB (λh3=>aI ⟨λ_=>h2,λe=>(by cases e)⟩) (λh3=>aU (lg hcl' hc) (aI ⟨λ_=>h2,λ_ _=>by simpa using h3⟩))) (λh2=>aI ⟨λe=>(by cases e),λ_ e=>bX e h2⟩)) ?_;rintro t ⟨ht1,ht2⟩;refine bB (λh2=>aI ⟨⟨c',rfl,hcl'⟩,.inl ⟨rfl,k,rfl,hlt,h1,hp.1 (ht1 h2)⟩⟩) (λh2=>aI ⟨⟨c,rfl,hc⟩,?_⟩);dsimp only;rcases hI with hI|⟨h3,h4⟩
     . exact .inl hI
     . refine .inr ⟨h3,λv hv h0 x hx=>?_⟩;rcases cG v k with h5|h5
       . exact h4 v h5 h0 x hx
       . obtain rfl:v=k:=by omega
         refine je λe=>?_;have:=ht2 (by simpa using h2) (hp.2 ⟨x,hx,e⟩);rw[h3]at this;cases this
   . rintro⟨b',f',l'⟩ ⟨⟨c',hc',hcl'⟩,h2⟩;exact aI ⟨hlt,dV (by omega),⟨c',hc',hcl'⟩,h2⟩
 . have:k=s.n:=by have:¬(k:Int)<(s.n:Int):=hge;omega
   subst this;exact hI
theorem KS{l:List AI}{f:Nat->bD->Option Bool}{g:AI->Bool}(hl:l.length<=1073741824)(h:∀x∈l,Tm (λN=>f N x.to) (·=g x)):Tm (λN=>wM N (mI l) (f N)) (λr=>(l.any g=false/\r=-1)\/∃k,∃hk:k<l.length,g l[k]=true/\(∀j (hj:j<k),g (l[j]'(by omega))=false)/\r=(k:Int)):=by
 unfold wM;refine Tm.bind (Tm.Ps (b:=λN=>xM N (f N) (mI l)) l g (λk=>(k:Int)) (by omega) ?_ ?_) ?_
 . intro k hk;dsimp only[xM];refine cR (by rw[fL];omega) (aJ (p5 hk) (aU (h _ (dC hk)) ?_));refine bB (λh=>aI ?_) (λh=>aI ?_)
   . simp[h]
   . simp[h]
 . dsimp only[xM];exact cE (by rw[fL];omega) (aI rfl)
 . rintro _ (⟨h,rfl⟩|⟨k,hk,hg,hj,rfl⟩)
   . exact aI (.inl ⟨h,rfl⟩)
   . exact aI (.inr ⟨k,hk,hg,hj,rfl⟩)
def tQ(s:St)(v:Nat):Prop:=cT v s.aB=[]\/∀x∈dQ v s.aB,iE v x (cT v s.aB)<0
theorem R1{s:St}{v:Nat}(hi:jB s.n s.aB)(hv:v<s.n):Tm (λN=>vd N s.to (v:Int)) (λr=>r=true↔tQ s v):=by
 have hL:cM=1099511627776:=rfl;unfold vd;refine aU (CU hi hv) ?_;dsimp only;rw[fL];refine bB (λh0=>aI ⟨λ_=>.inl (nD.1 (by omega)),λ_=>rfl⟩) (λh0=>?_);have hun:cT v s.aB≠[]:=λe=>h0 (by rw[e];rfl);have hlo:=y5 (v:=v) hi;refine aU (a:=(dQ v s.aB).any λx=>decide (0<=iE v x (cT v s.aB))) ?_ (aI ?_)
 . unfold AO;refine Tm.bind (KS (f:=λN y0=>wP N y0 (v:Int) (mI (cT v s.aB))) (g:=λx=>decide (0<=iE v x (cT v s.aB))) hlo.1 λx hx=>?_) ?_
   . unfold wP;refine aU (xV (pX (v:=v) hi) hun (hlo.2 _ hx).1 (hlo.vf hx v) hv) (aU (j2 (by have:=xO (low:=x) (pX (v:=v) hi) hun (hlo.vf hx v);omega)) (aI ?_));exact decide_eq_decide.2 Xs
   . rintro r (⟨h,rfl⟩|⟨k,hk,hg,-,rfl⟩)
     . exact aI (by rw[h];rfl)
     . exact aI (by rw[List.any_eq_true.2 ⟨_,dC hk,hg⟩];simp)
 . rw[IP,IM];unfold tQ;constructor
   . exact λh=>.inr λx hx=>by have:=h x hx;simpa using this
   . rintro(h|h) x hx
     . exact bX h hun
     . have:=h x hx;simpa using this
end Go.D

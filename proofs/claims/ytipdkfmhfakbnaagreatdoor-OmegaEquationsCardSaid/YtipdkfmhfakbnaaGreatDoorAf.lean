/- Plain theorems and definitions of this seat, several texts in one. -/
import Derived.Test.YtipdkfmhfakbnaaGreatDoorAe
import Derived.KernelRfl
set_option linter.unusedVariables false
set_option linter.unusedSimpArgs false
set_option linter.unusedSectionVars false
set_option maxHeartbeats 1000000
namespace Go.D
open Go Go.X
theorem Oo{a b:List AI}(ha:a.length<=1073741824)(hb:b.length<=1073741824):Tm (λN=>vZ N [mI a,mI b]) (·=mI (a++b)):=by
 unfold vZ;have hw:∀z:Int,0<=z->z<=4294967296->iw z=z:=λz h1 h2=>bU (by omega) (by omega);have two:(0:Int)<(([mI a,mI b]:List (List bD)).length:Int):=by simp
 have two1:(1:Int)<(([mI a,mI b]:List (List bD)).length:Int):=by simp
 refine aU (a:=((a.length+b.length:Nat):Int)) ?_ ?_
 . refine eE 2 (λk t=>(k=0->t=(0,0))/\(k=1->t=((a.length:Int),1))/\(k=2->t=(((a.length+b.length:Nat):Int),2))) ⟨λ_=>rfl,λh=>(by omega),λh=>(by omega)⟩ ?_;rintro k hk t ⟨h0,h1,h2⟩;rcases k with _|_|k
   . obtain rfl:=h0 rfl;dsimp only[zz];refine cR two (aJ (a:=mI a) rfl ?_);rw[fL,hw _ (by omega) (by omega)];refine cE (by omega) (aI ⟨by omega,λh=>by omega,λ_=>?_,λh=>by omega⟩);rw[hw _ (by omega) (by omega)];simp
   . obtain rfl:=h1 rfl;dsimp only[zz];refine cR two1 (aJ (a:=mI b) rfl ?_);rw[fL,hw _ (by omega) (by omega)];refine cE (by omega) (aI ⟨by omega,λh=>by omega,λh=>by omega,λ_=>?_⟩);rw[hw _ (by omega) (by omega)];simp
   . obtain rfl:k=0:=by omega
     obtain rfl:=h2 rfl;dsimp only[zz];exact cE (by simp) (aI rfl)
 . dsimp only;refine aU (a:=([]:List bD)) ?_ ?_
   . unfold Az;rw[show iw (((a.length+b.length:Nat):Int)-iw (0-0))=((a.length+b.length:Nat):Int) by rw[show iw (0-0)=0 by decide,xB];exact hw _ (by omega) (by omega)];refine cE (by omega) (aU (a:=([]:List bD)) (bB (λh=>?_) (λh=>aI rfl)) (aI rfl));rw[mQ];refine aJ (eb (by simp only[dY,mg];omega) (by decide)) ?_;refine aJ (rQ (m:=0) (n:=0) rfl rfl (by omega) (by omega)) (aI ?_);simp
   . refine aU (a:=mI (a++b)) (eE 2 (λk t=>(k=0->t=(([]:List bD),(0:Int)))/\(k=1->t=(mI a,1))/\(k=2->t=(mI (a++b),2))) ⟨λ_=>rfl,λh=>(by omega),λh=>(by omega)⟩ ?_) (aI rfl);rintro k hk t ⟨h0,h1,h2⟩;rcases k with _|_|k
     . obtain rfl:=h0 rfl;dsimp only[yM];refine cR two (aJ (a:=mI a) rfl (aJ (eb (by rw[fL];simp only[dY];omega) (by decide)) (aI ⟨by omega,λh=>by omega,λ_=>?_,λh=>by omega⟩)));rw[hw _ (by omega) (by omega)];simp
     . obtain rfl:=h1 rfl;dsimp only[yM];refine cR two1 (aJ (a:=mI b) rfl (aJ (eb (by rw[fL,fL];omega) (by decide)) (aI ⟨by omega,λh=>by omega,λh=>by omega,λ_=>?_⟩)));rw[hw _ (by omega) (by omega)];simp[mI]
     . obtain rfl:k=0:=by omega
       obtain rfl:=h2 rfl;dsimp only[yM];exact cE (by simp) (aI rfl)
theorem RL{l:List AI}{f:Nat->bD->Option Bool}{g:AI->Bool}(hl:l.length<=1073741824)(h:∀x∈l,Tm (λN=>f N x.to) (·=g x)):Tm (λN=>yP N (mI l) (f N)) (·=mI (l.filter λx=>!g x)):=by
 unfold yP;refine Tm.bind (KS hl h) ?_;rintro r (⟨hany,rfl⟩|⟨k0,hk0,hg0,hbef,rfl⟩)
 . refine cR rfl (aI ?_);congr 1;rw[I9.2];intro x hx;rw[IM]at hany;have:=hany x hx;simpa using this
 . refine cE (by omega) ?_;have hfil0:(l.take (k0+1)).filter (λx=>!g x)=l.take k0:=by
    rw[<-jD hk0,sQ,I9.2]
    . simp[hg0]
    . intro x hx;obtain⟨j,hj,rfl⟩:=lL hx;rw[fm]at hj;rw[PV,hbef j (by omega)];rfl
   refine Tm.bind (Q:=λt=>∃c:List bD,∃i:Nat,t=(c,(i:Int))/\c.length=l.length/\i<l.length/\c.take i=mI (l.filter λx=>!g x))
    (Tm.rK (λ(k:Nat) (t:List bD×Int×Int)=>k0+1<=k/\k<=l.length/\∃c:List bD,∃i:Nat,t=(c,(i:Int),(k:Int))/\c.length=l.length/\i<k/\c.take i=mI ((l.take k).filter λx=>!g x)/\c.drop k=mI (l.drop k)) (λk=>l.length-k) (k0+1) ⟨bQ _,hk0,mI l,k0,?_,fL l,by omega,?_,?_⟩ ?_) ?_
   . rw[dV (by omega)]
   . rw[hfil0];unfold mI;rw[List.map_take]
   . unfold mI;rw[Qc]
   . rintro k _ ⟨hk1,hk2,c,i,rfl,hcl,hik,ht,hd⟩;dsimp only[GL];refine bB (λhlt=>?_) (λhge=>aI ?_)
     . have hlt:k<l.length:=by omega
       have hck:c[k]?=some (l[k]).to:=by
        have:=dd (λz:List bD=>z[0]?) hd;simp only[sH,pK,mI,iA,cy hlt]at this;exact this
       refine Tm.bind (Q:=λr=>∃c':List bD,∃i':Nat,r=(c',(i':Int))/\c'.length=l.length/\i'<k+1/\c'.take i'=mI ((l.take (k+1)).filter λx=>!g x)/\c'.drop (k+1)=mI (l.drop (k+1))) (aJ (k9 hck) (aU (h _ (dC hlt)) (bB (λh1=>?_) (λh1=>aI ⟨c,i,rfl,hcl,by omega,?_,?_⟩)))) ?_
       . have h1:g l[k]=false:=by simpa using h1
         refine aJ (dt (by omega)) (aJ (eH rfl (by omega)) (aI ⟨c.set i (l[k]).to,i+1,by rw[dV (by omega)],by rw[gI];exact hcl,by omega,?_,?_⟩))
         . have e1:(c.set i (l[k]).to).take (i+1)=c.take i++[(l[k]).to]:=by
            rw[pN (by rw[gI];omega),xu (by omega),P3]
           rw[e1,ht,<-jD hlt,sQ];unfold mI;simp[h1]
         . rw[PR,bA (by omega)];have:=dd (List.drop 1) hd;rw[nC]at this;rw[this];unfold mI;rw[<-Qc,nC]
       . have h1:g l[k]=true:=by simpa using h1
         rw[ht,<-jD hlt,sQ];simp[h1]
       . have:=dd (List.drop 1) hd;rw[nC]at this;rw[this];unfold mI;rw[<-Qc,nC]
       . rintro _ ⟨c',i',rfl,a1,a2,a3,a4⟩;exact aI ⟨k+1,⟨by omega,by omega,c',i',by rw[dV (by omega)],a1,a2,a3,a4⟩,by omega⟩
     . have:k=l.length:=by omega
       subst this;rw[fx (bQ _)]at ht;exact⟨c,i,rfl,hcl,by omega,ht⟩
   . rintro _ ⟨c,i,rfl,hcl,hil,ht⟩;dsimp only;rw[Kh (by omega) (bQ _)];refine aJ (a:=()) rfl ?_;have hcut:cut (nJ c (i:Int) (c.length:Int) (bD.mk 0 [])) 0 (i:Int)=some (c.take i):=by
      have:=Hh (xs:=c) (l:=i) (h:=c.length) (z:=bD.mk 0 []) (by omega) (bQ _);rw[rQ (i:=0) (j:=(i:Int)) (m:=0) (n:=i) rfl rfl (by omega) (by omega),mf];unfold nJ;rw[mQ,qS (by rw[fm];omega),IB];simp
     refine aJ hcut (aI ht)
def comb(n v:Nat)(x y:AI):List Int:=vec n λj=>-vf y.g v*vf x.g j+vf x.g v*vf y.g j
def nK(n v:Nat)(x y:AI):Act:=.put (comb n v x y) [⟨x.pos,-vf y.g v⟩,⟨y.pos,vf x.g v⟩]
def e9(s:St)(v:Nat)(dT:Bool):St:={s with aM:=s.aM.set v 2,aB:=s.aB.filter (λx=>!decide (vf x.g v≠0)),aK:=s.aK++[⟨v,(cT v s.aB++dQ v s.aB).map AI.pos,dT⟩]}
def rz(n v:Nat)(cw lows:List AI)(k m:Nat):List Act:=((lows.drop m).map λy=>nK n v (cw.getD k ⟨0,[]⟩) y)++(cw.drop (k+1)).flatMap λx=>lows.map λy=>nK n v x y
def dJ(s:St)(v:Nat):List Act:=(cT v s.aB).flatMap λx=>(dQ v s.aB).map λy=>nK s.n v x y
theorem Q3{n v:Nat}{cw lows:List AI}{k:Nat}(h:k<cw.length):(cw.drop k).flatMap (λx=>lows.map λy=>nK n v x y)=rz n v cw lows k 0:=by
 unfold rz;rw[gn h,D8,mf,cL,cy h];rfl
theorem WB{n v:Nat}{cw lows:List AI}{k m:Nat}(hk:k<cw.length)(h:m<lows.length):rz n v cw lows k m=nK n v cw[k] lows[m]::rz n v cw lows k (m+1):=by
 unfold rz;rw[gn h,kZ,DP,cL,cy hk];rfl
theorem V6{n v:Nat}{cw lows:List AI}{k:Nat}:rz n v cw lows k lows.length=(cw.drop (k+1)).flatMap (λx=>lows.map λy=>nK n v x y):=by
 unfold rz;rw[D5];rfl
theorem Kp{s:St}{v:Nat}:(dJ s v).length=(cT v s.aB).length*(dQ v s.aB).length:=by
 unfold dJ;generalize cT v s.aB=a;generalize dQ v s.aB=b
 induction a with
 |nil=>simp
 |cons x a ih=>rw[D8,dL,ih,cS,cN,iJ];omega
theorem LR{s:St}{v:Nat}{a:Act}:a∈dJ s v↔∃x∈cT v s.aB,∃y∈dQ v s.aB,a=nK s.n v x y:=by
 unfold dJ;simp only[uZ,eh];constructor
 . rintro⟨x,hx,y,hy,rfl⟩;exact⟨x,hx,y,hy,rfl⟩
 . rintro⟨x,hx,y,hy,rfl⟩;exact⟨x,hx,y,hy,rfl⟩
theorem Wd{K Kk:Nat}{s:St}{v:Nat}{dT:Bool}(hs:ig K s)(hv:v<s.n)(hst:s.aM.length=s.n)(hstk:s.aK.length<=1000000)(hK:Kk+6<=K)(hA:∀a∈dJ s v,mr Kk (e9 s v dT) a)(hr:j3 (dJ s v).length (e9 s v dT)):
 Tm (λN=>oL N s.to (v:Int) dT) (·=((ct (e9 s v dT) (dJ s v)).1,(ct (e9 s v dT) (dJ s v)).2.to)):=by
 have hL:cM=1099511627776:=rfl;have hi:jB s.n s.aB:=⟨hs.il,λx hx=>(hs.i x hx).2⟩;have hup:=pX (v:=v) hi;have hlo:=y5 (v:=v) hi;have hul:=hup.1;have hll:=hlo.1;have hn:=hs.n;unfold oL;refine aU (CU hi hv) ?_;dsimp only;refine aU (Oo hup.1 hlo.1) ?_;generalize hU:cT v s.aB=U at*;generalize hW:dQ v s.aB=W at*;refine aU (a:=((U++W).map AI.pos).map Int.ofNat) (eE (U++W).length (λk t=>t=((((U++W).take k).map AI.pos).map Int.ofNat,(k:Int))) rfl ?_) ?_
 . rintro k hk _ rfl;dsimp only[Ha];rw[fL];refine bB (λhlt=>?_) (λhge=>aI ?_)
   . have hlt:k<(U++W).length:=by omega
     rw[dL]at hlt;refine aJ (p5 (by rw[dL];exact hlt)) (aJ (eb (by simp only[cS,fm,cN,dY,dL];omega) (by decide)) (aI ⟨by rw[dL];exact hlt,?_⟩));rw[dV (by omega),<-jD (by rw[dL];exact hlt)];simp only[iC];rfl
   . show _=_;rw[fx (by omega)]
 refine aJ (eb (by show((s.aK.map AE.to).length+_)*_<=_;simp only[cS,cN,dY];omega) (by decide)) ?_;refine aJ (xQ (l:=s.aM) (by omega)) (aJ (eH (xs:=s.aM) rfl (by omega)) ?_);refine aU (a:=mI s.aB) ?_ ?_
 . unfold sf;exact aJ (eb (by show(_+(mI s.aB).length)*_<=_;rw[fL];have:=hs.il;simp only[dY];omega) (by decide)) (aI rfl)
 refine aU (RL (f:=λN y0=>wi N y0 (v:Int)) (g:=λx=>decide (vf x.g v≠0)) hs.il λx hx=>?_) ?_
 . unfold wi;refine aJ (dX (l:=x.g) (by rw[(hi.2 x hx).1];exact hv)) (aU (j2 (bV (hi.vf hx v) (by decide))) (aI (decide_eq_decide.2 qj)))
 have hLU:dJ s v=U.flatMap λx=>W.map λy=>nK s.n v x y:=by unfold dJ;rw[hU,hW]
 have hdn:(e9 s v dT).n=s.n:=rfl;have hok0:ig K (e9 s v dT):=⟨hs.n,hs.kl,hs.sl,bV (qT ..) hs.il,hs.k,λx hx=>hs.i x (DO.1 hx).1,hs.K⟩;have hfirst:gV (e9 s v dT)=(s.to.aA,s.to.aV,s.to.u,s.aM.set v 2,s.to.value,mI (s.aB.filter λx=>!decide (vf x.g v≠0)),s.to.aK++[dW.mk (v:Int) (((U++W).map AI.pos).map Int.ofNat) dT]):=by
  unfold gV e9;rw[hU,hW];unfold St.to;dsimp only;rw[iC];rfl
 refine Tm.bind (Q:=λr=>(∃s',r=.inl (gV s')/\ct (e9 s v dT) (dJ s v)=(true,s')/\s'.n=s.n)\/r=.inr ((ct (e9 s v dT) (dJ s v)).1,(ct (e9 s v dT) (dJ s v)).2.to))
  (eE U.length (λk t=>∃s' k',jq K (e9 s v dT) (dJ s v) k' s'/\(dJ s v).drop k'=(U.drop k).flatMap (λx=>W.map λy=>nK s.n v x y)/\t=(s'.to.aA,s'.to.aV,s'.to.u,s'.to.aM,s'.to.value,s'.to.aB,s'.to.aK,(k:Int))) ⟨e9 s v dT,0,jq.first hok0 hr,by rw[mf,mf,hLU],?_⟩ ?_) ?_
 . have:=hfirst;unfold gV at this;simp only[oE]at this;obtain⟨a1,a2,a3,a4,a5,a6,a7⟩:=this;rw[a1,a2,a3,a4,a5,a6,a7];rfl
 . rintro k hk _ ⟨s',k',hvv,hd,rfl⟩;dsimp only[Fh];rw[fL];refine bB (λhlt=>?_) (λhge=>aI ?_)
   . have hlt:k<U.length:=by omega
     rw[Q3 hlt]at hd;refine aJ (p5 hlt) ?_;have hxm:U[k]∈U:=dC hlt;have hxl:=(hup.2 _ hxm).1;refine Tm.bind (Q:=λr=>(∃s'' k'',r=.inl (gV s'')/\jq K (e9 s v dT) (dJ s v) k'' s''/\(dJ s v).drop k''=(U.drop (k+1)).flatMap (λx=>W.map λy=>nK s.n v x y))\/r=.inr ((ct (e9 s v dT) (dJ s v)).1,(ct (e9 s v dT) (dJ s v)).2.to))
      (eE W.length (λm t=>∃s'' k'',jq K (e9 s v dT) (dJ s v) k'' s''/\(dJ s v).drop k''=rz s.n v U W k m/\t=(s''.to.aA,s''.to.aV,s''.to.u,s''.to.aM,s''.to.value,s''.to.aB,s''.to.aK,(m:Int))) ⟨s',k',hvv,hd,rfl⟩ ?_) ?_
     . rintro m hm _ ⟨s2,k2,hv2,hd2,rfl⟩;dsimp only[Hw];rw[fL];refine bB (λhlt2=>?_) (λhge2=>aI ?_)
       . have hlt2:m<W.length:=by omega
         rw[WB hlt hlt2]at hd2;have hk2l:k2<(dJ s v).length:=by
          rcases cG k2 (dJ s v).length with h1|h1
          . exact h1
          . rw[D1 h1]at hd2;cases hd2
         rw[gn hk2l]at hd2;obtain⟨e1,e2⟩:=sN hd2;have hym:W[m]∈W:=dC hlt2;have hyl:=(hlo.2 _ hym).1;have dx:=λj=>hup.vf hxm j;have dy:=λj=>hlo.vf hym j;have hact:=hA _ (dC hk2l);rw[e1]at hact;obtain⟨g1,g2,g3,g4⟩:=hv2.put hk2l e1 (K0:=Kk) hact hK;refine aJ (p5 hlt2) (aJ (dX (l:=(U[k]).g) (by omega)) (aJ (dX (l:=(W[m]).g) (by omega)) (aU (oR (bV (dy v) (by decide))) (aJ (iu (n:=s.n) rfl (by omega) (by decide)) ?_))));rw[<-nh];refine aU (a:=mB (comb s.n v U[k] W[m])) ?_ ?_
         . refine(Tm.rO (n:=s.n) (by omega) (λj=>-vf (W[m]).g v*vf (U[k]).g j+vf (U[k]).g v*vf (W[m]).g j) (by simp) (fin:=id) ?_ ?_)
           . intro j hj c hc hic;dsimp only[AP];have h1:=jO (-vf (W[m]).g v) (vf (U[k]).g j);have h2:=jO (vf (U[k]).g v) (vf (W[m]).g j);rw[gL]at h1;have:=dx j;have:=dx v;have:=dy j;have:=dy v;refine cR (by rw[dF,mg];omega) (aJ (dX (l:=(U[k]).g) (by omega)) (aU (pe (by rw[gL];omega) (by omega)) (aJ (dX (l:=(W[m]).g) (by omega)) (aU (pe (by omega) (by omega)) (aU (ox (by omega) (by omega)) (aJ hic (aJ (eH rfl (by omega)) (aI rfl))))))))
           . intro c hc;dsimp only[AP];exact cE (by rw[dF,mg];omega) (aI rfl)
         . have hns:s.to.n=s2.to.n:=by show(s.n:Int)=s2.n;rw[hv2.n];rfl
           rw[iO (x:=s2.to) hns];refine aU g1 ?_;have hns2:s.to.n=(put s2 (comb s.n v U[k] W[m]) [⟨(U[k]).pos,-vf (W[m]).g v⟩,⟨(W[m]).pos,vf (U[k]).g v⟩]).2.to.n:=by
            show(s.n:Int)=((put s2 _ _).2.n:Int);rw[g4];rfl
           refine bB (λhf=>aI (.inr ?_)) (λht=>aI ⟨hlt2,_,k2+1,g2 (by simpa using ht),e2,by rw[dV (by omega)]⟩);dsimp only;rw[iO hns2,g3 (by simpa using hf)]
       . have:m=W.length:=by omega
         subst this;rw[V6]at hd2;exact .inl ⟨s2,k2,rfl,hv2,hd2⟩
     . rintro r (⟨s2,k2,rfl,h1,h2⟩|rfl)
       . exact aI ⟨hlt,s2,k2,h1,h2,by rw[dV (by omega)]⟩
       . exact aI (.inr rfl)
   . have:k=U.length:=by omega
     subst this;rw[D5]at hd;refine .inl ⟨s',rfl,?_,hvv.n⟩;rw[hvv.run,hd];rfl
 . rintro r (⟨s',rfl,h1,h2⟩|rfl)
   . refine aI ?_;show(true,aS.mk s.to.n s'.to.aA s'.to.aV s'.to.u s'.to.aM s'.to.value s'.to.aB s'.to.aK)=_;rw[tE h2.symm,h1]
   . exact aI rfl
end Go.D
namespace Go.D
open Go Go.X
theorem Nt{α:Type}{a c:α->Int}:∀{U:List α},(∀x∈U,0<a x)->∃z:Int,∀x∈U,a x*z<=c x
 |[],_=>⟨0,λx hx=>by cases hx⟩
 |u::U,h=>by
  obtain⟨z,hz⟩:=Nt (c:=c) (U:=U) λx hx=>h x (cP _ hx);have hu:=h u cU;refine⟨min z ((c u).fdiv (a u)),λx hx=>?_⟩;rcases eJ.1 hx with rfl|hx
  . have h1:=qM (a:=c x) hu;have h2:=gU (Int.min_le_right z ((c x).fdiv (a x))) (eK hu);rw[fU (a x) ((c x).fdiv (a x))]at h2;omega
  . have h1:=hz x hx;have h2:=gU (Int.min_le_left z ((c u).fdiv (a u))) (eK (h x (cP _ hx)));omega
theorem JG{α:Type}{b d:α->Int}:∀{W:List α},W≠[]->(∀x∈W,0<b x)->∃z:Int,(∀x∈W,d x<=b x*z)/\∃x∈W,b x*z<=d x+b x-1
 |[],h0,_=>bX rfl h0
 |w::W,_,h=>by
  have hw:=h w cU;have h1:=qM (a:=-d w) hw;generalize hq:(-d w).fdiv (b w)=q at h1;have e1:b w*-q=-(q*b w):=by rw[mi,fU]
  by_cases hW:W=[]
  . subst hW;exact⟨-q,λx hx=>by rw[df.1 hx];omega,w,cU,by omega⟩
  . obtain⟨z,hz,x,hx,hxz⟩:=JG (d:=d) hW λx hx=>h x (cP _ hx);rcases xA (-q) z with hc|hc
    . refine⟨z,λy hy=>?_,x,cP _ hx,hxz⟩;rcases eJ.1 hy with rfl|hy
      . have:=gU hc (eK hw);omega
      . exact hz y hy
    . refine⟨-q,λy hy=>?_,w,cU,by omega⟩;rcases eJ.1 hy with rfl|hy
      . omega
      . have:=gU hc (eK (h y (cP _ hy)));have:=hz y hy;omega
theorem VT{α:Type}{U W:List α}{a c b d:α->Int}(ha:∀x∈U,0<a x)(hb:∀w∈W,0<b w)(h:∀x∈U,∀w∈W,(a x-1)*(b w-1)<=b w*c x-a x*d w):
 ∃z:Int,(∀x∈U,a x*z<=c x)/\∀w∈W,d w<=b w*z:=by
 by_cases hW:W=[]
 . subst hW;obtain⟨z,hz⟩:=Nt (c:=c) ha;exact⟨z,hz,λw hw=>by cases hw⟩
 . obtain⟨z,hz,w,hw,hwz⟩:=JG (d:=d) hW hb;refine⟨z,λx hx=>?_,hz⟩;have h1:=h x hx w hw;have hap:=ha x hx;have hbp:=hb w hw;have h2:=gU hwz (eK hap);have e1:a x*(b w*z)=b w*(a x*z):=by grind
   have e2:a x*(d w+b w-1)=a x*d w+a x*b w-a x:=by grind
   have e3:(a x-1)*(b w-1)=a x*b w-a x-b w+1:=by grind
   have h3:b w*(a x*z)<b w*(c x+1):=by rw[pM,xv];omega
   have:=IX h3 (eK hbp);omega
def gg(s:St)(v:Nat)(dT:Bool)(ats:List Nat):St:={s with aM:=s.aM.set v 2,aB:=s.aB.filter (λx=>!decide (vf x.g v≠0)),aK:=s.aK++[⟨v,ats,dT⟩]}
def fM(s:St)(v:Nat):List Nat:=(cT v s.aB++dQ v s.aB).map AI.pos
theorem Sg(s:St)(v:Nat)(dT:Bool):e9 s v dT=gg s v dT (fM s v):=rfl
theorem sC{s:St}{v:Nat}{t:Bool}{ats:List Nat}{x:AI}:x∈(gg s v t ats).aB↔x∈s.aB/\vf x.g v=0:=by
 show x∈s.aB.filter _↔_;simp[DO]
def zw(s:St)(v:Nat)(ats:List Nat):Prop:=∀p∈ats,p<s.aA.length/\(∀j,j<s.n->vf s.aM j≠0->cu s.u s.n (aG s.aA p).c j=0)/\cu s.u s.n (aG s.aA p).c v≠0
theorem J7{s:St}{v:Nat}(hI:Inv s)(hv:v<s.n):zw s v (fM s v):=by
 intro p hp;obtain⟨x,hx,rfl⟩:=eh.1 hp;have hx':x∈s.aB/\vf x.g v≠0:=by
  rcases gH.1 hx with h|h
  . have:=lG.1 h;exact⟨this.1,by omega⟩
  . have:=iT.1 h;exact⟨this.1,by omega⟩
 refine⟨(hI.it x hx'.1).1,λj hj hst=>?_,?_⟩
 . rw[<-hI.dG x hx'.1 j hj];exact hI.nf x hx'.1 j hj hst
 . rw[<-hI.dG x hx'.1 v hv];exact hx'.2
section
variable {s:St} {v:Nat} {t:Bool} {ats:List Nat}
theorem rX(hI:Inv s)(hv:v<s.n)(j:Nat):vf (gg s v t ats).aM j=if v=j then 2 else vf s.aM j:=iX (by rw[hI.gB];exact hv)
theorem Inv.gg(hI:Inv s)(hv:v<s.n)(hst:vf s.aM v=0)(ha:zw s v ats):Inv (gg s v t ats)where
 ul:=hI.ul
 gB:=by show(s.aM.set v 2).length=_;rw[gI];exact hI.gB
 vl:=hI.vl
 kl:=hI.kl
 it x hx:=hI.it x (sC.1 hx).1
 dG x hx:=hI.dG x (sC.1 hx).1
 nf x hx j hj h:=by
  rw[rX hI hv]at h;by_cases e:v=j
  . subst e;exact(sC.1 hx).2
  . rw[aQ e]at h;exact hI.nf x (sC.1 hx).1 j hj h
 ia x hx:=hI.ia x (sC.1 hx).1
 kr:=Qd _ hI.kr
 j1:=hI.j1
 stat j hj:=by
  rw[rX hI hv];split
  . exact .inr (.inr rfl)
  . exact hI.stat j hj
 sv e he:=by
  rcases gH.1 he with he|he
  . obtain⟨e1,e2,e3⟩:=hI.sv e he;refine⟨e1,?_,e3⟩;rw[rX hI hv];split
    . rfl
    . exact e2
  . rw[df.1 he];exact⟨hv,by rw[rX hI hv,bA rfl],λp hp=>(ha p hp).1⟩
 s2 j hj h:=by
  rw[rX hI hv]at h;by_cases e:v=j
  . exact⟨_,xt _ (df.2 rfl),e⟩
  . rw[aQ e]at h;obtain⟨e',he',hv'⟩:=hI.s2 j hj h;exact⟨e',DW _ he',hv'⟩
 sd:=by
  refine List.pairwise_append.2 ⟨hI.sd,List.pairwise_singleton _ _,λa ha' b hb=>?_⟩;rw[df.1 hb];obtain⟨a1,a2,_⟩:=hI.sv a ha';refine⟨λe=>?_,λp hp=>(ha p hp).2.1 a.v a1 (by omega)⟩;have e:a.v=v:=e;rw[e,hst]at a2;omega
theorem Lk{n:Nat}{x y:AI}:(comb n v x y).length=n:=dN
theorem Cv{n j:Nat}{x y:AI}(hj:j<n):vf (comb n v x y) j=-vf y.g v*vf x.g j+vf x.g v*vf y.g j:=db hj
theorem Mx{a b:Int}{A B:Nat}(ha:a.natAbs<=A)(hb:b.natAbs<=B):(a*b).natAbs<=A*B:=by rw[Ao];exact kY ha hb
theorem LC{Kk C:Nat}(hI:Inv s)(hs:ig Kk s)(hv:v<s.n)(hC:∀x∈s.aB,∀j,j<s.n->(vf x.g j).natAbs<=C)(hCb:C<=4294967296):
 ∀a∈dJ s v,(mr Kk (gg s v t ats) a/\zm (4*(C*C)) a)/\kO Kk (gg s v t ats) a:=by
 intro a ha;obtain⟨x,hx,y,hy,rfl⟩:=LR.1 ha;obtain⟨hxm,hxv⟩:=lG.1 hx;obtain⟨hym,hyv⟩:=iT.1 hy;obtain⟨x1,x2⟩:=hI.it x hxm;obtain⟨y1,y2⟩:=hI.it y hym;have hC2:C*C<=4294967296*4294967296:=kY hCb hCb;have hb:∀j,j<s.n->(vf (comb s.n v x y) j).natAbs<=2*(C*C):=λj hj=>by
  rw[Cv hj];have h1:=Mx (a:=-vf y.g v) (b:=vf x.g j) (A:=C) (B:=C) (by rw[D9];exact hC y hym v hv) (hC x hxm j hj);have h2:=Mx (hC x hxm v hv) (hC y hym j hj);omega
 have hgb:GB (4*(C*C)) (comb s.n v x y):=λw hw=>by
  obtain⟨j,hj,rfl⟩:=gw hw;rw[Lk]at hj;have:=hb j hj;omega
 have hd4:∀w∈comb s.n v x y,dl w<=4:=λw hw=>A3 (DV (hgb w hw) (by omega));have hU:∀{z:AI} {m:Int},z∈s.aB->0<=m->m.natAbs<=C->np s.n Kk s.aA ⟨z.pos,m⟩:=λ{z m} hz hm hmC=>by
  have h1:=(hI.it z hz).1;have h2:=hs.k _ (eW h1);exact⟨h1,hm,A3 (show m.natAbs<_ by omega),h2.1,h2.2⟩
 have hP:gX Kk (gg s v t ats) (comb s.n v x y) [⟨x.pos,-vf y.g v⟩,⟨y.pos,vf x.g v⟩]:=⟨Lk,λw hw=>bV (hd4 w hw) (by decide),by simp,by simp,λu hu=>by
  rcases eJ.1 hu with rfl|hu
  . exact hU hxm (by omega) (by rw[D9];exact hC y hym v hv)
  . rw[df.1 hu];exact hU hym (by omega) (hC x hxm v hv)⟩
 refine⟨⟨hP,hgb⟩,hP,⟨λj hj=>?_,λj hj h=>?_⟩,?_⟩
 . have hj:j<s.n:=hj;rw[Cv hj];show _=cu s.u s.n (vec s.n (eQ s.aA _)) j;have e:cu s.u s.n (vec s.n (eQ s.aA [⟨x.pos,-vf y.g v⟩,⟨y.pos,vf x.g v⟩])) j=cu s.u s.n (vec s.n λi=>-vf y.g v*vf (aG s.aA x.pos).c i) j+vf x.g v*cu s.u s.n (aG s.aA y.pos).c j:=AD λr hr=>by
    rw[db hr,db hr];show-vf y.g v*vf (aG s.aA x.pos).c r+(vf x.g v*vf (aG s.aA y.pos).c r+0)=_;omega
   have e2:cu s.u s.n (vec s.n λi=>-vf y.g v*vf (aG s.aA x.pos).c i) j=-vf y.g v*cu s.u s.n (aG s.aA x.pos).c j:=zW λr hr=>db hr;rw[e,e2,<-hI.dG x hxm j hj,<-hI.dG y hym j hj]
 . have hj:j<s.n:=hj;rw[rX hI hv]at h;rw[Cv hj];by_cases e:v=j
   . subst e;rw[mh,fU (vf x.g v)];omega
   . rw[aQ e]at h;rw[hI.nf x hxm j hj h,hI.nf y hym j hj h];simp
 . unfold dv;split
   . exact bV kE (by decide)
   . exact wY hd4
def BD(s:St)(v:Nat)(y:Nat->Int):Prop:=∀x∈cT v s.aB,∀w∈dQ v s.aB,-vf w.g v*bK (vf x.g) y s.n+vf x.g v*bK (vf w.g) y s.n≤-vf w.g v*(aG s.aA x.pos).b+vf x.g v*(aG s.aA w.pos).b
theorem Uh{n:Nat}{x w:AI}{y:Nat->Int}:bK (vf (comb n v x w)) y n=-vf w.g v*bK (vf x.g) y n+vf x.g v*bK (vf w.g) y n:=by
 rw[ed (f':=λj=>-vf w.g v*vf x.g j+vf x.g v*vf w.g j) (g':=y) (λj hj=>Cv hj) λ_ _=>rfl,rZ,qe]
theorem NZ{Kk M:Nat}{c:St}(hA:wG Kk M (gg s v t ats) (dJ s v) true c){y:Nat->Int}(hy:∀z∈c.aB,IH c y z):(∀z∈s.aB,vf z.g v=0->IH s y z)/\BD s v y:=by
 obtain⟨h1,h2⟩:=hA.imp rfl y hy;refine⟨λz hz h0=>h1 z (sC.2 ⟨hz,h0⟩),λx hx w hw=>?_⟩;have:bK (vf (comb s.n v x w)) y s.n≤-vf w.g v*(aG s.aA x.pos).b+(vf x.g v*(aG s.aA w.pos).b+0):=h2 (nK s.n v x w) (LR.2 ⟨x,hx,w,hw,rfl⟩);rw[Uh]at this;omega
theorem Si{s0 c:St}{Kk M:Nat}(hI0:Inv s0)(hI:Inv s)(hk:Kept s0 s)(hv:v<s.n)(hst:vf s.aM v=0)
 (hcov:∀y,(∀x∈s.aB,vf x.g v=0->IH s y x)->(∀p∈ats,hx s (ux s y) p)->∀x∈s0.aB,IH s0 y x)
 (hats:zw s v ats)(hA:wG Kk M (gg s v t ats) (dJ s v) true c):iQ s0 c:=by
 obtain⟨e1,he1⟩:=hk.kn;obtain⟨e2,he2⟩:=hA.kept.kn;have he2:c.aA=s.aA++e2:=he2;have hn:c.n=s.n:=hA.kept.n;have hn0:s.n=s0.n:=hk.n;have hu:c.u=s.u:=hA.kept.u;have hux:∀y i,ux c y i=ux s y i:=λy i=>by unfold ux;rw[hu,hn]
 have hux0:∀y i,ux s y i=ux s0 y i:=λy i=>by unfold ux;rw[hk.u,hk.n]
 have hstat:∀j,vf c.aM j=if v=j then 2 else vf s.aM j:=λj=>by rw[hA.kept.aM];exact rX hI hv j
 have hstk:c.aK=s0.aK++[⟨v,ats,t⟩]:=by rw[hA.kept.ep,<-hk.ep];rfl
 refine⟨hn.trans hn0,⟨e1++e2,by rw[he2,he1,jS]⟩,⟨_,hstk⟩,λj hj hs=>?_,λy=>⟨y,λi _=>(hux y i).trans (hux0 y i),λ_ _ _=>rfl,λk hkl ⟨h1,h2,h3⟩=>?_⟩⟩
 . have hvj:v≠j:=λe=>hs (by rw[<-e,<-hk.aM];exact hst);exact⟨by rw[hstat,aQ hvj,hk.aM],λ_=>by rw[hA.kept.value];show vf s.value j=_;rw[hk.value],λi _=>by rw[hu,hk.u]⟩
 . obtain⟨g1,_⟩:=NZ hA h2;have hats2:∀p∈ats,hx s (ux s y) p:=λp hp=>by
    have h4:=h3 ⟨v,ats,t⟩ (by rw[hstk,DU hkl];simp) p hp;exact(tR hn he2 (hats p hp).1 λi _=>hux y i).1 h4
   refine⟨λj hj hs=>?_,hcov y g1 hats2,λe' he' p hp=>?_⟩
   . have hvj:v≠j:=λe=>by rw[<-e,<-hk.aM,hst]at hs;omega
     have:=h1 j (by rw[hn,hn0];exact hj) (by rw[hstat,aQ hvj,hk.aM];exact hs);rw[this,hA.kept.value];show vf s.value j=_;rw[hk.value]
   . have h4:=h3 e' (by rw[hstk,DU hkl];exact DW _ he') p hp;exact(tR (hn.trans hn0) (e:=e1++e2) (by rw[he2,he1,jS]) ((hI0.sv e' (II he')).2.2 p hp) λi _=>(hux y i).trans (hux0 y i)).1 h4
theorem Wv{c:St}{Kk M k:Nat}(hI:Inv s)(hv:v<s.n)(hats:zw s v ats)(hA:wG Kk M (gg s v t ats) (dJ s v) true c)(hz:∀y,BD s v y->∃z,∀p∈ats,hx s (ux s (cX y v z)) p):
 ∀y,Hs c y k->∃z,∀p∈ats,hx c (ux c (cX y v z)) p:=by
 intro y ⟨_,h2,_⟩;obtain⟨z,hz⟩:=hz y (NZ hA h2).2;obtain⟨e2,he2⟩:=hA.kept.kn;have hn:c.n=s.n:=hA.kept.n;refine⟨z,λp hp=>(tR hn he2 (hats p hp).1 λi _=>?_).2 (hz p hp)⟩;unfold ux;rw[hA.kept.u,hn];rfl
theorem F7{x:AI}{y:Nat->Int}{z:Int}(hv:v<s.n):IH s (cX y v z) x↔vf x.g v*z<=(aG s.aA x.pos).b-bK (vf x.g) y s.n+vf x.g v*y v:=by
 unfold IH;rw[uy hv,Int.mul_sub];omega
theorem Mf{y:Nat->Int}(hv:v<s.n)(Wb:AI->Int)
 (h:∀x∈cT v s.aB,∀w∈dQ v s.aB,(vf x.g v-1)*(-vf w.g v-1)<=(-vf w.g v*(aG s.aA x.pos).b+vf x.g v*Wb w)-(-vf w.g v*bK (vf x.g) y s.n+vf x.g v*bK (vf w.g) y s.n)):
 ∃z,(∀x∈cT v s.aB,IH s (cX y v z) x)/\∀w∈dQ v s.aB,vf w.g v*z<=Wb w-bK (vf w.g) y s.n+vf w.g v*y v:=by
 obtain⟨z,h1,h2⟩:=VT (U:=cT v s.aB) (W:=dQ v s.aB) (a:=λx=>vf x.g v) (b:=λw=>-vf w.g v) (c:=λx=>(aG s.aA x.pos).b-bK (vf x.g) y s.n+vf x.g v*y v) (d:=λw=>-(Wb w-bK (vf w.g) y s.n+vf w.g v*y v))
  (λx hx=>(lG.1 hx).2) (λw hw=>by have:=(iT.1 hw).2;omega) (λx hx w hw=>by
   have:=h x hx w hw;generalize vf x.g v=a at*;generalize vf w.g v=b at*;generalize(aG s.aA x.pos).b=B at*;generalize bK (vf x.g) y s.n=X at*;generalize bK (vf w.g) y s.n=Y at*;grind)
 refine⟨z,λx hx=>(F7 hv).2 (h1 x hx),λw hw=>?_⟩;have:=h2 w hw;rw[mh]at this;omega
end
open Go Go.X
def CO(N:Nat)(s:aS)(x1:(List aC)):((List aC)×Int)->Option (aH ((List aC)×Int) (List aC))
 |(b,a)=>(if(a:Int)<(List.length x1:Int)then ((((idx s.aM a).bind λc=>(if(c:Int)=1 then (idx s.value a).bind λd=>(idx b a).bind λg=>(dw b a d).bind λe=>some e else some b)):Option (List aC))).bind λss=>match ss with
    |f=>some (aH.next (f,(iw (a+1)))) else some (aH.done b))
def oZ(N:Nat)(s:aS):Nat->List aC->Bool
 |0,_=>true
 |k+1,y=>s.aK.all λe=>match pF N s e y with
  |none=>false
  |some (n,ok)=>if ok then(match dw y e.v n with
   |none=>false
   |some y=>oZ N s k y)else true
def iR(N:Nat)(s:aS):List dW->List aC->Option (Sum (List aC) Int)
 |[],y=>some (.inl y)
 |e::r,y=>(pF N s e y).bind λ(n,ok)=>if ok then(dw y e.v n).bind (iR N s r)else some (.inr e.v)
def uM(N:Nat)(s:aS):Option cD:=(fZ (α:=aC) 32 (aC.mk false ([]:(List Int))) s.n).bind λx1=>(bO (CO N s x1) N (x1,0)).bind λy=>if s.aK.length<=9223372036854775807/\oZ N s s.aK.length y=true then (iR N s s.aK.reverse y).bind λ
  |.inr v=>some (cD.mk 2 [] (Proof.mk [] [] (aC.mk false []) []) v)
  |.inl y=>(mZ N s y).bind λx=>some (cD.mk 0 x (Proof.mk [] [] (aC.mk false []) []) 0) else none
def tG(N:Nat)(run:aS->Option cD)(self:aS->bD->aC->aC->Option cD)(s:aS)(low:bD)(k:aC)(most:aC):Option cD:=(jx N k most).bind λr1=>(if(r1:Int)=0 then (ry N s).bind λr7=>(run r7).bind λr8=>some r8 else (idx s.aA low.pos).bind λx9=>(nY N x9.bG).bind λf=>(jZ N x9.dS).bind λi=>(ov N s (bI.mk f i)).bind λc=>(nY N low.g).bind λj=>(mz N c (bD.mk (iw ((List.length c.aA:Int)-1)) j)).bind λb=>(run (aS.mk c.n b.aA b.aV b.u b.aM b.value b.aB b.aK)).bind λd=>(if(d.kind:Int)≠1 then some d else (gF N 1).bind λl=>(jL N x9.dS l).bind λm=>(ov N s (bI.mk x9.bG m)).bind λa=>(wv N a.aB low.pos (iw ((List.length a.aA:Int)-1))).bind λo=>(gF N 1).bind λp=>(jK N k p).bind λv=>(self (aS.mk a.n a.aA a.aV a.u a.aM a.value o a.aK) (bD.mk (iw ((List.length a.aA:Int)-1)) low.g) v most).bind λe=>(if(e.kind:Int)≠1 then some e else (sq N s f i d e).bind λy=>some y)))
def rE:Nat->(aS->Option cD)->aS->bD->aC->aC->Option cD
 |0=>λ_ _ _ _ _=>none
 |N+1=>λrun=>tG N run (rE N run)
def vm(N:Nat)(run:aS->Option cD)(self:aS->Int->(List bD)->(List Int)->Option cD)(v:Int)(r1:((List bD)×(List bD))):(List bD)->Option (aH (List bD) (List bD))
 |a=>((((if((List.length a:Int):Int)>0 then (idx a 0).bind λb=>(qg N v b r1.1).bind λc=>(im N c).bind λd=>some (decide ((d:Int)<0)) else some false)):Option Bool)).bind λss=>match ss with
   |e=>(if e=true then (cut a 1 (List.length a:Int)).bind λf=>some (aH.next f) else some (aH.done a))
def qs(N:Nat)(run:aS->Option cD)(self:aS->Int->(List bD)->(List Int)->Option cD)(s:aS)(v:Int)(lows:(List bD))(vat3:(List Int)):Option cD:=(tx N s v).bind λr1=>(bO (vm N run self v r1) N lows).bind λss=>match ss with
  |d=>(if((List.length d:Int):Int)=0 then (ry N s).bind λi=>(oL N i v false).bind λa=>(idx a.2.aK (iw ((List.length a.2.aK:Int)-1))).bind λo=>(dw a.2.aK (iw ((List.length a.2.aK:Int)-1)) (dW.mk o.v vat3 o.dT)).bind λp=>(if(!a.1)=true then (km N (aS.mk i.n a.2.aA a.2.aV a.2.u a.2.aM a.2.value a.2.aB p)).bind λa1=>some a1 else (run (aS.mk i.n a.2.aA a.2.aV a.2.u a.2.aM a.2.value a.2.aB p)).bind λa2=>some a2) else (idx d 0).bind λe=>(idx d 0).bind λa3=>(qg N v a3 r1.1).bind λj=>(idx s.aA e.pos).bind λf=>(nY N f.bG).bind λy=>(jL N f.dS j).bind λa4=>(gF N 1).bind λa5=>(jL N a4 a5).bind λa6=>(ov N s (bI.mk f.bG a6)).bind λb=>(wv N b.aB e.pos (iw ((List.length b.aA:Int)-1))).bind λa7=>(cut d 1 (List.length d:Int)).bind λa8=>(self (aS.mk b.n b.aA b.aV b.u b.aM b.value a7 b.aK) v a8 vat3).bind λk=>(if(k.kind:Int)≠1 then some k else (jL N j f.dS).bind λa0=>(ov N s (bI.mk y a0)).bind λl=>(nY N e.g).bind λa9=>(mz N l (bD.mk (iw ((List.length l.aA:Int)-1)) a9)).bind λc=>(rE N run (aS.mk l.n c.aA c.aV c.u c.aM c.value c.aB c.aK) e (aC.mk false ([]:(List Int))) j).bind λm=>(if(m.kind:Int)≠1 then some m else (sq N s y a0 m k).bind λaa=>some aa)))
def nI:Nat->(aS->Option cD)->aS->Int->(List bD)->(List Int)->Option cD
 |0=>λ_ _ _ _ _=>none
 |N+1=>λrun=>qs N run (nI N run)
def xY(N:Nat)(run:aS->Option cD)(s:aS)(c:iD):Option cD:=(jK N c.low c.high).bind λr1=>(gF N 2).bind λr2=>(lO N r1 r2).bind λr3=>(idx s.aA c.up.pos).bind λx4=>(ov N s (bI.mk x4.bG r3.1)).bind λr5=>(mz N r5 (bD.mk (iw ((List.length r5.aA:Int)-1)) c.up.g)).bind λr6=>(run (aS.mk r5.n r6.aA r6.aV r6.u r6.aM r6.value r6.aB r6.aK)).bind λr7=>(if(r7.kind:Int)≠1 then some r7 else (nY N x4.bG).bind λe=>(jZ N r3.1).bind λf=>(gF N 1).bind λi=>(jL N f i).bind λj=>(ov N s (bI.mk e j)).bind λb=>(nY N c.up.g).bind λk=>(mz N b (bD.mk (iw ((List.length b.aA:Int)-1)) k)).bind λa=>(run (aS.mk b.n a.aA a.aV a.u a.aM a.value a.aB a.aK)).bind λd=>(if(d.kind:Int)≠1 then some d else (sq N s x4.bG r3.1 r7 d).bind λl=>some l))
def HJ(N:Nat)(run:aS->Option cD)(b:(List bD)):((List Int)×Int)->Option (aH ((List Int)×Int) (List Int))
 |(c,a)=>(if(a:Int)<(List.length b:Int)then (idx b a).bind λd=>(cY 8 c [d.pos]).bind λe=>some (aH.next (e,(iw (a+1)))) else some (aH.done c))
def wV(N:Nat)(run:aS->Option cD)(s:aS)(v:Int):Option cD:=(xN N s).bind λr1=>((((if r1.2=true then (jL N r1.1.high r1.1.low).bind λe=>((((gF N 64).bind λf=>(jx N e f).bind λg=>(if(g:Int)<=0 then (zQ N s v).bind λi=>(jx N e i).bind λj=>some (decide ((j:Int)<0)) else some false)):Option Bool)).bind λss=>match ss with
   |k=>(if k=true then (xY N run s r1.1).bind λl=>some (Sum.inr l) else some (Sum.inl ())) else some (Sum.inl ()))):Option (Sum Unit cD))).bind λss=>match ss with
  |(Sum.inl _)=>(ry N s).bind λb=>(oL N b v true).bind λa=>(if(!a.1)=true then (km N (aS.mk b.n a.2.aA a.2.aV a.2.u a.2.aM a.2.value a.2.aB a.2.aK)).bind λm=>some m else (run (aS.mk b.n a.2.aA a.2.aV a.2.u a.2.aM a.2.value a.2.aB a.2.aK)).bind λc=>((((if(c.kind:Int)≠2 then some true else some (decide ((c.v:Int)≠v)))):Option Bool)).bind λss=>match ss with
     |o=>(if o=true then some c else (tx N s v).bind λd=>(vZ N [d.1,d.2]).bind λp=>(bO (HJ N run p) N (([]:(List Int)),0)).bind λss=>match ss with
        |y=>(nI N run s v d.2 y).bind λa0=>some a0))
  |(Sum.inr z)=>some z
def wj(N:Nat)(self:aS->Option cD)(s:aS):((List bI)×(List Step)×(List (List aC))×(List Int)×(List aC)×(List bD)×(List dW))->Option (aH ((List bI)×(List Step)×(List (List aC))×(List Int)×(List aC)×(List bD)×(List dW)) cD)
 |(e,f,g,i,j,k,l)=>(rG N (aS.mk s.n e f g i j k l)).bind λa=>(if(!a.2.2.2.1)=true then (km N (aS.mk s.n a.2.2.2.2.aA a.2.2.2.2.aV a.2.2.2.2.u a.2.2.2.2.aM a.2.2.2.2.value a.2.2.2.2.aB a.2.2.2.2.aK)).bind λm=>some (aH.done m) else (if a.2.2.1=true then (pA N (aS.mk s.n a.2.2.2.2.aA a.2.2.2.2.aV a.2.2.2.2.u a.2.2.2.2.aM a.2.2.2.2.value a.2.2.2.2.aB a.2.2.2.2.aK) a.1 a.2.1).bind λb=>(if(!b.1)=true then (km N (aS.mk s.n b.2.aA b.2.aV b.2.u b.2.aM b.2.value b.2.aB b.2.aK)).bind λo=>some (aH.done o) else some (aH.next (b.2.aA,b.2.aV,b.2.u,b.2.aM,b.2.value,b.2.aB,b.2.aK))) else (vR N (aS.mk s.n a.2.2.2.2.aA a.2.2.2.2.aV a.2.2.2.2.u a.2.2.2.2.aM a.2.2.2.2.value a.2.2.2.2.aB a.2.2.2.2.aK)).bind λd=>(if(!d.2)=true then (uM N (aS.mk s.n a.2.2.2.2.aA a.2.2.2.2.aV a.2.2.2.2.u a.2.2.2.2.aM a.2.2.2.2.value a.2.2.2.2.aB a.2.2.2.2.aK)).bind λp=>some (aH.done p) else (vd N (aS.mk s.n a.2.2.2.2.aA a.2.2.2.2.aV a.2.2.2.2.u a.2.2.2.2.aM a.2.2.2.2.value a.2.2.2.2.aB a.2.2.2.2.aK) d.1).bind λv=>(if(!v)=true then (wV N self (aS.mk s.n a.2.2.2.2.aA a.2.2.2.2.aV a.2.2.2.2.u a.2.2.2.2.aM a.2.2.2.2.value a.2.2.2.2.aB a.2.2.2.2.aK) d.1).bind λy=>some (aH.done y) else (oL N (aS.mk s.n a.2.2.2.2.aA a.2.2.2.2.aV a.2.2.2.2.u a.2.2.2.2.aM a.2.2.2.2.value a.2.2.2.2.aB a.2.2.2.2.aK) d.1 false).bind λc=>(if(!c.1)=true then (km N (aS.mk s.n c.2.aA c.2.aV c.2.u c.2.aM c.2.value c.2.aB c.2.aK)).bind λa0=>some (aH.done a0) else some (aH.next (c.2.aA,c.2.aV,c.2.u,c.2.aM,c.2.value,c.2.aB,c.2.aK)))))))
def yc(N:Nat)(self:aS->Option cD)(s:aS):Option cD:=(bO (wj N self s) N (s.aA,s.aV,s.u,s.aM,s.value,s.aB,s.aK)).bind λss=>match ss with
  |z=>some z
def kP:Nat->aS->Option cD
 |0=>λ_=>none
 |N+1=>yc N (kP N)
def p8(N:Nat)(n:Int)(system:(List bI)):Option cD:=(xe N n system).bind λr1=>(rv N r1).bind λr2=>(if(!r2.1)=true then (km N (aS.mk r1.n r2.2.aA r2.2.aV r2.2.u r2.2.aM r2.2.value r2.2.aB r2.2.aK)).bind λr7=>some r7 else (kP N (aS.mk r1.n r2.2.aA r2.2.aV r2.2.u r2.2.aM r2.2.value r2.2.aB r2.2.aK)).bind λr8=>some r8)
def sG(N:Nat)(n:Int)(l:(List Constraint)):Option ((List aC)×Proof×Bool):=(uH N l n).bind λr1=>(p8 N n r1).bind λr2=>(if(r2.kind:Int)=0 then some (r2.x,(Proof.mk ([]:(List Step)) ([]:(List aC)) (aC.mk false ([]:(List Int))) ([]:(List Proof))),true) else some (([]:(List aC)),r2.proof,false))
def ug(N:Nat)(c:Constraint):Option Bool:= some (!c.eP)
def yY(N:Nat)(n:Int)(r4:aS):((List bI)×(List Step)×(List (List aC))×(List Int)×(List aC)×(List bD)×(List dW))->Option (aH ((List bI)×(List Step)×(List (List aC))×(List Int)×(List aC)×(List bD)×(List dW)) (Sum ((List bI)×(List Step)×(List (List aC))×(List Int)×(List aC)×(List bD)×(List dW)) ((List aC)×(List (List aC))×Bool)))
 |(c,d,e,f,g,i,j)=>(rG N (aS.mk r4.n c d e f g i j)).bind λa=>(if(!a.2.2.2.1)=true then some (aH.done (Sum.inr (([]:(List aC)),([]:(List (List aC))),false))) else (if(!a.2.2.1)=true then some (aH.done (Sum.inl (a.2.2.2.2.aA,a.2.2.2.2.aV,a.2.2.2.2.u,a.2.2.2.2.aM,a.2.2.2.2.value,a.2.2.2.2.aB,a.2.2.2.2.aK))) else (pA N (aS.mk r4.n a.2.2.2.2.aA a.2.2.2.2.aV a.2.2.2.2.u a.2.2.2.2.aM a.2.2.2.2.value a.2.2.2.2.aB a.2.2.2.2.aK) a.1 a.2.1).bind λb=>(if(!b.1)=true then some (aH.done (Sum.inr (([]:(List aC)),([]:(List (List aC))),false))) else some (aH.next (b.2.aA,b.2.aV,b.2.u,b.2.aM,b.2.value,b.2.aB,b.2.aK)))))
def Dt(N:Nat)(n:Int)(c:(List (List aC)))(d:Int):((List aC)×Int)->Option (aH ((List aC)×Int) (List aC))
 |(b,a)=>(if(a:Int)<n then (idx c a).bind λe=>(idx e d).bind λf=>(idx b a).bind λi=>(dw b a f).bind λg=>some (aH.next (g,(iw (a+1)))) else some (aH.done b))
def yE(N:Nat)(n:Int)(d:(List Int))(e:(List aC))(f:(List (List aC))):((List aC)×(List (List aC))×Int)->Option (aH ((List aC)×(List (List aC))×Int) ((List aC)×(List (List aC))))
 |(b,c,a)=>(if(a:Int)<n then ((((idx d a).bind λg=>(if(g:Int)=1 then (idx e a).bind λi=>(idx b a).bind λs=>(dw b a i).bind λj=>some (j,c) else (fZ (α:=aC) 32 (aC.mk false ([]:(List Int))) n).bind λk=>(bO (Dt N n f a) N (k,0)).bind λss=>match ss with
     |l=>(cY 24 c [l]).bind λm=>some (b,m))):Option ((List aC)×(List (List aC))))).bind λss=>match ss with
    |(o,p)=>some (aH.next (o,p,(iw (a+1)))) else some (aH.done (b,c)))
def zV(N:Nat)(n:Int)(l:(List Constraint)):Option ((List aC)×(List (List aC))×Bool):=(C5 N l).bind λr1=>(xE N r1 (λy0=>ug N y0)).bind λr2=>(uH N r2 n).bind λr3=>(xe N n r3).bind λr4=>(rv N r4).bind λr5=>(if(!r5.1)=true then some (([]:(List aC)),([]:(List (List aC))),false) else (bO (yY N n r4) N (r5.2.aA,r5.2.aV,r5.2.u,r5.2.aM,r5.2.value,r5.2.aB,r5.2.aK)).bind λss=>match ss with
   |(Sum.inl (d,e,a,b,c,f,g))=>(fZ (α:=aC) 32 (aC.mk false ([]:(List Int))) n).bind λi=>(bO (yE N n b c a) N (i,([]:(List (List aC))),0)).bind λss=>match ss with
     |(j,k)=>(mZ N (aS.mk r4.n d e a b c f g) j).bind λm=>some (m,k,true)
   |(Sum.inr z)=>some z)
def L5(N:Nat)(system:(List bI)):((List bI)×Int)->Option (aH ((List bI)×Int) (List bI))
 |(b,a)=>(if(a:Int)<(List.length system:Int)then (idx system a).bind λc=>(cY 56 b [(bI.mk c.bG (aC.mk false ([]:(List Int))))]).bind λd=>some (aH.next (d,(iw (a+1)))) else some (aH.done b))
def Fk(N:Nat)(n:Int)(system:(List bI))(v:Int):Option Bool:=(bO (L5 N system) N (([]:(List bI)),0)).bind λss=>match ss with
  |a=>(gF N (-1)).bind λb=>(CY N n v 1 b).bind λc=>(cY 56 a [c]).bind λd=>(p8 N n d).bind λe=>some (decide ((e.kind:Int)=0))
def MO(N:Nat)(n:Int)(v:Int)(g:aC)(r1:(List bI)):(aC×aC×Bool×aC)->Option (aH (aC×aC×Bool×aC) (aC×Bool))
 |(a,c,d,b)=>((((jL N a b).bind λi=>((((if d=true then (jK N c a).bind λj=>(gF N 2).bind λk=>(lO N j k).bind λl=>(jL N a c).bind λm=>(jx N m g).bind λo=>(if(o:Int)<=0 then some (Sum.inr (a,true)) else some (Sum.inl l.1)) else some (Sum.inl i))):Option (Sum aC (aC×Bool)))).bind λss=>match ss with
   |(Sum.inl e)=>(Bd N r1).bind λp=>(CY N n v 1 e).bind λs=>(cY 56 p [s]).bind λu=>(p8 N n u).bind λf=>(if(f.kind:Int)=0 then (idx f.x v).bind λy=>(jK N b b).bind λa0=>some (Sum.inl (y,c,d,a0)) else some (Sum.inl (a,e,true,b)))
   |(Sum.inr z)=>some (Sum.inr z)):Option (Sum (aC×aC×Bool×aC) (aC×Bool)))).bind λss=>match ss with
   |(Sum.inl (a1,a2,a3,a4))=>some (aH.next (a1,a2,a3,a4))
   |(Sum.inr z)=>some (aH.done z)
def GK(N:Nat)(n:Int)(l:(List Constraint))(v:Int):Option (aC×Bool):=(uH N l n).bind λr1=>(p8 N n r1).bind λr2=>((((if(r2.kind:Int)≠0 then some true else (Fk N n r1 v).bind λb=>some b)):Option Bool)).bind λss=>match ss with
  |x6=>(if x6=true then some ((aC.mk false ([]:(List Int))),false) else (gF N 1).bind λa=>(idx r2.x v).bind λc=>(bO (MO N n v a r1) N (c,(aC.mk false ([]:(List Int))),false,a)).bind λss=>match ss with
     |z=>some z)
end Go.D
namespace Go.D
open Go Go.X
structure j5 (K Ku:Nat)(s:St):Prop where
 n:s.n<=4
 hK:K<=536870912
 oN:Ku<=17179869184
 u:SU Ku s
 k:∀q∈s.aA,gu K q/\q.c.length=s.n
 kl:s.aA.length<=1073741824
theorem rP{f g:Nat->Int}{A B:Nat}(hf:∀j,dl (f j)<=A)(hg:∀j,dl (g j)<=B):∀n,dl (bK f g n)<=A+B+n
 |0=>by show dl 0<=_;rw[fw];omega
 |n+1=>by
  have h1:=rP hf hg n;have h2:=jO (f n) (g n);have:=hf n;have:=hg n;exact pV (K:=A+B+n) h1 (by omega)
section
variable {K Ku:Nat} {s:St}
theorem j5.mx(h:j5 K Ku s)(i j:Nat):dl (mx s.u i j)<=Ku:=by
 unfold D.mx;rcases cG i s.u.length with hi|hi
 . rw[cL,cy hi];exact(h.u.u.2 _ (dC hi)).vf j
 . rw[cL,gm hi];show dl (vf [] j)<=_;rw[jA (by simp),fw];omega
theorem j5.q(h:j5 K Ku s)(p j:Nat):dl (vf (aG s.aA p).c j)<=K:=by
 rcases cG p s.aA.length with hp|hp
 . exact(h.k _ (eW hp)).1.vf j
 . unfold aG;rw[cL,gm hp];show dl (vf [] j)<=_;rw[jA (by simp),fw];omega
theorem j5.cu(h:j5 K Ku s)(p j:Nat):dl (cu s.u s.n (aG s.aA p).c j)<=K+Ku+4:=by
 have:=rP (f:=vf (aG s.aA p).c) (g:=λi=>D.mx s.u i j) (h.q p) (λi=>h.mx i j) s.n;have:=h.n;show dl (bK _ _ _)<=_;omega
theorem G8(h:j5 K Ku s){i:Nat}(hi:i<s.n):∃r:List Int,idx s.to.u (i:Int)=some (mB r)/\r.length=s.n/\∀j,vf r j=mx s.u i j:=by
 have hl:i<s.u.length:=by rw[h.u.u.1];exact hi
 refine⟨s.u[i],?_,(h.u.u.2 _ (dC hl)).1,λj=>?_⟩
 . show idx (s.u.map mB) _=_;rw[dt (by simpa using hl),k6]
 . unfold mx;rw[cL,cy hl];rfl
theorem NT(h:j5 K Ku s){p j:Nat}(hp:p<s.aA.length)(hj:j<s.n):Tm (λN=>vL N s.to (p:Int) (j:Int)) (·=B (cu s.u s.n (aG s.aA p).c j)):=by
 have hL:cM=1099511627776:=rfl;have hK:=h.hK;have oN:=h.oN;have hn:=h.n;have hql:=(h.k _ (eW hp)).2;unfold vL;refine aJ (pC hp) ?_;refine aU (a:=B (cu s.u s.n (aG s.aA p).c j)) (eE s.n (λk t=>t=(B (bK (vf (aG s.aA p).c) (λi=>mx s.u i j) k),(k:Int))) (by show(_,_)=_;rw[show bK _ _ 0=0 from rfl,B0];rfl) ?_) (aI rfl);rintro k hk _ rfl;dsimp only[HL];have hcl:(aG s.aA p).to.bG.length=s.n:=(dF _).trans hql;rw[hcl];refine bB (λhlt=>?_) (λhge=>aI ?_)
 . have hlt:k<s.n:=by omega
   obtain⟨r,hr,hrl,hrv⟩:=G8 h hlt;have d1:=h.q p k;have d2:=h.mx k j;have d3:=rP (f:=vf (aG s.aA p).c) (g:=λi=>mx s.u i j) (h.q p) (λi=>h.mx i j) k;have d4:=jO (vf (aG s.aA p).c k) (mx s.u k j);refine aJ (dX (l:=(aG s.aA p).c) (by omega)) (aJ hr (aJ (dX (l:=r) (by omega)) ?_));rw[hrv];exact aU (pe (by omega) (by omega)) (aU (ox (by omega) (by omega)) (aI ⟨hlt,by rw[dV (by omega)];rfl⟩))
 . have:k=s.n:=by omega
   subst this;rfl
def rst(s:St)(v:Nat)(y:Nat->Int)(p:Nat):Int:=(aG s.aA p).b-bK (cu s.u s.n (aG s.aA p).c) (cX y v 0) s.n
theorem WG{y:Nat->Int}{v:Nat}{z w:Int}:cX (cX y v z) v w=cX y v w:=by
 funext j;unfold cX;split<;>rfl
theorem VK{v p:Nat}{y:Nat->Int}{z:Int}(hv:v<s.n):hx s (ux s (cX y v z)) p↔cu s.u s.n (aG s.aA p).c v*z<=rst s v y p:=by
 unfold hx rst;rw[C3];have h:=uy (f:=cu s.u s.n (aG s.aA p).c) (y:=cX y v 0) (z:=z) hv;rw[WG]at h;rw[h];have:cX y v 0 v=0:=by unfold cX;rw[bA rfl]
 rw[this,xB];omega
theorem KD{y:Nat->Int}{v D:Nat}(hy:∀j,dl (y j)<=D)(j:Nat):dl (cX y v 0 j)<=D:=by
 unfold cX;split
 . rw[fw];omega
 . exact hy j
theorem Vv(h:j5 K Ku s){v p D:Nat}{y:Nat->Int}(hp:p<s.aA.length)(hy:∀j,dl (y j)<=D):dl (rst s v y p)<=K+Ku+D+9:=by
 have hn:=h.n;have h1:=rP (f:=cu s.u s.n (aG s.aA p).c) (g:=cX y v 0) (λj=>h.cu p j) (KD hy) s.n;have h2:=(h.k _ (eW hp)).1.2;exact jX (K:=K+Ku+D+8) (by omega) (by omega)
theorem V7(h:j5 K Ku s){e:dW}{v p D:Nat}{y:List Int}(hev:e.v=(v:Int))(hp:p<s.aA.length)(hyl:y.length=s.n)(hy:∀j,dl (vf y j)<=D)(hD:D<=549755813888):
 Tm (λN=>bO (BV N s.to e (mB y) (p:Int)) N (B (aG s.aA p).b,0)) (·=B (rst s v (vf y) p)):=by
 have hL:cM=1099511627776:=rfl;have hK:=h.hK;have oN:=h.oN;have hn:=h.n;refine(eE s.n (λk t=>t=(B ((aG s.aA p).b-bK (cu s.u s.n (aG s.aA p).c) (cX (vf y) v 0) k),(k:Int))) (by rw[show bK (cu s.u s.n (aG s.aA p).c) (cX (vf y) v 0) 0=0 from rfl,xB];rfl) ?_);rintro k hk _ rfl;dsimp only[BV];rw[dF,hyl];refine bB (λhlt=>?_) (λhge=>aI ?_)
 . have hlt:k<s.n:=by omega
   have d1:=h.cu p k;have d2:=hy k;have d3:=rP (f:=cu s.u s.n (aG s.aA p).c) (g:=cX (vf y) v 0) (λj=>h.cu p j) (KD hy) k;have d4:=(h.k _ (eW hp)).1.2;have d5:=jO (cu s.u s.n (aG s.aA p).c k) (vf y k);have d6:=jX (K:=K+Ku+D+8) (a:=(aG s.aA p).b) (b:=bK (cu s.u s.n (aG s.aA p).c) (cX (vf y) v 0) k) (by omega) (by omega);refine aU (a:=B ((aG s.aA p).b-bK (cu s.u s.n (aG s.aA p).c) (cX (vf y) v 0) (k+1))) (bB (λhc=>?_) (λhc=>aI ?_)) (aI ⟨hlt,by rw[dV (by omega)]⟩)
   . rw[hev]at hc;have hkv:k≠v:=by omega
     refine aU (NT h hp hlt) (aJ (dX (l:=y) (by omega)) (aU (pe (by omega) (by omega)) (aU (nq (by omega) (by omega)) (aI ?_))));congr 1;show _=_-(bK _ _ k+_*cX (vf y) v 0 k);rw[show cX (vf y) v 0 k=vf y k by unfold cX;rw[aQ hkv]];omega
   . rw[hev]at hc;have hkv:k=v:=by omega
     congr 1;show _=_-(bK _ _ k+_*cX (vf y) v 0 k);rw[show cX (vf y) v 0 k=0 by unfold cX;rw[bA hkv]];omega
 . have:k=s.n:=by omega
   subst this;rfl
theorem NA{a c z:Int}(hc:0<c):z<=a.fdiv c↔c*z<=a:=by
 have h1:=qM (a:=a) hc;constructor
 . intro h;have:=gU h (eK hc);rw[fU c (a.fdiv c)]at this;omega
 . intro h;refine Int.le_of_lt_add_one (IX (a:=c) ?_ (eK hc));rw[pM,xv,fU c (a.fdiv c)];omega
theorem VD{a c z:Int}(hc:c<0):-(a.fdiv (-c))<=z↔c*z<=a:=by
 have:=NA (a:=a) (c:=-c) (z:=-z) (by omega);rw[Int.neg_mul_neg]at this;rw[<-this];omega
structure qz (s:St)(e:AE):Prop where
 il:e.aB.length<=1073741824
 v:e.v<s.n
 p:∀p∈e.aB,p<s.aA.length/\cu s.u s.n (aG s.aA p).c e.v≠0
theorem Jg(h:j5 K Ku s){e:AE}(he:qz s e){D:Nat}{y:List Int}(hyl:y.length=s.n)(hy:∀j,dl (vf y j)<=D)(hD:D<=549755813888):
    Tm (λN=>pF N s.to e.to (mB y)) (λr=>∃z,r.1=B z/\dl z<=K+Ku+D+9/\(r.2=true->∀p∈e.aB,hx s (ux s (cX (vf y) e.v z)) p)/\(r.2=false->¬∃z,∀p∈e.aB,hx s (ux s (cX (vf y) e.v z)) p)):=by
  have hL:cM=1099511627776:=rfl;have hK:=h.hK;have oN:=h.oN;have hn:=h.n;have hev:=he.v;generalize hcf:(λp=>cu s.u s.n (aG s.aA p).c e.v)=c;have hc':∀p,cu s.u s.n (aG s.aA p).c e.v=c p:=λp=>by rw[<-hcf]
  generalize hrf:rst s e.v (vf y)=rs;have hxr:∀p z,hx s (ux s (cX (vf y) e.v z)) p↔c p*z<=rs p:=λp z=>by rw[VK hev,hc',hrf]
  have hil:e.to.aB.length=e.aB.length:=cS ..;unfold pF;refine Tm.bind (Q:=λt=>∃(lo hi:Int) (hl hh:Bool),t=(B lo,B hi,hl,hh)/\dl lo<=K+Ku+D+9/\dl hi<=K+Ku+D+9/\
      (hl=true->∀z,lo<=z↔∀p∈e.aB,c p<0->c p*z<=rs p)/\(hl=false->∀p∈e.aB,¬c p<0)/\(hh=true->∀z,z<=hi↔∀p∈e.aB,0<c p->c p*z<=rs p)/\(hh=false->∀p∈e.aB,¬0<c p))
    (eE e.aB.length (λk t=>∃(lo hi:Int) (hl hh:Bool),t=(B lo,B hi,hl,hh,(k:Int))/\dl lo<=K+Ku+D+9/\dl hi<=K+Ku+D+9/\
      (hl=true->∀z,lo<=z↔∀p∈e.aB.take k,c p<0->c p*z<=rs p)/\(hl=false->∀p∈e.aB.take k,¬c p<0)/\(hh=true->∀z,z<=hi↔∀p∈e.aB.take k,0<c p->c p*z<=rs p)/\(hh=false->∀p∈e.aB.take k,¬0<c p))
      ⟨0,0,false,false,by rw[B0];rfl,by rw[fw];omega,by rw[fw];omega,λe=>(by cases e),λ_ p hp=>(by cases hp),λe=>(by cases e),λ_ p hp=>(by cases hp)⟩ ?_) ?_
  . rintro k hk _ ⟨lo,hi,hl,hh,rfl,dlo,dhi,l1,l2,h1,h2⟩;dsimp only[Hz];rw[hil];refine bB (λhlt=>?_) (λhge=>aI ?_)
    . have hlt:k<e.aB.length:=by omega
      obtain⟨q1,q2⟩:=he.p _ (dC hlt);have htk:=jD hlt;rw[<-htk];generalize hp0:e.aB[k]=p at*;have hrd:=Vv h (v:=e.v) q1 hy;rw[hrf]at hrd;rw[hc']at q2;have hcd:dl (c p)<=K+Ku+4:=by rw[<-hc'];exact h.cu p e.v
      have hcoef:=NT h q1 hev;rw[hc']at hcoef;have hrest:=V7 h (e:=e.to) (v:=e.v) rfl q1 hyl hy hD;rw[hrf]at hrest;have hidx:idx e.to.aB (k:Int)=some (p:Int):=by
        show idx (e.aB.map Int.ofNat) _=_;rw[dt (by simpa using hlt),k6];rw[hp0];rfl
      refine Tm.bind (Q:=λt=>∃(lo' hi':Int) (hl' hh':Bool),t=(B lo',B hi',hl',hh')/\dl lo'<=K+Ku+D+9/\dl hi'<=K+Ku+D+9/\((c p<0/\hi'=hi/\hh'=hh/\hl'=true/\((hl=true/\lo'=max lo (-((rs p).fdiv (-c p))))\/(hl=false/\lo'=-((rs p).fdiv (-c p)))))\/(0<c p/\lo'=lo/\hl'=hl/\hh'=true/\((hh=true/\hi'=min hi ((rs p).fdiv (c p)))\/(hh=false/\hi'=(rs p).fdiv (c p))))))
        (aJ hidx (aJ (pC q1) (aU hrest (aU hcoef (aU (j2 (by omega)) ?_))))) ?_
      . refine bB (λhs=>?_) (λhs=>?_)
        . have hpos:0<c p:=by unfold bZ at hs;(repeat' split at hs)<;>omega
          refine Tm.bind (rY (a:=rs p) (b:=c p) (by omega) (by omega)) ?_;rintro⟨q,qr,qo⟩ hq;dsimp only at hq⊢;subst hq;have hfd:=sZ (rs p) (c p);refine Tm.bind (Q:=λb=>b=decide (hh=false\/(rs p).fdiv (c p)<hi)) (bB (λh3=>aI ?_) (λh3=>?_)) ?_
          . have:hh=false:=by simpa using h3
            simp[this]
          . have:hh=true:=by simpa using h3
            refine aU (lg (by omega) (by omega)) (aI ?_);subst this;simp[pv]
          . rintro _ rfl;refine bB (λh3=>aI ⟨lo,(rs p).fdiv (c p),hl,true,rfl,dlo,by omega,.inr ⟨hpos,rfl,rfl,rfl,?_⟩⟩) (λh3=>aI ⟨lo,hi,hl,hh,rfl,dlo,dhi,.inr ⟨hpos,rfl,rfl,?_,?_⟩⟩)
            . rcases jf h3 with h4|h4
              . exact .inr ⟨h4,rfl⟩
              . cases hh with
                |false=>exact .inr ⟨rfl,rfl⟩
                |true=>exact .inl ⟨rfl,by omega⟩
            . cases hh with
              |false=>exact bX (jg (.inl rfl)) h3
              |true=>rfl
            . cases hh with
              |false=>exact bX (jg (.inl rfl)) h3
              |true=>
                have:¬(rs p).fdiv (c p)<hi:=λe=>h3 (jg (.inr e));exact .inl ⟨rfl,by omega⟩
        . have hneg:c p<0:=by unfold bZ at hs;(repeat' split at hs)<;>omega
          refine aU (oR (by omega)) (Tm.bind (rY (a:=rs p) (b:=-c p) (by omega) (by rw[gL];omega)) ?_);rintro⟨q,qr,qo⟩ hq;dsimp only at hq⊢;subst hq;have hfd:=sZ (rs p) (-c p);refine aU (oR (by omega)) ?_;have hfd2:dl (-((rs p).fdiv (-c p)))<=K+Ku+D+9:=by rw[gL];omega
          refine Tm.bind (Q:=λb=>b=decide (hl=false\/lo< -((rs p).fdiv (-c p)))) (bB (λh3=>aI ?_) (λh3=>?_)) ?_
          . have:hl=false:=by simpa using h3
            simp[this]
          . have:hl=true:=by simpa using h3
            refine aU (lg (by omega) (by omega)) (aI ?_);subst this;have e:bZ (-((rs p).fdiv (-c p))) lo>0↔lo< -((rs p).fdiv (-c p)):=by unfold bZ;(repeat' split)<;>omega
            simp[e]
          . rintro _ rfl;refine bB (λh3=>aI ⟨-((rs p).fdiv (-c p)),hi,true,hh,rfl,by omega,dhi,.inl ⟨hneg,rfl,rfl,rfl,?_⟩⟩) (λh3=>aI ⟨lo,hi,hl,hh,rfl,dlo,dhi,.inl ⟨hneg,rfl,rfl,?_,?_⟩⟩)
            . rcases jf h3 with h4|h4
              . exact .inr ⟨h4,rfl⟩
              . cases hl with
                |false=>exact .inr ⟨rfl,rfl⟩
                |true=>exact .inl ⟨rfl,by omega⟩
            . cases hl with
              |false=>exact bX (jg (.inl rfl)) h3
              |true=>rfl
            . cases hl with
              |false=>exact bX (jg (.inl rfl)) h3
              |true=>
                have:¬lo< -((rs p).fdiv (-c p)):=λe=>h3 (jg (.inr e));exact .inl ⟨rfl,by omega⟩
      . rintro _ ⟨lo',hi',hl',hh',rfl,d1,d2,hcase⟩;refine aI ⟨hlt,lo',hi',hl',hh',by rw[dV (by have:=he.il;omega)],d1,d2,?_⟩;have happ:∀{P:Nat->Prop},(∀q∈e.aB.take k++[p],P q)↔(∀q∈e.aB.take k,P q)/\P p:=λ{P}=>by
          simp only[gH,df];exact⟨λh=>⟨λq hq=>h q (.inl hq),h p (.inr rfl)⟩,λh q hq=>hq.elim (h.1 q) λe=>e▸h.2⟩
        rcases hcase with⟨hneg,rfl,rfl,rfl,hlo⟩|⟨hpos,rfl,rfl,rfl,hhi⟩
        . refine⟨λ_ z=>?_,λe=>(by cases e),λe z=>?_,λe=>happ.2 ⟨h2 e,by omega⟩⟩
          . rw[happ];have hg:=VD (a:=rs p) (z:=z) hneg;rcases hlo with⟨g1,g2⟩|⟨g1,g2⟩
            . have:=l1 g1 z;constructor
              . intro g;exact⟨this.1 (by omega),λ_=>hg.1 (by omega)⟩
              . intro g;have:=this.2 g.1;have:=hg.2 (g.2 hneg);omega
            . constructor
              . intro g;exact⟨λq hq hq0=>bX hq0 (l2 g1 q hq),λ_=>hg.1 (by omega)⟩
              . intro g;have:=hg.2 (g.2 hneg);omega
          . rw[happ,h1 e z];exact⟨λg=>⟨g,λg'=>by omega⟩,λg=>g.1⟩
        . refine⟨λe z=>?_,λe=>happ.2 ⟨l2 e,by omega⟩,λ_ z=>?_,λe=>(by cases e)⟩
          . rw[happ,l1 e z];exact⟨λg=>⟨g,λg'=>by omega⟩,λg=>g.1⟩
          . rw[happ];have hg:=NA (a:=rs p) (z:=z) hpos;rcases hhi with⟨g1,g2⟩|⟨g1,g2⟩
            . have:=h1 g1 z;constructor
              . intro g;exact⟨this.1 (by omega),λ_=>hg.1 (by omega)⟩
              . intro g;have:=this.2 g.1;have:=hg.2 (g.2 hpos);omega
            . constructor
              . intro g;exact⟨λq hq hq0=>bX hq0 (h2 g1 q hq),λ_=>hg.1 (by omega)⟩
              . intro g;have:=hg.2 (g.2 hpos);omega
    . rw[fx (by omega)]at l1 l2 h1 h2;exact⟨lo,hi,hl,hh,rfl,dlo,dhi,l1,l2,h1,h2⟩
  . rintro _ ⟨lo,hi,hl,hh,rfl,dlo,dhi,l1,l2,h1,h2⟩;have hall:∀z,(∀p∈e.aB,hx s (ux s (cX (vf y) e.v z)) p)↔(∀p∈e.aB,c p<0->c p*z<=rs p)/\∀p∈e.aB,0<c p->c p*z<=rs p:=λz=>by
      constructor
      . exact λg=>⟨λp hp _=>(hxr p z).1 (g p hp),λp hp _=>(hxr p z).1 (g p hp)⟩
      . rintro⟨g1,g2⟩ p hp;have hne:=(he.p p hp).2;rw[hc']at hne;rcases sP hne with g|g
        . exact(hxr p z).2 (g1 p hp g)
        . exact(hxr p z).2 (g2 p hp g)
    dsimp only;refine bB (λg=>aI ⟨hi,rfl,dhi,λ_=>(hall hi).2 ⟨λp hp hp0=>bX hp0 (l2 (by simpa using g) p hp),?_⟩,λe=>(by cases e)⟩) (λg=>?_)
    . cases hh with
      |true=>exact(h1 rfl hi).1 (kG _)
      |false=>exact λp hp hp0=>bX hp0 (h2 rfl p hp)
    . have hl1:hl=true:=by simpa using g
      refine bB (λg2=>aI ⟨lo,rfl,dlo,λ_=>(hall lo).2 ⟨(l1 hl1 lo).1 (kG _),λp hp hp0=>bX hp0 (h2 (by simpa using g2) p hp)⟩,λe=>(by cases e)⟩) (λg2=>?_);have hh1:hh=true:=by simpa using g2
      refine aU (lg (by omega) (by omega)) (aI ⟨lo,rfl,dlo,λg3=>(hall lo).2 ⟨(l1 hl1 lo).1 (kG _),(h1 hh1 lo).1 (Ex.1 (jf g3))⟩,λg3=>?_⟩);rintro⟨z,hz⟩;obtain⟨z1,z2⟩:=(hall z).1 hz;have:=(l1 hl1 z).2 z1;have:=(h1 hh1 z).2 z2;exact xC g3 (Ex.2 (by omega))
end
end Go.D
namespace Go.D
open Go Go.X
section
variable {K Ku:Nat} {s:St}
theorem FG{c:List aC}{k:Nat}{b:aC}(h:idx c (k:Int)=some b)(hk:k<c.length):c.set k b=c:=by
 rw[dt hk]at h;obtain rfl:=jd h;exact List.set_getElem_self hk
theorem OJ(h:j5 K Ku s){D:Nat}{y:List Int}(hyl:y.length=s.n)(hy:∀j,dl (vf y j)<=D)(hD:D<=549755813888):
 Tm (λN=>mZ N s.to (mB y)) (·=mB (vec s.n λi=>ux s (vf y) i)):=by
 have hL:cM=1099511627776:=rfl;have hK:=h.hK;have oN:=h.oN;have hn:=h.n;unfold mZ;refine aJ (iu (n:=s.n) rfl (by omega) (by decide)) ?_;rw[<-nh];refine aU (Tm.rO (n:=s.n) (by omega) (λi=>ux s (vf y) i) (by simp) (fin:=id) ?_ ?_) (aI rfl)
 . intro k hk c hc hi;dsimp only[zN];rw[show vf (List.replicate s.n (0:Int)) k=0 by rw[vN,db hk]]at hi;refine cR (by rw[dF,mg];omega) ?_;obtain⟨r,hr,hrl,hrv⟩:=G8 h hk;refine aU (a:=c.set k (B (ux s (vf y) k))) (eE s.n (λj t=>t=(c.set k (B (bK (mx s.u k) (vf y) j)),(j:Int))) (by show(_,_)=_;rw[show bK (mx s.u k) (vf y) 0=0 from rfl,FG hi (by omega)];rfl) ?_) (aI rfl);rintro j hj _ rfl;dsimp only[Dv];rw[dF,hyl];refine bB (λhlt=>?_) (λhge=>aI ?_)
   . have hlt:j<s.n:=by omega
     have d1:=h.mx k j;have d2:=hy j;have d3:=rP (f:=mx s.u k) (g:=vf y) (λj=>h.mx k j) hy j;have d4:=jO (mx s.u k j) (vf y j);have hci:∀b:aC,idx (c.set k b) (k:Int)=some b:=λb=>k9 (by rw[Ae (by omega)]);refine aJ (hci _) (aJ hr (aJ (dX (l:=r) (by omega)) (aJ (dX (l:=y) (by omega)) ?_)));rw[hrv];refine aU (pe (by omega) (by omega)) (aU (ox (by omega) (by omega)) (aJ (hci _) (aJ (eH rfl (by rw[gI];omega)) (aI ⟨hlt,?_⟩))));rw[List.set_set,dV (by omega)];rfl
   . have:j=s.n:=by omega
     subst this;rfl
 . intro c hc;dsimp only[zN];exact cE (by rw[dF,mg];omega) (aI rfl)
theorem Q2{y:List Int}{v:Nat}{z:Int}(hv:v<y.length):vf (y.set v z)=cX (vf y) v z:=by
 funext j;rw[iX hv];unfold cX;by_cases e:v=j
 . rw[bA e,bA e.symm]
 . rw[aQ e,aQ λh=>e h.symm]
theorem M3{α:Type}{P:Nat->α->Prop}:∀{l:List α},(∀e∈l,∃N0,∀N,N0<=N->P N e)->∃N0,∀N,N0<=N->∀e∈l,P N e
 |[],_=>⟨0,λ_ _ e he=>by cases he⟩
 |a::l,h=>by
  obtain⟨N1,h1⟩:=h a cU;obtain⟨N2,h2⟩:=M3 (P:=P) (l:=l) λe he=>h e (cP _ he);refine⟨max N1 N2,λN hN e he=>?_⟩;rcases eJ.1 he with rfl|he
  . exact h1 N (by omega)
  . exact h2 N (by omega) e he
theorem J5{y:List Int}{e:AE}{z:Int}(hv:e.v<y.length):dw (mB y) e.to.v (B z)=some (mB (y.set e.v z)):=by
 rw[show e.to.v=(e.v:Int) from rfl,eH (n:=e.v) rfl (by rw[dF];exact hv),tK]
theorem NC{y:List Int}{v D D':Nat}{z:Int}(hv:v<y.length)(hy:∀j,dl (vf y j)<=D)(hz:dl z<=D')(h:D<=D')(j:Nat):dl (vf (y.set v z) j)<=D':=by
 rw[iX hv];split
 . exact hz
 . exact bV (hy j) h
theorem Mq(h:j5 K Ku s)(hE:∀e∈s.aK,qz s e):∀(k D:Nat) (y:List Int),y.length=s.n->(∀j,dl (vf y j)<=D)->D+k*(K+Ku+9)<=549755813888->∃N0,∀N,N0<=N->oZ N s.to k (mB y)=true
 |0,D,y,_,_,_=>⟨0,λ_ _=>rfl⟩
 |k+1,D,y,hyl,hy,hD=>by
  rw[iJ]at hD;have key:=M3 (P:=λN (e:AE)=>(match pF N s.to e.to (mB y)with|none=>false|some (n,ok)=>if ok then(match dw (mB y) e.to.v n with|none=>false|some y=>oZ N s.to k y)else true)=true) (l:=s.aK) λe he=>by
   obtain⟨⟨zb,ok⟩,N1,⟨z,hz,hzd,-,-⟩,hN⟩:=Jg h (hE e he) hyl hy (by omega);dsimp only at hz;subst hz;have hv:e.v<y.length:=by rw[hyl];exact(hE e he).v
   obtain⟨N2,h2⟩:=Mq h hE k (K+Ku+D+9) (y.set e.v z) (by rw[gI];exact hyl) (NC hv hy hzd (by omega)) (by omega);refine⟨max N1 N2,λN hNN=>?_⟩;rw[show pF N s.to e.to (mB y)=some (B z,ok) from hN N (by omega)];dsimp only;cases ok with
   |false=>rfl
   |true=>
    rw[bA rfl,J5 hv];exact h2 N (by omega)
  obtain⟨N0,h0⟩:=key;refine⟨N0,λN hN=>?_⟩;show(s.aK.map AE.to).all _=true;rw[uP];intro x hx;obtain⟨e,he,rfl⟩:=eh.1 hx;exact h0 N hN e he
theorem Uo{c:List Int}{v:Nat}{y:Nat->Int}{z:Int}(hv:v<s.n)(h:cu s.u s.n c v=0):bK (vf c) (ux s (cX y v z)) s.n=bK (vf c) (ux s y) s.n:=by
 rw[C3,C3,uy hv,h];simp
theorem Wp(hI:Inv s)(hi:s.aB=[]){k:Nat}{e:AE}(hk:s.aK[k]?=some e){y:Nat->Int}{z:Int}(hy:Hs s y (k+1))(hz:∀p∈e.aB,hx s (ux s (cX y e.v z)) p):Hs s (cX y e.v z) k:=by
 obtain⟨h1,h2,h3⟩:=hy;have hm:=oB hk;obtain⟨e1,e2,e3⟩:=hI.sv e hm;have hkl:k<s.aK.length:=(eN.1 hk).1;have hek:s.aK[k]=e:=(eN.1 hk).2;refine⟨λj hj hst=>?_,λx hx=>(by rw[hi]at hx;cases hx),λe' he' p hp=>?_⟩
 . have:j≠e.v:=λh=>by rw[h,e2]at hst;omega
   unfold cX;rw[aQ this];exact h1 j hj hst
 . rw[gn hkl,hek]at he';rcases eJ.1 he' with rfl|he'
   . exact hz p hp
   . have h4:=h3 e' he' p hp;have h5:cu s.u s.n (aG s.aA p).c e.v=0:=by
      have h6:=Ar.1 hI.sd;obtain⟨m,hm',rfl⟩:=lL he';rw[IK]at hp;rw[xq]at hm';have:=(h6 k (k+1+m) hkl (by omega) (by omega)).2 p hp;rw[hek]at this;exact this
     unfold hx at h4⊢;rw[Uo e1 h5];exact h4
theorem Mv(h:j5 K Ku s)(hI:Inv s)(hi:s.aB=[])(hE:∀e∈s.aK,qz s e)(hF:∀k e,s.aK[k]?=some e->e.dT=false->∀y,Hs s y (k+1)->∃z,∀p∈e.aB,hx s (ux s (cX y e.v z)) p):
 ∀(k D:Nat) (y:List Int),k<=s.aK.length->y.length=s.n->(∀j,dl (vf y j)<=D)->D+k*(K+Ku+9)<=549755813888->Hs s (vf y) k->
  Tm (λN=>iR N s.to ((s.aK.take k).map AE.to).reverse (mB y)) (λr=>(∃y':List Int,r=.inl (mB y')/\y'.length=s.n/\(∀j,dl (vf y' j)<=D+k*(K+Ku+9))/\Hs s (vf y') 0)\/∃e∈s.aK,e.dT=true/\r=.inr (e.v:Int))
 |0,D,y,_,hyl,hy,_,hh=>aI (.inl ⟨y,rfl,hyl,λj=>by have:=hy j;omega,hh⟩)
 |k+1,D,y,hk,hyl,hy,hD,hh=>by
  rw[iJ]at hD;have hkl:k<s.aK.length:=hk;obtain⟨e,he⟩:∃e,s.aK[k]?=some e:=⟨_,cy hkl⟩;have hm:=oB he;have hek:s.aK[k]=e:=(eN.1 he).2;have hv:e.v<y.length:=by rw[hyl];exact(hE e hm).v
  have e1:((s.aK.take (k+1)).map AE.to).reverse=e.to::((s.aK.take k).map AE.to).reverse:=by
   rw[<-jD hkl,hek,iC,P6];rfl
  rw[e1];show Tm (λN=>(pF N s.to e.to (mB y)).bind _) _;refine Tm.bind (Jg h (hE e hm) hyl hy (by omega)) ?_;rintro⟨zb,ok⟩ ⟨z,hz,hzd,g1,g2⟩;dsimp only at hz g1 g2⊢;subst hz;refine bB (λh1=>?_) (λh1=>aI (.inr ⟨e,hm,?_,rfl⟩))
  . refine aJ (J5 hv) ?_;refine(Mv h hI hi hE hF k (K+Ku+D+9) (y.set e.v z) (by omega) (by rw[gI];exact hyl) (NC hv hy hzd (by omega)) (by omega) ?_).mono ?_
    . rw[Q2 hv];exact Wp hI hi he hh (g1 h1)
    . rintro r (⟨y',a1,a2,a3,a4⟩|a)
      . exact .inl ⟨y',a1,a2,λj=>by have:=a3 j;rw[iJ];omega,a4⟩
      . exact .inr a
  . cases ht:e.dT with
    |true=>rfl
    |false=>exact bX (hF k e he ht (vf y) hh) (g2 (by simpa using h1))
theorem FQ(hI:Inv s):s.aK.length<=s.n:=by
 have hn:(s.aK.map AE.v).Nodup:=by
  unfold List.Nodup;rw[I6];exact hI.sd.imp λh=>h.1
 have:=XW (l₂:=List.range s.n) hn (λv hv=>by
  obtain⟨e,he,rfl⟩:=eh.1 hv;exact qR.2 (hI.sv e he).1)
 simpa using this
abbrev qW:Proof:=Proof.mk [] [] (aC.mk false []) []
theorem Rg(h:j5 K Ku s)(hI:Inv s)(hi:s.aB=[])(hE:∀e∈s.aK,qz s e)(hF:∀k e,s.aK[k]?=some e->e.dT=false->∀y,Hs s y (k+1)->∃z,∀p∈e.aB,hx s (ux s (cX y e.v z)) p):
    Tm (λN=>uM N s.to) (λr=>(∃x:List Int,r=cD.mk 0 (mB x) qW 0/\x.length=s.n/\(∀v∈x,dl v<=4*K+6*Ku+40)/\∃y,Hs s y 0/\∀i,i<s.n->vf x i=ux s y i)\/∃e∈s.aK,e.dT=true/\r=cD.mk 2 [] qW (e.v:Int)):=by
  have hL:cM=1099511627776:=rfl;have hK:=h.hK;have oN:=h.oN;have hn:=h.n;have hst:=FQ hI;unfold uM;refine aJ (iu (n:=s.n) rfl (by omega) (by decide)) ?_;rw[<-nh];refine aU (a:=mB (vec s.n λj=>if vf s.aM j=1 then vf s.value j else 0)) ((Tm.rO (n:=s.n) (by omega) (λj=>if vf s.aM j=1 then vf s.value j else 0) (by simp) (fin:=id) ?_ ?_)) ?_
  . intro k hk c hc hi';rw[show vf (List.replicate s.n (0:Int)) k=0 by rw[vN,db hk]]at hi';dsimp only[CO];refine cR (by rw[dF,mg];omega) (aU (a:=c.set k (B (if vf s.aM k=1 then vf s.value k else 0))) (aJ (xQ (l:=s.aM) (by rw[hI.gB];exact hk)) (bB (λh1=>?_) (λh1=>aI ?_))) (aI rfl))
    . refine aJ (dX (l:=s.value) (by rw[hI.vl];exact hk)) (aJ hi' (aJ (eH rfl (by omega)) (aI ?_)));rw[bA h1]
    . rw[aQ h1,FG hi' (by omega)]
  . intro c hc;dsimp only[CO];exact cE (by rw[dF,mg];omega) (aI rfl)
  generalize hy0:(vec s.n λj=>if vf s.aM j=1 then vf s.value j else 0)=y0;have y0l:y0.length=s.n:=by rw[<-hy0];exact dN
  have y0d:∀j,dl (vf y0 j)<=Ku:=λj=>by
    rcases cG j s.n with hj|hj
    . rw[<-hy0,db hj];split
      . exact h.u.v.vf j
      . rw[fw];omega
    . rw[jA (by omega),fw];omega
  have hsl:s.to.aK.length=s.aK.length:=cS ..;have hmul:s.aK.length*(K+Ku+9)<=4*(K+Ku+9):=qQ _ (by omega);have hh:Hs s (vf y0) s.aK.length:=⟨λj hj hs=>by rw[<-hy0,db hj,bA hs],λx hx=>(by rw[hi]at hx;cases hx),λe he=>(by rw[D5]at he;cases he)⟩;obtain⟨N1,hN1⟩:=Mq h hE s.aK.length Ku y0 y0l y0d (by omega);have hback:=Mv h hI hi hE hF s.aK.length Ku y0 (bQ _) y0l y0d (by omega) hh;rw[uV]at hback;have key:Tm (λN=>(iR N s.to s.to.aK.reverse (mB y0)).bind λ
      |.inr v=>some (cD.mk 2 [] (Proof.mk [] [] (aC.mk false []) []) v)
      |.inl y=>(mZ N s.to y).bind λx=>some (cD.mk 0 x (Proof.mk [] [] (aC.mk false []) []) 0)) (λr=>(∃x:List Int,r=cD.mk 0 (mB x) qW 0/\x.length=s.n/\(∀v∈x,dl v<=4*K+6*Ku+40)/\∃y,Hs s y 0/\∀i,i<s.n->vf x i=ux s y i)\/∃e∈s.aK,e.dT=true/\r=cD.mk 2 [] qW (e.v:Int)):=by
    refine Tm.bind (show Tm (λN=>iR N s.to s.to.aK.reverse (mB y0)) _ from hback) ?_;rintro _ (⟨y,rfl,yl,yd,yh⟩|⟨e,he,ht,rfl⟩)
    . dsimp only;refine aU (OJ h yl yd (by omega)) (aI (.inl ⟨_,rfl,dN,λv hv=>?_,vf y,yh,λi hi'=>db hi'⟩));obtain⟨i,hi',rfl⟩:=gw hv;rw[dN]at hi';rw[db hi'];have:=rP (f:=mx s.u i) (g:=vf y) (λj=>h.mx i j) yd s.n;show dl (bK _ _ _)<=_;omega
    . exact aI (.inr ⟨e,he,ht,rfl⟩)
  obtain⟨a,N2,ha,hN2⟩:=key;refine⟨a,max N1 N2,ha,λN hN=>?_⟩;show(if s.to.aK.length<=9223372036854775807/\oZ N s.to s.to.aK.length (mB y0)=true then _ else none)=_;rw[hsl,bA ⟨by omega,hN1 N (by omega)⟩];exact hN2 N (by omega)
end
open Go Go.X
def qL(N:Nat)(x:Int)(y:Int)(c:Int)(equal:Bool):Option Constraint:= some (Constraint.mk (Linear.mk c [(jt.mk 0 x),(jt.mk 1 y)]) equal)
def GY(N:Nat)(l:(List Constraint)):((List Constraint)×Int)->Option (aH ((List Constraint)×Int) (List Constraint))
 |(c,a)=>(if(a:Int)<(List.length l:Int)then (idx l a).bind λb=>(cY 16 ([]:(List jt)) b.Linear.bG).bind λd=>(cY 40 c [(Constraint.mk (Linear.mk b.Linear.Const d) b.eP)]).bind λe=>some (aH.next (e,(iw (a+1)))) else some (aH.done c))
def wO(N:Nat)(l:(List Constraint)):Option (List Constraint):=(bO (GY N l) N (([]:(List Constraint)),0)).bind λss=>match ss with
  |a=>some a
def zK(N:Nat)(n:Int)(l:(List Constraint)):Option (Bool×Bool):=(wO N l).bind λr1=>(sG N n r1).bind λr2=>(if r2.2.2=true then (if((List.length r2.1:Int):Int)=n then (ra N l r2.1).bind λr9=>some (true,r9) else some (true,false)) else (if((List.length r2.1:Int):Int)=0 then (uI N n l r2.2.1).bind λa=>some (false,a) else some (false,false)))
def vC(N:Nat):Option Bool:=(qL N 3 (-5) (-1) true).bind λr1=>(qL N 1 0 (-10) false).bind λr2=>(qL N (-1) 0 3 false).bind λr3=>(sG N 2 [r1,r2,r3]).bind λr4=>(GK N 2 [r1,r2,r3] 0).bind λr5=>(qL N 4 (-3) 2 false).bind λr6=>(qL N (-4) 3 (-1) false).bind λr7=>(sG N 2 [r6,r7]).bind λr8=>(qL N 2 (-2) (-1) true).bind λr9=>(sG N 2 [r9]).bind λa=>(if r4.2.2=true then (if((List.length r4.1:Int):Int)=2 then (idx r4.1 0).bind λb=>(lX N 7).bind λc=>(xJ N b c).bind λd=>(if d=true then (idx r4.1 1).bind λe=>(lX N 4).bind λf=>(xJ N e f).bind λg=>(if g=true then (if r5.2=true then (lX N 7).bind λi=>(xJ N r5.1 i).bind λj=>(if j=true then (if(!r8.2.2)=true then (uI N 2 [r6,r7] r8.2.1).bind λk=>(if k=true then (if(!a.2.2)=true then (qL N 2 (-2) (-1) true).bind λl=>(uI N 2 [l] a.2.1).bind λm=>some m else some false) else some false) else some false) else some false) else some false) else some false) else some false) else some false) else some false)
def yU(N:Nat)(n:Int)(b:((List aC)×(List (List aC))×Bool))(d:(List Constraint)):Int->Option (aH Int (Sum Unit Bool))
 |a=>(if(a:Int)<(List.length b.2.1:Int)then (idx b.2.1 a).bind λc=>((((if((List.length c:Int):Int)≠n then some true else (zU N d c).bind λe=>some (!e))):Option Bool)).bind λss=>match ss with
    |f=>(if f=true then some (aH.done (Sum.inr false)) else some (aH.next (iw (a+1)))) else some (aH.done (Sum.inl ())))
def B8(N:Nat)(n:Int)(l:(List Constraint))(x:(List Int)):Option Bool:=((((vC N).bind λr9=>(if(!r9)=true then some true else (yQ N n l 50).bind λd=>(if(!d)=true then some true else some (decide (((List.length x:Int):Int)≠n))))):Option Bool)).bind λss=>match ss with
  |x6=>(if x6=true then (vC N).bind λe=>some e else (zq N l).bind λb=>(wO N l).bind λf=>(zV N n f).bind λa=>(if(!a.2.2)=true then (zK N n b).bind λc=>(if((List.length a.1:Int):Int)=0 then (if((List.length a.2.1:Int):Int)=0 then (if(!c.1)=true then some c.2 else some false) else some false) else some false) else ((((if((List.length a.1:Int):Int)≠n then some true else (ra N b a.1).bind λg=>(if(!g)=true then some true else some (decide (((List.length a.2.1:Int):Int)>n))))):Option Bool)).bind λss=>match ss with
      |i=>(if i=true then some false else (bO (yU N n a b) N 0).bind λss=>match ss with
         |(Sum.inl _)=>(wU N x).bind λj=>(ra N b j).bind λk=>(if(!k)=true then (fZ (α:=aC) 32 (aC.mk false ([]:(List Int))) n).bind λm=>(w8 N a.2.1 m).bind λo=>some o else (wU N x).bind λp=>(zp N p a.1).bind λs=>(w8 N a.2.1 s).bind λu=>some u)
         |(Sum.inr z)=>some z)))
end Go.D
set_option maxRecDepth 1000000
set_option maxHeartbeats 4000000
namespace Go.D
theorem VQ(N:Nat):vC (N+100)=some true:=by kernel_rfl
open Go Go.X
theorem J6:Tm (λN=>vC N) (λr=>r=true):=⟨true,100,rfl,λN hN=>by rw[show N=(N-100)+100 by omega];exact VQ _⟩
def Gy(l:List Constraint)(n:Int):Prop:=(∀c∈l,gx c n)/\0<=n/\n<=512
theorem Sc{n:Int}{l:List Constraint}(hl:l.length<=9223372036854775807)(hc:∀c∈l,c.Linear.bG.length<=9223372036854775807):
 Tm (λN=>zo N n l) (λr=>r=true↔Gy l n):=by
 unfold zo;refine Tm.bind (Tm.each (body:=λN=>yj N l n) l (λc=>gx c n) (Q:=λr=>(r=.inr false/\¬Gy l n)\/(r=.inl ()/\∀c∈l,gx c n)) hl ?_ ?_) ?_
 . intro k hk _;dsimp only[yj];refine cR (by omega) (aJ (dt hk) (Tm.bind (EM (hc _ (dC hk))) λr hr=>bB (λh=>aZ (.inr ⟨_,rfl,.inl ⟨rfl,λha=>?_⟩⟩)) (λh=>aZ (.inl ⟨rfl,hr.1 (by simpa using h)⟩))));have:=hr.2 (ha.1 _ (dC hk));simp[this]at h
 . intro h;dsimp only[yj];exact cE (by omega) (aZ ⟨_,rfl,.inr ⟨rfl,h⟩⟩)
 . rintro _ (⟨rfl,h⟩|⟨rfl,h⟩)
   . exact aZ ⟨λe=>(by cases e),λe=>bX e h⟩
   . refine bB (λh1=>aZ ?_) (λh1=>aZ ?_)
     . simp only[decide_eq_true_eq];exact⟨λh2=>⟨h,h1,h2⟩,λh2=>h2.2.2⟩
     . exact⟨λe=>(by cases e),λe=>bX e.2.1 h1⟩
def qA(f:Linear)(x:List aC):Nat->Int
 |0=>f.Const
 |k+1=>qA f x k+(f.bG.getD k ⟨0,0⟩).N*bv (x.getD (f.bG.getD k ⟨0,0⟩).Var.toNat fi)
def rH(c:Constraint)(x:List aC):Bool:=decide (0<qA c.Linear x c.Linear.bG.length)||(decide (qA c.Linear x c.Linear.bG.length<0)&&c.eP)
theorem getDk{l:List jt}{n:Nat}(h:n<l.length):l.getD n ⟨0,0⟩=l[n]:=by rw[cL,cy h];rfl
structure Ho (f:Linear)(x:List aC):Prop where
 len:f.bG.length<=1073741824
 const:fY f.Const
 mL:∀k∈f.bG,fY k.N/\0<=k.Var/\k.Var<x.length
 x:∀b∈x,kz 137438953472 b
theorem G6{a:Int}:bZ a 0>0↔0<a:=by unfold bZ;(repeat' split)<;>omega
theorem M8{f:Linear}{x:List aC}(h:Ho f x):Tm (λN=>wA N f x) (λr=>bJ aD r.aR/\r.aR.length<=274877906944/\bv r=qA f x f.bG.length):=by
 unfold wA;refine Tm.bind (tF h.const.1 h.const.2) ?_;rintro b ⟨hb,hbl⟩;refine Tm.bind (Q:=λr=>bJ aD r.aR/\r.aR.length<=274877906944/\bv r=qA f x f.bG.length) (eE f.bG.length (λk s=>s.2=(k:Int)/\bJ aD s.1.aR/\s.1.aR.length<=137438953476+k/\bv s.1=qA f x k) ⟨rfl,hb.dg.bT,by dsimp only;omega,hb.bv⟩ ?_) λr hr=>aI hr;rintro k hk ⟨s,i⟩ ⟨rfl,h1,h2,h3⟩;dsimp only at h1 h2 h3;dsimp only[H5];have hL:=h.len;refine bB (λhlt=>?_) (λhge=>aI ?_)
 . have hlt:k<f.bG.length:=by omega
   obtain⟨g1,g2,g3⟩:=h.mL _ (dC hlt);refine aJ (dt hlt) (Tm.bind (tF g1.1 g1.2) ?_);rintro e ⟨he,hel⟩;have hv:(f.bG[k].Var).toNat<x.length:=by omega
   obtain⟨x1,x2⟩:=h.x _ (dC hv);refine aJ (dt hlt) (aJ (ik (n:=(f.bG[k].Var).toNat) (by omega) hv) (Tm.bind (Dr he.dg.bT x1 (by omega) (by omega)) ?_));rintro p ⟨hp,hpl⟩;refine Tm.bind (zn h1 hp.dg.bT (by omega) (by omega)) ?_;rintro q ⟨hq,hql⟩;refine aI ⟨hlt,dV (by omega),hq.dg.bT,by dsimp only;omega,?_⟩;dsimp only;rw[hq.bv,hp.bv,he.bv,h3,qA,getDk hlt,uj hv]
 . have:k=f.bG.length:=by omega
   subst this;exact⟨h1,by omega,h3⟩
theorem Rb{l:List Constraint}{x:List aC}(hl:l.length<=9223372036854775807)(h:∀c∈l,Ho c.Linear x):Tm (λN=>ra N l x) (·=l.all (λc=>!rH c x)):=by
 unfold ra;refine aU (Tm.allL (b:=λN=>yu N l x) l (λc=>!rH c x) hl ?_ ?_) ?_
 . intro k hk;dsimp only[yu];refine cR (by omega) (aJ (dt hk) (Tm.bind (M8 (h _ (dC hk))) ?_));rintro r ⟨h1,h2,h3⟩;refine Tm.bind (mS h1 (by omega)) ?_;rintro _ rfl;rw[h3];refine Tm.bind (Q:=(·=rH l[k] x)) (bB (λhp=>aI ?_) (λhp=>bB (λhq=>aJ (dt hk) (aI ?_)) (λhq=>aI ?_))) ?_
   . rw[G6]at hp;simp[rH,hp]
   . rw[BS]at hq;simp[rH,hq];omega
   . rw[G6]at hp;rw[BS]at hq;simp[rH,hp,hq]
   rintro _ rfl;refine bB (λh=>aI ?_) (λh=>aI ?_)
   . simp[h]
   . simp[h]
 . dsimp only[yu];exact cE (by omega) (aI rfl)
 . cases l.all (λc=>!rH c x)with
   |true=>exact aI rfl
   |false=>exact aI rfl
end Go.D
set_option maxHeartbeats 1000000
namespace Go.D
open Go Go.X
section
variable {K:Nat} {s:St}
structure qN (s:St):Prop where
 n:s.n<=4
 ul:s.u.length=s.n
 gB:s.aM.length=s.n
 vl:s.value.length=s.n
 il:s.aB.length<=1073741824
 kl:s.aA.length<=1073741824
theorem Inv.cp(h:Inv s)(hn:s.n<=4)(hil:s.aB.length<=1073741824)(hkl:s.aA.length<=1073741824):qN s:=⟨hn,h.ul.1,h.gB,h.vl,hil,hkl⟩
theorem AV(h:qN s):Tm (λN=>ry N s.to) (·=s.to):=by
 have:=h.n;have:=h.ul;have:=h.gB;have:=h.vl;have:=h.il;unfold ry;refine aU (a:=s.to.aA) (aI rfl) (aU (a:=s.to.aV) (aI rfl) ?_);refine aU (a:=s.to.u) ?_ (aU (a:=s.to.aM) ?_ (aU (a:=s.to.value) (Bu (l:=s.value) (by omega)) (aU (a:=s.to.aB) ?_ (aU (a:=s.to.aK) (aI rfl) (aI rfl)))))
 . unfold A9;exact aJ (eb (by show(_+(s.u.map mB).length)*_<=_;rw[cS];simp only[dY];omega) (by decide)) (aI (jC _))
 . unfold BT;exact aJ (eb (by show(_+s.aM.length)*_<=_;simp only[dY];omega) (by decide)) (aI (jC _))
 . unfold sf;exact aJ (eb (by show(_+(s.aB.map AI.to).length)*_<=_;rw[cS];simp only[dY];omega) (by decide)) (aI (jC _))
def dp(s:St)(q:AQ):St:={s with aA:=s.aA++[q],aV:=[]}
theorem wm{q:AQ}(h:qN s):Tm (λN=>ov N s.to q.to) (·=(dp s q).to):=by
 have:=h.kl;unfold ov;refine aU (AV h) (aJ (eb (by show((s.aA.map AQ.to).length+_)*_<=_;simp only[cS,cN,dY];omega) (by decide)) (aI ?_));unfold dp St.to;simp
def tS(l:List AI)(p p':Nat):List AI:=l.map λx=>if x.pos=p then{x with pos:=p'}else x
theorem Jc{l:List AI}{p p':Nat}(hl:l.length<=1073741824):Tm (λN=>wv N (mI l) (p:Int) (p':Int)) (·=mI (tS l p p')):=by
 unfold wv;refine aU (a:=mI l) ?_ ?_
 . unfold sf;exact aJ (eb (by rw[fL];simp only[dY];omega) (by decide)) (aI (jC _))
 . refine aU (a:=mI (tS l p p')) ((Tm.fill (n:=l.length) (by omega) (c0:=mI l) (λk=>(if(l.getD k ⟨0,[]⟩).pos=p then({(l.getD k ⟨0,[]⟩)with pos:=p'}:AI)else l.getD k ⟨0,[]⟩).to) (fL l) (fin:=id) ?_ ?_).mono ?_) (aI rfl)
   . intro k hk c hc hi;have e0:(mI l)[k]?=some (l[k]).to:=by unfold mI;rw[iA,cy hk];rfl
     rw[e0]at hi;dsimp only[C6];rw[show l.getD k ⟨0,[]⟩=l[k] by rw[cL,cy hk];rfl];refine cR (by rw[fL];omega) (aJ (k9 hi) (bB (λh=>?_) (λh=>aI ?_)))
     . have h:((l[k]).pos:Int)=(p:Int):=h;refine aJ (k9 hi) (aJ (eH rfl (by omega)) (aI ?_));rw[bA (by omega)];rfl
     . have h:¬((l[k]).pos:Int)=(p:Int):=h;rw[aQ (by omega)];have:c.set k (l[k]).to=c:=by
        obtain⟨h1,h2⟩:=eN.1 hi;rw[<-h2];exact List.set_getElem_self h1
       rw[this]
   . intro c hc;dsimp only[C6];exact cE (by rw[fL];omega) (aI rfl)
   . intro r hr;rw[hr,id];unfold mI tS;rw[nF];exact ze (f:=λx:AI=>(if x.pos=p then({x with pos:=p'}:AI)else x).to)
theorem R2{v:Nat}(hi:jB s.n s.aB)(hv:v<s.n)(hne:cT v s.aB≠[]\/dQ v s.aB=[]):Tm (λN=>zQ N s.to (v:Int)) (λr=>∃t,r=B t/\dl t<=cM):=by
 have hL:cM=1099511627776:=rfl;have hlo:=y5 (v:=v) hi;have hll:=hlo.1;unfold zQ;refine aU (xH hi hv) ?_;refine Tm.bind (Q:=λr=>∃t,r=B t/\dl t<=cM) (eE (dQ v s.aB).length (λk t=>∃c,t=(B c,(k:Int))/\dl c<=20+k) ⟨0,by rw[B0];rfl,by rw[fw];omega⟩ ?_) λr hr=>aI hr;rintro k hk _ ⟨c,rfl,hc⟩;dsimp only[H6];rw[fL];refine bB (λhlt=>?_) (λhge=>aI ⟨c,rfl,by omega⟩);have hlt:k<(dQ v s.aB).length:=by omega
 have hm:=dC hlt;have hun:cT v s.aB≠[]:=by
  rcases hne with h|h
  . exact h
  . rw[h]at hlt;cases hlt
 have hsd:=xO (low:=(dQ v s.aB)[k]) (pX (v:=v) hi) hun (hlo.vf hm v);refine Tm.bind (Q:=λr=>∃c,r=B c/\dl c<=20+(k+1)) (aJ (p5 hlt) (aU (xV (pX (v:=v) hi) hun (hlo.2 _ hm).1 (hlo.vf hm v) hv) (aU (j2 (by omega)) (bB (λh2=>?_) (λh2=>aI ⟨c,rfl,by omega⟩))))) ?_
 . have h1:dl 1<=18:=bV kE (by decide);have ha:=pV hsd h1;refine aU (kR (by decide) (by decide)) (aU (ox (by omega) (by omega)) (aU (ox (by omega) (by omega)) (aI ⟨_,rfl,?_⟩)));have:=pV (K:=20+k) hc (show dl (iE v (dQ v s.aB)[k] (cT v s.aB)+1)<=20+k by omega);omega
 . rintro _ ⟨c',rfl,hc'⟩;exact aI ⟨hlt,c',by rw[dV (by omega)],hc'⟩
def tU(n:Nat)(g:List Int)(w:Nat):Prop:=w<n/\vf g w≠0/\∀j,j<n->j≠w->vf g j=0
theorem Mw{n:Nat}{x:AI}(hl:x.g.length=n)(hn:n<=512)(hd:∀v∈x.g,dl v<=8):Tm (λN=>wS N x.to) (λr=>r.2=true->∃w:Nat,r.1=(w:Int)/\tU n x.g w):=by
 have hL:cM=1099511627776:=rfl;unfold wS;refine Tm.bind (Q:=λt:Int×Int=>t.2=1->∃w:Nat,t.1=(w:Int)/\tU n x.g w)
  (eE n (λk t=>t.2.2=(k:Int)/\0<=t.2.1/\t.2.1<=(k:Int)/\(t.2.1=0->∀j,j<k->vf x.g j=0)/\(t.2.1=1->∃w:Nat,t.1=(w:Int)/\w<k/\vf x.g w≠0/\∀j,j<k->j≠w->vf x.g j=0)) ⟨rfl,kG _,kG _,λ_ j hj=>by omega,λe=>by cases e⟩ ?_) ?_
 . rintro k hk ⟨a,m,i⟩ ⟨rfl,hm0,hmk,h0,h1⟩;dsimp only at hm0 hmk h0 h1;dsimp only[FY];rw[show x.to.g.length=n from(dF _).trans hl];refine bB (λhlt=>?_) (λhge=>aI ?_)
   . have hlt:k<n:=by omega
     refine aJ (dX (l:=x.g) (by omega)) (aU (j2 (bV (hd _ (gP (by omega))) (by decide))) (bB (λhs=>aI ?_) (λhs=>aI ?_)))
     . have hs:=qj.1 hs;have hw:iw (m+1)=m+1:=bU (by omega) (by omega);refine⟨hlt,dV (by omega),by dsimp only;rw[hw];omega,by dsimp only;rw[hw];omega,λe=>by dsimp only at e;rw[hw]at e;omega,λe=>⟨k,rfl,by omega,hs,λj hj hjk=>h0 (by dsimp only at e;rw[hw]at e;omega) j (by omega)⟩⟩
     . have hs:vf x.g k=0:=je λe=>hs (qj.2 e);refine⟨hlt,dV (by omega),hm0,by dsimp only;omega,λe j hj=>?_,λe=>?_⟩
       . rcases cG j k with h2|h2
         . exact h0 e j h2
         . obtain rfl:j=k:=by omega
           exact hs
       . obtain⟨w,w1,w2,w3,w4⟩:=h1 e;refine⟨w,w1,by omega,w3,λj hj hjw=>?_⟩;rcases cG j k with h2|h2
         . exact w4 j h2 hjw
         . obtain rfl:j=k:=by omega
           exact hs
   . have:k=n:=by omega
     subst this;intro e;obtain⟨w,w1,w2,w3,w4⟩:=h1 e;exact⟨w,w1,w2,w3,w4⟩
 . rintro⟨a,m⟩ h;exact aI λe=>h (jf e)
def rI(s:St)(c:iD):Prop:=∃x∈s.aB,∃y∈s.aB,∃w,w<s.n/\(∀j,j<s.n->vf x.g j=if j=w then 1 else 0)/\(∀j,j<s.n->vf y.g j=if j=w then-1 else 0)/\c=⟨x.to,B (-(aG s.aA y.pos).b),B (aG s.aA x.pos).b⟩
theorem Gn{n w:Nat}{g:List Int}(hl:g.length=n)(hp:di g=1)(h:tU n g w):(vf g w).natAbs=1:=by
 have h2:vf g w∣((di g:Nat):Int):=oq λv hv=>by
  obtain⟨j,hj,rfl⟩:=gw hv;by_cases e:j=w
  . subst e;exact Int.dvd_refl _
  . rw[h.2.2 j (by omega) e];exact xz _
 rw[hp]at h2;have:=Int.natAbs_dvd_natAbs.2 h2;exact I5 this
theorem S0(hI:Inv s)(hi:jB s.n s.aB)(hn:s.n<=512)(hb:∀q∈s.aA,gu K q)(hK:K<=1099511627000):Tm (λN=>xN N s.to) (λr=>r.2=true->rI s r.1):=by
 have hL:cM=1099511627776:=rfl;have hil:=hi.1;have hmi:s.to.aB.length=s.aB.length:=cS ..;have hget:∀{k:Nat} (h:k<s.aB.length),idx s.to.aB (k:Int)=some (s.aB[k]).to:=λ{k} h=>by
  show idx (s.aB.map AI.to) _=_;rw[dt (by simpa using h),k6]
 have hbd:∀x∈s.aB,dl (aG s.aA x.pos).b<=K:=λx hx=>(hb _ (eW (hI.it x hx).1)).2;unfold xN;refine Tm.bind (Q:=λt:iD×Bool=>t.2=true->rI s t.1) (eE s.aB.length (λk t=>t.2.2=(k:Int)/\(t.2.1=true->rI s t.1)) ⟨rfl,λe=>by cases e⟩ ?_) ?_
 . rintro k hk ⟨a,b,i⟩ ⟨rfl,hab⟩;dsimp only at hab;dsimp only[HR];rw[hmi];refine bB (λhlt=>?_) (λhge=>aI hab);have hlt:k<s.aB.length:=by omega
   have hxm:=dC hlt;obtain⟨x1,x2⟩:=hi.2 _ hxm;have hgk:=hget hlt;generalize s.aB[k]=x at*;refine Tm.bind (Q:=λt:iD×Bool=>t.2=true->rI s t.1) (aJ hgk (Tm.bind (Mw x1 hn x2) ?_)) (λt ht=>aI ⟨hlt,dV (by omega),ht⟩);rintro⟨p,ok⟩ hs;dsimp only at hs;refine Tm.bind (Q:=λc=>c=false->∃w:Nat,p=(w:Int)/\tU s.n x.g w/\0<vf x.g w) (bB (λh=>aI λe=>(by cases e)) (λh=>?_)) ?_
   . have h:ok=true:=by simpa using h
     obtain⟨w,rfl,hw⟩:=hs h;refine aJ (dX (l:=x.g) (by have:=hw.1;omega)) (aU (j2 (bV (x2 _ (gP (by have:=hw.1;omega))) (by decide))) (aI λe=>⟨w,rfl,hw,?_⟩));have h1:¬bZ (vf x.g w) 0<0:=xC e;have h2:=hw.2.1;have:¬vf x.g w<0:=λe=>h1 (pv.2 e);omega
   . rintro c hc;refine bB (λh=>aI hab) (λh=>?_);obtain⟨w,rfl,hw,hw0⟩:=hc (by simpa using h);have hxone:∀j,j<s.n->vf x.g j=if j=w then 1 else 0:=λj hj=>by
      have:=Gn x1 (hI.ia x hxm) hw;by_cases e:j=w
      . subst e;rw[bA rfl];omega
      . rw[aQ e];exact hw.2.2 j hj e
     refine Tm.bind (Q:=λt:iD×Bool=>t.2=true->rI s t.1) (eE s.aB.length (λm t=>t.2.2=(m:Int)/\(t.2.1=true->rI s t.1)) ⟨rfl,hab⟩ ?_) λt ht=>aI ht;rintro m hm ⟨a,b,i⟩ ⟨rfl,hab⟩;dsimp only at hab;dsimp only[FO];rw[hmi];refine bB (λhlt2=>?_) (λhge=>aI hab);have hlt2:m<s.aB.length:=by omega
     have hym:=dC hlt2;obtain⟨y1,y2⟩:=hi.2 _ hym;have hgm:=hget hlt2;generalize s.aB[m]=y at*;refine Tm.bind (Q:=λt:iD×Bool=>t.2=true->rI s t.1) (aJ hgm (Tm.bind (Mw y1 hn y2) ?_)) (λt ht=>aI ⟨hlt2,dV (by omega),ht⟩);rintro⟨p,ok⟩ hs';dsimp only at hs';refine Tm.bind (Q:=λc=>c=false->tU s.n y.g w/\vf y.g w<0) (bB (λh=>aI λe=>(by cases e)) (λh=>bB (λh2=>aI λe=>(by cases e)) (λh2=>?_))) ?_
     . have h:ok=true:=by simpa using h
       obtain⟨w',rfl,hw'⟩:=hs' h;have h2:(w':Int)=(w:Int):=by simpa using h2
       obtain rfl:w'=w:=by omega
       refine aJ (dX (l:=y.g) (by have:=hw.1;omega)) (aU (j2 (bV (y2 _ (gP (by have:=hw.1;omega))) (by decide))) (aI λe=>⟨hw',?_⟩));have h1:¬bZ (vf y.g w') 0>0:=xC e;have h2:=hw'.2.1;have:¬0<vf y.g w':=λe=>h1 (G6.2 e);omega
     . rintro c hc;refine bB (λh=>aI hab) (λh=>?_);obtain⟨hw',hw0'⟩:=hc (by simpa using h);have hyone:∀j,j<s.n->vf y.g j=if j=w then-1 else 0:=λj hj=>by
        have:=Gn y1 (hI.ia y hym) hw';by_cases e:j=w
        . subst e;rw[bA rfl];omega
        . rw[aQ e];exact hw'.2.2 j hj e
       have b1:=hbd y hym;have b2:=hbd x hxm;have hnew:rI s (iD.mk x.to (B (-(aG s.aA y.pos).b)) (B (aG s.aA x.pos).b)):=⟨x,hxm,y,hym,w,hw.1,hxone,hyone,rfl⟩;refine aU (LJ (hI.it y hym).1) (aU (oR (by omega)) (aU (LJ (hI.it x hxm).1) ?_));refine Tm.bind (Q:=λ_=>True) (bB (λh3=>aI trivial) (λh3=>?_)) λv _=>bB (λh4=>aI λ_=>hnew) (λh4=>aI hab);have h3:b=true:=by simpa using h3
       obtain⟨x',hx',y',hy',w',-,-,-,rfl⟩:=hab h3;have b3:=hbd y' hy';have b4:=hbd x' hx';have d1:=jX (K:=K) (a:=(aG s.aA x.pos).b) (b:=-(aG s.aA y.pos).b) b2 (by rw[gL];exact b1);have d2:=jX (K:=K) (a:=(aG s.aA x'.pos).b) (b:=-(aG s.aA y'.pos).b) b4 (by rw[gL];exact b3);exact aU (nq (by omega) (by rw[gL];omega)) (aU (nq (by omega) (by rw[gL];omega)) (aU (lg (by omega) (by omega)) (aI trivial)))
 . rintro⟨a,b⟩ h;exact aI h
end
end Go.D
namespace Go.D
open Go Go.X
inductive k7 where
 |leaf (st:List AS)
 |node (st:List AS) (f:List Int) (b:Int) (l r:k7)
def k7.to:k7->Proof
 |leaf st=>⟨st.map AS.to,[],⟨false,[]⟩,[]⟩
 |node st f b l r=>⟨st.map AS.to,mB f,B b,[l.to,r.to]⟩
def qH(n:Nat)(kn:List AQ):Prop:=kn.length<=1073741824/\∀q∈kn,gu 536870912 q/\q.c.length=n
inductive Ref (n:Nat):List AQ->k7->Prop where
 |leaf {base:List AQ} {st:List AS} {kn:List AQ} (hD:iH n base st kn) (hk:qH n kn) (q:AQ) (hq:q∈kn) (hz:∀j,j<n->vf q.c j=0) (hb:q.b<0):Ref n base (.leaf st)
 |node {base:List AQ} {st:List AS} {kn:List AQ} {f:List Int} {b:Int} {l r:k7} (hD:iH n base st kn) (hf:f.length=n) (hl:Ref n (kn++[⟨f,b⟩]) l) (hr:Ref n (kn++[⟨bW f,-b-1⟩]) r):Ref n base (.node st f b l r)
theorem qH.sub{n:Nat}{kn e:List AQ}(h:qH n (kn++e)):qH n kn:=⟨by have:=h.1;rw[dL]at this;omega,λq hq=>h.2 q (DW _ hq)⟩
theorem iH.pre{n:Nat}{base:List AQ}{st:List AS}{kn:List AQ}(h:iH n base st kn):∃e,kn=base++e/\e.length=st.length:=by
 induction h with
 |nil=>exact⟨[],by simp,rfl⟩
 |snoc h hs ih=>
  obtain⟨e,he,hl⟩:=ih;exact⟨e++[_],by rw[he,jS],by simp[hl]⟩
theorem Ref.kok{n:Nat}{base:List AQ}{p:k7}(h:Ref n base p):qH n base:=by
 induction h with
 |leaf hD hk q hq hz hb=>
  obtain⟨e,rfl,_⟩:=hD.pre;exact hk.sub
 |node hD hf hl hr ihl ihr=>
  obtain⟨e,rfl,_⟩:=hD.pre;exact ihl.sub.sub
def jI(n:Nat)(x:Nat->Int)(q:AQ):Prop:=bK (vf q.c) x n<=q.b
theorem KB{n:Nat}{x:Nat->Int}{kn:List AQ}(hk:∀q∈kn,jI n x q):∀{us:List AU},(∀u∈us,u.ix<kn.length/\0<=u.n)->bK (eQ kn us) x n<=fN kn us
 |[],_=>by rw[nZ (f:=eQ kn []) λ_ _=>rfl];exact kG 0
 |u::us,h=>by
  have h1:=KB hk (us:=us) λv hv=>h v (cP _ hv);obtain⟨h2,h3⟩:=h u cU;have h4:=hk _ (eW h2);have e:bK (eQ kn (u::us)) x n=bK (eQ kn us) x n+u.n*bK (vf (aG kn u.ix).c) x n:=by
   rw[<-rZ];exact ed (λj _=>by show _+_=_;omega) λ_ _=>rfl
  rw[e];have:=gU h4 h3;show _<=u.n*(aG kn u.ix).b+fN kn us;omega
theorem U7{n:Nat}{x:Nat->Int}{kn:List AQ}{s:AS}{q:AQ}(hk:∀q∈kn,jI n x q)(hs:Bf n kn s q):jI n x q:=by
 have h1:=KB hk (us:=s.dc) λu hu=>⟨(hs.dc u hu).1,(hs.dc u hu).2.1⟩;rw[hs.q];show bK (vf (vec n λj=>eQ kn s.dc j/s.d)) x n<=fN kn s.dc/s.d;have e:bK (eQ kn s.dc) x n=s.d*bK (vf (vec n λj=>eQ kn s.dc j/s.d)) x n:=by
  rw[<-qe];refine ed (λj hj=>?_) λ_ _=>rfl;rw[db hj,fU,P9 (hs.dvd j hj)]
 rw[e]at h1;exact(Int.le_ediv_iff_mul_le hs.d).2 (by rw[fU];exact h1)
theorem iH.sound{n:Nat}{x:Nat->Int}{base:List AQ}{st:List AS}{kn:List AQ}(h:iH n base st kn)(hb:∀q∈base,jI n x q):∀q∈kn,jI n x q:=by
 induction h with
 |nil=>exact hb
 |snoc h hs ih=>
  intro q hq;rcases gH.1 hq with hq|hq
  . exact ih q hq
  . rw[df.1 hq];exact U7 ih hs
theorem LX{f:List Int}{x:Nat->Int}{n:Nat}:bK (vf (bW f)) x n=-bK (vf f) x n:=by
 have:=qe (f:=vf f) (g:=x) (k:=-1) n;rw[ed (f:=vf (bW f)) (f':=λj=>-1*vf f j) (g:=x) (g':=x) (λj _=>by rw[gr];omega) λ_ _=>rfl,this];omega
theorem Ref.sound{n:Nat}{base:List AQ}{p:k7}(h:Ref n base p)(x:Nat->Int):¬∀q∈base,jI n x q:=by
 induction h with
 |leaf hD hk q hq hz hb=>
  intro hs;have:=hD.sound hs q hq;unfold jI at this;rw[nZ hz]at this;omega
 |node hD hf hl hr ihl ihr=>
  intro hs;have hk:=hD.sound hs;rename_i f b l r;rcases xA (bK (vf f) x n) b with h|h
  . refine ihl λq hq=>?_;rcases gH.1 hq with hq|hq
    . exact hk q hq
    . rw[df.1 hq];exact h
  . by_cases e:bK (vf f) x n=b
    . refine ihl λq hq=>?_;rcases gH.1 hq with hq|hq
      . exact hk q hq
      . rw[df.1 hq];exact Int.le_of_eq e
    . refine ihr λq hq=>?_;rcases gH.1 hq with hq|hq
      . exact hk q hq
      . rw[df.1 hq];show bK (vf (bW f)) x n≤-b-1;rw[LX];omega
theorem oki{n K:Nat}{q:AQ}(hn:n<=K)(hl:q.c.length=n)(h:gu K q):qY K q.to:=by
 refine⟨by show(mB q.c).length<=_;rw[dF];omega,λb hb=>?_,okB h.2⟩;obtain⟨v,hv,rfl⟩:=eh.1 hb;exact okB (h.1 v hv)
theorem getq{l:List AQ}{i:Nat}(h:i<l.length):(l.map AQ.to).getD i mD=(aG l i).to:=by
 rw[cL,iA,cy h,tz h];rfl
theorem CH{l:List Int}{j:Nat}:(mB l).getD j fi=B (vf l j):=by
 rcases cG j l.length with h|h
 . rw[uj (by rw[dF];exact h),EI,px h]
 . rw[jA h,B0,cL,gm (by rw[dF];exact h)];rfl
theorem J2{l:List AQ}:∀{us:List AU} {f:Nat->Int} {b:Int},(∀u∈us,u.ix<l.length/\0<=u.n)->nt (l.map AQ.to) (us.map AU.to) (f,b)=some (λj=>f j+eQ l us j,b+fN l us)
 |[],f,b,_=>by
  show some (f,b)=some (λj=>f j+0,b+0);simp
 |u::us,f,b,h=>by
  obtain⟨h1,h2⟩:=h u cU;show(if od (l.map AQ.to) u.to then none else nt (l.map AQ.to) (us.map AU.to) (zP (l.map AQ.to) u.to (f,b)))=_;have hb:¬od (l.map AQ.to) u.to:=by
   unfold od;show¬((u.ix:Int)<0\/((l.map AQ.to).length:Int)<=(u.ix:Int)\/bv (B u.n)<0);rw[fC,cS];omega
  rw[aQ hb];have e:zP (l.map AQ.to) u.to (f,b)=(λj=>f j+u.n*vf (aG l u.ix).c j,b+u.n*(aG l u.ix).b):=by
   unfold zP;rw[show u.to.Index.toNat=u.ix from mQ _,getq h1];show((λj=>f j+bv (B u.n)*bv ((mB (aG l u.ix).c).getD j fi)),b+bv (B u.n)*bv (B (aG l u.ix).b))=_;rw[fC,fC];congr 1;funext j;rw[CH,fC]
  rw[e,J2 λv hv=>h v (cP _ hv)];congr 2
  . funext j;show _=f j+(_+_);omega
  . show _=b+(_+_);omega
theorem Lb{n:Nat}{f:Nat->Int}:jm n (mB (vec n f)) f:=⟨by rw[dF,dN],λj hj=>by rw[CH,db hj];exact om _⟩
theorem FK{n:Nat}{l:List AQ}(hl:l≠[])(h:∀q∈l,q.c.length=n):nV (l.map AQ.to)=n/\ns (l.map AQ.to):=by
 have h0:nV (l.map AQ.to)=n:=by
  unfold nV;rw[getq (sL.2 hl)];show(mB _).length=n;rw[dF];exact h _ (eW (sL.2 hl))
 refine⟨h0,λq hq=>?_⟩;obtain⟨a,ha,rfl⟩:=eh.1 hq;rw[h0];show(mB _).length=n;rw[dF];exact h a ha
theorem VY{n:Nat}{l:List AQ}{s:AS}{q:AQ}(hl:l≠[])(h:∀q∈l,q.c.length=n)(hs:Bf n l s q):oz (l.map AQ.to) s.to (q.to,true):=by
 obtain⟨h1,h2⟩:=FK hl h;unfold oz;have hd:bv s.to.gT=s.d:=fC _;rw[hd,bA ⟨h2,hs.d⟩,show s.to.Uses=s.dc.map AU.to from rfl,J2 λu hu=>⟨(hs.dc u hu).1,(hs.dc u hu).2.1⟩];dsimp only;rw[h1,bA (λj hj=>by rw[D4];exact Int.emod_eq_zero_of_dvd (hs.dvd j hj)),hs.q];refine⟨rfl,?_,?_⟩
 . have:(λj=>(0+eQ l s.dc j)/s.d)=λj=>eQ l s.dc j/s.d:=by funext j;rw[D4]
   rw[this];exact Lb
 . rw[D4];exact om _
theorem iH.nth{n:Nat}{base:List AQ}{st:List AS}{kn:List AQ}(h:iH n base st kn):∀k (hk:k<st.length),Bf n (kn.take (base.length+k)) st[k] (aG kn (base.length+k)):=by
 induction h with
 |nil=>intro k hk;cases hk
 |snoc h hs ih=>
  rename_i ss l s q;obtain⟨e,he,hel⟩:=h.pre;have hll:l.length=base.length+ss.length:=by rw[he];simp[hel]
  intro k hk;rw[dL,lJ]at hk;rcases cG k ss.length with h1|h1
  . have:=ih k h1;rw[PW h1,iz (by omega),qS (by omega)];exact this
  . obtain rfl:k=ss.length:=by omega
    rw[List.getElem_concat_length rfl,<-hll,oO,qS (bQ _),uV];exact hs
theorem jm.snoc{n:Nat}{c:List aC}{f:Nat->Int}{y:aC}(h:jm n c f)(hy:Is y (f n)):jm (n+1) (c++[y]) f:=by
 refine⟨by simp[h.1],λj hj=>?_⟩;rcases cG j n with h1|h1
 . have:=h.2 j h1;rwa[cL,kW (by rw[h.1];exact h1),<-cL]
 . obtain rfl:j=n:=by omega
   rw[cL,pJ (by rw[h.1];exact bQ _),h.1];simpa using hy
theorem WZ{K:Nat}{q:bI}{b:aC}(hK:K<=1073741824)(hl:q.bG.length<=K)(hlb:∀x∈q.bG,kz K x)(hb:bJ aD b.aR)(hbl:b.aR.length<=1099511627776):
 Tm (λN=>rN N q b) (λr=>jm q.bG.length r.bG (λj=>-bv (q.bG.getD j fi))/\Is r.dS (bv b)):=by
 unfold rN;refine Tm.bind (OE hb (by omega)) ?_;rintro b' ⟨hb',hbl⟩;refine Tm.bind (Q:=λc:List aC=>jm q.bG.length c (λj=>-bv (q.bG.getD j fi)))
  (Tm.loop (λt:List aC×Int=>∃k:Nat,t.2=k/\k<=q.bG.length/\jm k t.1 (λj=>-bv (q.bG.getD j fi))) (λt=>q.bG.length-t.2.toNat)
   ⟨0,rfl,fI _,⟨rfl,λj hj=>bX hj (by omega)⟩⟩ ?_) ?_
 . rintro⟨c,kk⟩ ⟨k,rfl,hk,hc⟩;dsimp only[Dk]at*;have hcl:=hc.1;refine bB (λh=>?_) (λh=>aZ ?_)
   . refine aJ (vu rfl (by omega)) ?_;have hx:=hlb _ (N8 (l:=q.bG) (n:=k) (by omega));refine Tm.bind (zZ hx.1 (by have:=hx.2;omega)) ?_;rintro y ⟨hy,hyl⟩;refine aJ (eb (by simp only[cN,dY];omega) (by decide)) (aZ ⟨⟨k+1,by show iw ((k:Int)+1)=_;rw[bU]<;>omega,by omega,hc.snoc hy⟩,?_⟩);show q.bG.length-(iw ((k:Int)+1)).toNat<q.bG.length-((k:Int)).toNat;rw[bU]<;>omega
   . obtain rfl:k=q.bG.length:=by omega
     exact hc
 . intro c hc;exact aZ ⟨hc,hb'⟩
theorem LN{kn:List AQ}{q:AQ}:(kn++[q]).map AQ.to=kn.map AQ.to++[q.to]:=by rw[iC];rfl
theorem SO{n:Nat}(hn:n<=512){base:List AQ}{p:k7}(h:Ref n base p)(hb0:base≠[]):Tm (λN=>uv N (base.map AQ.to) p.to) (·=true):=by
  have aV:∀{base:List AQ} {st:List AS} {kn:List AQ} {P:Proof},base≠[]->iH n base st kn->qH n kn->P.Steps=st.map AS.to->
      Tm (λN=>bO (CG N P) N (base.map AQ.to,0)) (·=.inl (kn.map AQ.to)):=by
    intro base st kn P hb0 hD hk hP;obtain⟨e,rfl,hel⟩:=hD.pre;have hkl:=hk.1;rw[dL]at hkl;refine eE st.length (λk t=>t=(((base++e).take (base.length+k)).map AQ.to,(k:Int))) (by rw[pK,qS (bQ _),uV];rfl) ?_;rintro k hkk _ rfl;dsimp only[CG];rw[hP,cS];refine bB (λhlt=>?_) (λhge=>aI ?_)
    . have hlt:k<st.length:=by omega
      have hs:=hD.nth k hlt;have hne:(base++e).take (base.length+k)≠[]:=by
        have:=sL.2 hb0;intro e';have:=dd List.length e';rw[fm,dL,dY]at this;omega
      have hsub:∀q∈(base++e).take (base.length+k),gu 536870912 q/\q.c.length=n:=λq hq=>hk.2 q (uS hq);refine aJ (dt (by rw[cS];exact hlt)) ?_;rw[k6];refine aU (a:=((aG (base++e) (base.length+k)).to,true)) ((Wy (K:=536870912) (bQ _) (by rw[cS,fm,dL];omega) (λq hq=>?_) ⟨?_,λu hu=>?_,okB hs.dl⟩).mono λr hr=>hr.uniq (VY hne (λq hq=>(hsub q hq).2) hs)) ?_
      . obtain⟨a,ha,rfl⟩:=eh.1 hq;exact oki (by omega) (hsub a ha).2 (hsub a ha).1
      . show(List.map AU.to _).length<=_;rw[cS];have:=hs.len;omega
      . obtain⟨a,ha,rfl⟩:=eh.1 (show u∈(st[k]).dc.map AU.to from hu);exact okB (hs.dc a ha).2.2
      . refine cE (by simp) (aJ (eb (by rw[cS,fm,dL,lJ];omega) (by decide)) (aI ⟨hlt,?_⟩));have hlt2:base.length+k<(base++e).length:=by rw[dL];omega
        rw[dV (by omega),show base.length+(k+1)=(base.length+k)+1 by omega,<-jD hlt2,tz hlt2,LN]
    . have:k=st.length:=by omega
      subst this;rw[fx (by rw[dL];omega)]
  have copy:∀{l:List AQ},l.length<=1073741824->cY 56 ([]:List bI) (l.map AQ.to)=some (l.map AQ.to):=λ{l} hl=>by
    rw[eb (by rw[cS];simp only[dY];omega) (by decide)];rfl
  induction h with
  |leaf hD hk q hq hz hb=>
    rename_i base st kn;obtain⟨e,hke,hel⟩:=hD.pre;have hbk:qH n base:=by rw[hke]at hk;exact hk.sub
    refine Tm.succ ?_;show Tm (λN=>tH N (uv N) _ _) _;unfold tH;refine Tm.bind (Ez (by rw[cS];have:=hbk.1;omega)) ?_;rintro _ rfl;refine cE (by simp[(FK hb0 λq hq=>(hbk.2 q hq).2).2]) (aJ (copy hbk.1) (aU (aV hb0 hD hk rfl) ?_));dsimp only;refine cR rfl ?_;refine Tm.bind (Q:=(·=.inr true)) (eE kn.length (λk t=>t=(k:Int)/\∀j,j<k->yC (aG kn j).to=false) ⟨rfl,λj hj=>by omega⟩ ?_) ?_
    . rintro k hkk _ ⟨rfl,hj⟩;dsimp only[EW];rw[cS];refine bB (λhlt=>?_) (λhge=>aI ?_)
      . have hlt:k<kn.length:=by omega
        have hqk:=hk.2 _ (eW hlt);refine aJ (pC hlt) (aU (Se (K:=536870912) (by decide) (oki (by omega) hqk.2 hqk.1)) (bB (λh=>aI rfl) (λh=>aI ⟨hlt,dV (by have:=hk.1;omega),λj hjk=>?_⟩)));rcases cG j k with h1|h1
        . exact hj j h1
        . obtain rfl:j=k:=by omega
          simpa using h
      . have hkl:k=kn.length:=by omega
        subst hkl;obtain⟨j,hjl,rfl⟩:=lL hq;have:=hj j hjl;rw[tz hjl]at this;have h2:yC (kn[j]).to=true:=by
          unfold yC;refine jg ⟨λb hb'=>?_,?_⟩
          . obtain⟨v,hv,rfl⟩:=eh.1 (show b∈(kn[j]).c.map B from hb');rw[fC];obtain⟨m,hm,rfl⟩:=gw hv;exact hz m (by have:=(hk.2 _ (dC hjl)).2;omega)
          . show bv (B _)<0;rw[fC];exact hb
        rw[h2]at this;cases this
    . rintro _ rfl;exact aI rfl
  |node hD hf hl hr ihl ihr=>
    rename_i base st kn f b l r;have hkl:=hl.kok;have hkr:=hr.kok;have hk:qH n kn:=hkl.sub;obtain⟨e,hke,hel⟩:=hD.pre;have hbk:qH n base:=by rw[hke]at hk;exact hk.sub
    have hkn0:kn≠[]:=by rw[hke];intro e';exact hb0 (Ix.1 e').1
    have hqf:gu 536870912 ⟨f,b⟩:=(hkl.2 _ (xt _ (df.2 rfl))).1;have hkl1:=hkl.1;rw[dL,lJ]at hkl1;refine Tm.succ ?_;show Tm (λN=>tH N (uv N) _ _) _;unfold tH;refine Tm.bind (Ez (by rw[cS];have:=hbk.1;omega)) ?_;rintro _ rfl;refine cE (by simp[(FK hb0 λq hq=>(hbk.2 q hq).2).2]) (aJ (copy hbk.1) (aU (aV hb0 hD hk rfl) ?_));dsimp only;refine cE (by show¬((2:Nat):Int)=0;omega) ?_;refine aU (a:=false) (cE (by show¬((2:Nat):Int)≠2;omega) (cR (by rw[cS];have:=sL.2 hkn0;omega) (aJ (pC (i:=0) (sL.2 hkn0)) (aI ?_)))) ?_
    . refine sS ?_;show¬(((mB f).length:Int)≠((mB (aG kn 0).c).length:Int));rw[dF,dF,hf,(hk.2 _ (eW (sL.2 hkn0))).2];omega
    refine cE (by simp) ?_;have hb2:=hqf.2;refine Tm.bind (zZ (x:=B b) (bT b) (show dl b<=_ by have:dl b<=536870912:=hb2;omega)) ?_;rintro nb ⟨hnb,hnbl⟩;refine Tm.bind (tF (n:=1) (by decide) (by decide)) ?_;rintro one ⟨h1,h1l⟩;have hnbl:nb.aR.length<=dl b:=hnbl;have hb3:dl b<=536870912:=hb2;refine Tm.bind (GH hnb.dg.bT h1.dg.bT (by omega) (by omega)) ?_;rintro i ⟨hi,hil⟩;rw[hnb.bv,h1.bv,fC]at hi;refine aU (a:=(⟨bW f,-b-1⟩:AQ).to) ((WZ (K:=536870912) (q:=bI.mk (mB f) (B b)) (b:=i) (by decide) (by show(mB f).length<=_;rw[dF];omega) (λx hx=>?_) hi.dg.bT (by omega)).mono λr hr=>?_) ?_
    . obtain⟨v,hv,rfl⟩:=eh.1 (show x∈f.map B from hx);exact okB (hqf.1 v hv)
    . obtain⟨g1,g2⟩:=hr;rw[hi.bv]at g2;have e1:r.bG=mB (bW f):=by
        refine jm.uniq (n:=n) (f:=λj=>-vf f j) ?_ ?_
        . refine⟨g1.1.trans ((dF f).trans hf),λj hj=>?_⟩;have:=g1.2 j (by show j<(mB f).length;rw[dF];omega);dsimp only at this;rw[CH,fC]at this;exact this
        . have:jm n (mB (vec n λj=>-vf f j)) (λj=>-vf f j):=Lb;unfold bW;rw[hf];exact this
      have e2:r.dS=B (-b-1):=nc g2;cases r;dsimp only at e1 e2;subst e1;subst e2;rfl
    refine aJ (copy hk.1) (aJ (eb (by rw[cS,lJ];omega) (by decide)) (aJ (copy hk.1) (aJ (eb (by rw[cS,lJ];omega) (by decide)) (aJ (a:=l.to) rfl ?_))));have el:=ihl (by simp);have er:=ihr (by simp);rw[LN]at el er;refine aU el (cR rfl (aJ (a:=r.to) rfl (aU er (aI rfl))))
end Go.D
namespace Go.D
open Go Go.X
def cB:Nat->Nat
 |0=>1
 |1=>1
 |2=>400000000
 |3=>10000
 |_=>50
def iB:Nat->Nat
 |0=>0
 |1=>2
 |2=>23870
 |3=>306
 |_=>32
class cH where
 k:Nat
 h:k<=536870912
def uB[cH]:Nat->Nat
 |0=>cH.k+5000
 |1=>cH.k+4000
 |2=>cH.k+3000
 |3=>cH.k+2000
 |_=>cH.k+1000
def lB:Nat->Nat
 |0=>10
 |1=>400
 |2=>542600000
 |3=>542700000
 |_=>542800000
def dB:Nat->Nat
 |0=>10
 |1=>1000
 |2=>80000
 |3=>85000
 |_=>90000
theorem lev{f:Nat}(h:f+1<=4):f=0\/f=1\/f=2\/f=3:=by omega
theorem lU(f:Nat):cB f<=400000000/\1<=cB f:=by
 match f with
 |0=>decide
 |1=>decide
 |2=>decide
 |3=>decide
 |f+4=>exact⟨show 50<=_ by omega,show 1<=50 by omega⟩
theorem mX(f:Nat):iB f<=23870:=by
 match f with
 |0=>decide
 |1=>decide
 |2=>decide
 |3=>decide
 |f+4=>exact show 32<=_ by omega
theorem tT[cH](f:Nat):cH.k+1000<=uB f/\uB f<=cH.k+5000/\cH.k<=536870912:=by
 have:=cH.h
 match f with
 |0=>exact⟨show cH.k+1000<=cH.k+5000 by omega,show cH.k+5000<=_ by omega,this⟩
 |1=>exact⟨show cH.k+1000<=cH.k+4000 by omega,show cH.k+4000<=_ by omega,this⟩
 |2=>exact⟨show cH.k+1000<=cH.k+3000 by omega,show cH.k+3000<=_ by omega,this⟩
 |3=>exact⟨show cH.k+1000<=cH.k+2000 by omega,show cH.k+2000<=_ by omega,this⟩
 |f+4=>exact⟨show cH.k+1000<=cH.k+1000 by omega,show cH.k+1000<=_ by omega,this⟩
theorem LG{u w m:Nat}(h:u+w<=m):4*(u*w)<=m*m:=by
 have h1:=kY h h;rcases Nat.le_total u w with h2|h2
 . obtain⟨d,rfl⟩:=PK h2;have:(u+(u+d))*(u+(u+d))=4*(u*(u+d))+d*d:=by grind
   omega
 . obtain⟨d,rfl⟩:=PK h2;have:(w+d+w)*(w+d+w)=4*((w+d)*w)+d*d:=by grind
   omega
theorem xK{v:Nat}:∀l:List AI,(cT v l).length+(dQ v l).length+(l.filter λx=>!decide (vf x.g v≠0)).length=l.length
 |[]=>rfl
 |x::l=>by
  have:=xK (v:=v) l;rcases uX (vf x.g v) 0 with h|h|h
  . have e1:cT v (x::l)=cT v l:=by unfold cT;rw[As];simp;omega
    have e2:dQ v (x::l)=x::dQ v l:=by unfold dQ;rw[Qe];simp[h]
    rw[e1,e2,As (by simp;omega),cN,cN];omega
  . have e1:cT v (x::l)=cT v l:=by unfold cT;rw[As];simp;omega
    have e2:dQ v (x::l)=dQ v l:=by unfold dQ;rw[As];simp;omega
    rw[e1,e2,Qe (by simp[h]),cN,cN];omega
  . have e1:cT v (x::l)=x::cT v l:=by unfold cT;rw[Qe];simp[h]
    have e2:dQ v (x::l)=dQ v l:=by unfold dQ;rw[As];simp;omega
    rw[e1,e2,As (by simp;omega),cN,cN];omega
def ja(p:Nat->Bool):Nat->Nat
 |0=>0
 |n+1=>ja p n+if p n then 1 else 0
theorem Kq{p q:Nat->Bool}:∀{n:Nat},(∀j,j<n->p j=q j)->ja p n=ja q n
 |0,_=>rfl
 |n+1,h=>by simp only[ja];rw[Kq (n:=n) λj hj=>h j (by omega),h n (by omega)]
theorem LO{p q:Nat->Bool}{v:Nat}:∀{n:Nat},v<n->p v=true->q v=false->(∀j,j<n->j≠v->q j=p j)->ja q n+1=ja p n
 |n+1,hv,h1,h2,h=>by
  simp only[ja];by_cases e:n=v
  . subst e;rw[Kq (p:=q) (q:=p) (n:=n) λj hj=>h j (by omega) (by omega),h1,h2];simp
  . rw[h n (by omega) e];have:=LO (n:=n) (by omega) h1 h2 λj hj hjv=>h j (by omega) hjv;omega
theorem A4{p:Nat->Bool}{i:Nat}:∀{n:Nat},i<n->p i=true->1<=ja p n
 |n+1,hi,h=>by
  simp only[ja];by_cases e:n=i
  . subst e;rw[h];simp
  . have:=A4 (n:=n) (by omega) h;omega
theorem HN{p:Nat->Bool}{i j:Nat}:∀{n:Nat},ja p n<=1->i<n->j<n->p i=true->p j=true->i=j
 |n+1,hc,hi,hj,h1,h2=>by
  simp only[ja]at hc;by_cases e1:n=i
  . subst e1;by_cases e2:n=j
    . exact e2
    . rw[h1,bA rfl]at hc;have:=A4 (n:=n) (by omega) h2;omega
  . by_cases e2:n=j
    . subst e2;rw[h2,bA rfl]at hc;have:=A4 (n:=n) (by omega) h1;omega
    . exact HN (n:=n) (by omega) (by omega) (by omega) h1 h2
def iY(s:St):Nat:=ja (λj=>decide (vf s.aM j=0)) s.n
theorem Mt{s s':St}{v:Nat}{c:Int}(hn:s'.n=s.n)(hv:v<s.n)(h0:vf s.aM v=0)(hc:c≠0)(h:∀j,vf s'.aM j=if v=j then c else vf s.aM j):iY s'+1=iY s:=by
 unfold iY;rw[hn];refine LO hv (by simp[h0]) (by rw[h,bA rfl];simp[hc]) λj hj hjv=>?_;rw[h,aQ λe=>hjv e.symm]
theorem Ac{s:St}(hI:Inv s){x:AI}(hx:x∈s.aB):∃w,w<s.n/\vf x.g w≠0/\vf s.aM w=0:=by
 refine je λh=>?_;have h1:=hI.ia x hx;have h2:(2:Int)∣((di x.g:Nat):Int):=oq λv hv=>by
  obtain⟨j,hj,rfl⟩:=gw hv;have hj:j<s.n:=by rw[(hI.it x hx).2]at hj;exact hj
  have:vf x.g j=0:=je λe=>h ⟨j,hj,e,je λe2=>e (hI.nf x hx j hj e2)⟩;rw[this];exact xz 2
 rw[h1]at h2;omega
theorem KI{s:St}(hI:Inv s)(hf:iY s<=1){x:AI}(hx:x∈s.aB):∃w,tU s.n x.g w/\vf s.aM w=0/\(vf x.g w).natAbs=1:=by
 obtain⟨w,hw,hw0,hws⟩:=Ac hI hx;have hS:tU s.n x.g w:=⟨hw,hw0,λj hj hjw=>je λe=>by
  have hjs:vf s.aM j=0:=je λe2=>e (hI.nf x hx j hj e2);exact hjw (HN hf hj hw (by simp[hjs]) (by simp[hws]))⟩
 exact⟨w,hS,hws,Gn (hI.it x hx).2 (hI.ia x hx) hS⟩
theorem Au{s:St}(hI:Inv s)(hf:iY s<=1):∀x∈s.aB,∀j,j<s.n->(vf x.g j).natAbs<=1:=by
 intro x hx j hj;obtain⟨w,h1,_,h3⟩:=KI hI hf hx;by_cases e:j=w
 . subst e;omega
 . rw[h1.2.2 j hj e];simp
theorem KK{s:St}(hI:Inv s)(hf:iY s<=1):s.aB.length<=2:=by
 by_cases h0:∃w,w<s.n/\vf s.aM w=0
 . obtain⟨w,hw,hws⟩:=h0;have hnd:(s.aB.map AI.g).Nodup:=by unfold List.Nodup;rw[I6];exact hI.kr
   have:=XW (l₂:=[vec s.n λj=>if j=w then 1 else 0,vec s.n λj=>if j=w then-1 else 0]) hnd (λg hg=>by
    obtain⟨x,hx,rfl⟩:=eh.1 hg;obtain⟨w',h1,h2,h3⟩:=KI hI hf hx;obtain rfl:w'=w:=HN hf h1.1 hw (by simp[h2]) (by simp[hws]);have hxl:=(hI.it x hx).2;have key:∀c:Int,vf x.g w'=c->x.g=vec s.n λj=>if j=w' then c else 0:=λc hc=>kg (by rw[hxl,dN]) λj hj=>by
     rw[db (by omega)];by_cases e:j=w'
     . subst e;rw[bA rfl,hc]
     . rw[aQ e];exact h1.2.2 j (by omega) e
    rcases Int.natAbs_eq_iff.1 (show(vf x.g w').natAbs=(1:Nat) from h3)with h4|h4
    . rw[key 1 h4];simp
    . rw[key (-1) h4];simp)
   simpa using this
 . cases hi:s.aB with
   |nil=>simp
   |cons x l=>
    obtain⟨w,h1,_,h3⟩:=Ac hI (x:=x) (by rw[hi];simp);exact bX ⟨w,h1,h3⟩ h0
theorem Gq{s:St}(hI:Inv s)(hf:iY s=0):s.aB=[]:=by
 cases hi:s.aB with
 |nil=>rfl
 |cons x l=>
  obtain⟨w,h1,_,h3⟩:=Ac hI (x:=x) (by rw[hi];simp);have:=A4 (p:=λj=>decide (vf s.aM j=0)) h1 (by simp[h3]);unfold iY at hf;omega
structure Good [cH](sys base:List AQ)(f K:Nat)(s:St):Prop where
 inv:Inv s
 rf:RF sys s
 n:s.n<=4
 fr:iY s<=f
 co:∀x∈s.aB,∀j,j<s.n->(vf x.g j).natAbs<=cB f
 q:∀q∈s.aA,gu K q
 su:SU (uB f) s
 st:∀e∈s.aK,qz s e
 jb:iH s.n base s.aV s.aA
section
variable [cH] {sys base:List AQ} {f K:Nat} {s:St}
theorem yJ{n C:Nat}{x:AI}(hl:x.g.length=n)(h:∀j,j<n->(vf x.g j).natAbs<=C)(hC:C<=4294967295):∀v∈x.g,dl v<=1:=λv hv=>by
 obtain⟨j,hj,rfl⟩:=gw hv;exact kD (by have:=h j (by omega);omega)
theorem Good.mG(h:Good sys base f K s){K':Nat}(hK:K<=K')(hK':K'<=1099511627000)(hkl:s.aA.length<=1073741824)(hil:s.aB.length<=1073741824):ig K' s:=by
 obtain⟨e,he,hel⟩:=h.jb.pre;refine⟨by have:=h.n;omega,hkl,by rw[he,dL]at hkl;omega,hil,λq hq=>⟨(h.q q hq).mono hK,h.inv.kl q hq⟩,λx hx=>?_,hK'⟩;obtain⟨x1,x2⟩:=h.inv.it x hx;exact⟨x1,x2,λv hv=>bV (yJ x2 (h.co x hx) (by have:=lU f;omega) v hv) (by decide)⟩
theorem Good.aV(h:Good sys base f K s):s.aV.length<=s.aA.length:=by
 obtain⟨e,he,hel⟩:=h.jb.pre;rw[he,dL];omega
theorem Good.Dh(h:Good sys base f K s)(hil:s.aB.length<=1073741824):jB s.n s.aB:=⟨hil,λx hx=>by
 obtain⟨x1,x2⟩:=h.inv.it x hx;exact⟨x2,λv hv=>bV (yJ x2 (h.co x hx) (by have:=lU f;omega) v hv) (by decide)⟩⟩
theorem ue{Kk K:Nat}:∀(L:List Act) (s:St),ig K s->j3 L.length s->(∀a∈L,mr Kk s a)->Kk+6<=K->ig K (ct s L).2
 |[],s,hs,_,_,_=>hs
 |.add x::r,s,hs,hr,hA,hK=>by
  obtain⟨h1,h2⟩:=NU (m:=r.length) hs (hA _ cU) hr;exact ue r _ h1 h2 (λa ha=>(hA a (cP _ ha)).app rfl (e:=[]) (by simp[add])) hK
 |.put g us::r,s,hs,hr,hA,hK=>by
  have hp:gX Kk s g us:=hA _ cU;obtain⟨h1,h2⟩:=LD (m:=r.length) hs hp hK hr;obtain⟨e,he,_⟩:=BZ s g us;have e1:ct s (.put g us::r)=if(put s g us).1=true then ct (put s g us).2 r else(false,(put s g us).2):=rfl;rw[e1];split
  . exact ue r _ h1 h2 (λa ha=>(hA a (cP _ ha)).app (AF s g us) he) hK
  . exact h1
theorem qz.kept{s s':St}{e:AE}(h:qz s e)(k:Kept s s'):qz s' e:=by
 obtain⟨x,hx⟩:=k.kn;exact⟨h.il,by rw[k.n];exact h.v,λp hp=>⟨by rw[hx,dL];have:=(h.p p hp).1;omega,by rw[k.u,k.n,hx,iz (h.p p hp).1];exact(h.p p hp).2⟩⟩
theorem SU.mono{K K':Nat}{s:St}(h:SU K s)(hK:K<=K'):SU K' s:=⟨⟨h.u.1,λr hr=>⟨(h.u.2 r hr).1,λv hv=>bV ((h.u.2 r hr).2 v hv) hK⟩⟩,h.st,⟨h.v.1,λv hv=>bV (h.v.2 v hv) hK⟩⟩
theorem yS(hI:Inv s){n:Nat}(hn:s.n=n)(hD:iH n base s.aV s.aA)(hkl:s.aA.length<=1073741824)(hq:∀q∈s.aA,gu 536870912 q)(hb:∃q∈s.aA,(∀j,j<n->vf q.c j=0)/\q.b<0):Ref n base (.leaf s.aV):=by
 obtain⟨q,h1,h2,h3⟩:=hb;exact .leaf hD ⟨hkl,λq hq'=>⟨hq q hq',by rw[hI.kl q hq',hn]⟩⟩ q h1 h2 h3
theorem O2{f M:Nat}(hf:f+1<=4)(hI:Inv s)(hfr:iY s<=f)(hM:M=4*(cB (f+1)*cB (f+1)))(h:∀z∈s.aB,GB M z.g):∀x∈s.aB,∀j,j<s.n->(vf x.g j).natAbs<=cB f:=by
 intro x hx j hj;have h1:(vf x.g j).natAbs<=M:=h x hx _ (gP (by rw[(hI.it x hx).2];exact hj));rcases lev hf with rfl|rfl|rfl|rfl
 . exact Au hI (by omega) x hx j hj
 . exact Au hI (by omega) x hx j hj
 . exact bV h1 (by rw[hM];decide)
 . exact bV h1 (by rw[hM];decide)
theorem JV{f m:Nat}(hf:f+1<=4)(hI:Inv s)(hfr:iY s<=f)(hm:m<=iB (f+1)+1)(h:s.aB.length<=m+m*m/4):s.aB.length<=iB f:=by
 have hmm:m*m<=(iB (f+1)+1)*(iB (f+1)+1):=kY hm hm;rcases lev hf with rfl|rfl|rfl|rfl
 . rw[Gq hI (by omega)];simp
 . exact KK hI (by omega)
 . have:iB (2+1)=306:=rfl;have:iB 2=23870:=rfl;rw[show iB (2+1)=306 from rfl]at hm hmm;omega
 . have:iB 3=306:=rfl;rw[show iB (3+1)=32 from rfl]at hm hmm;omega
theorem vO{f m:Nat}(hf:f+1<=4)(hm:m<=iB (f+1)+1):2*m+m*m/4+cB (f+1)+300+lB f<=lB (f+1):=by
 have hmm:m*m<=(iB (f+1)+1)*(iB (f+1)+1):=kY hm hm;rcases lev hf with rfl|rfl|rfl|rfl
 . rw[show iB (0+1)=2 from rfl]at hm hmm;rw[show cB (0+1)=1 from rfl,show lB 0=10 from rfl,show lB (0+1)=400 from rfl];omega
 . rw[show iB (1+1)=23870 from rfl]at hm hmm;rw[show cB (1+1)=400000000 from rfl,show lB 1=400 from rfl,show lB (1+1)=542600000 from rfl];omega
 . rw[show iB (2+1)=306 from rfl]at hm hmm;rw[show cB (2+1)=10000 from rfl,show lB 2=542600000 from rfl,show lB (2+1)=542700000 from rfl];omega
 . rw[show iB (3+1)=32 from rfl]at hm hmm;rw[show cB (3+1)=50 from rfl,show lB 3=542700000 from rfl,show lB (3+1)=542800000 from rfl];omega
theorem wJ{f m:Nat}(hf:f+1<=4)(hm:m<=iB (f+1)+1):3*m+600+dB f<=dB (f+1):=by
 rcases lev hf with rfl|rfl|rfl|rfl
 . rw[show iB (0+1)=2 from rfl]at hm;rw[show dB 0=10 from rfl,show dB (0+1)=1000 from rfl];omega
 . rw[show iB (1+1)=23870 from rfl]at hm;rw[show dB 1=1000 from rfl,show dB (1+1)=80000 from rfl];omega
 . rw[show iB (2+1)=306 from rfl]at hm;rw[show dB 2=80000 from rfl,show dB (2+1)=85000 from rfl];omega
 . rw[show iB (3+1)=32 from rfl]at hm;rw[show dB 3=85000 from rfl,show dB (3+1)=90000 from rfl];omega
theorem J8{f:Nat}(hf:f+1<=4):uB (f+1)+820<=uB f:=by
 rcases lev hf with rfl|rfl|rfl|rfl
 . show cH.k+4000+820<=cH.k+5000;omega
 . show cH.k+3000+820<=cH.k+4000;omega
 . show cH.k+2000+820<=cH.k+3000;omega
 . show cH.k+1000+820<=cH.k+2000;omega
theorem FF(hI:Inv s)(hfr:iY s<=f)(h:s.aB≠[]):0<f:=by
 refine Nat.pos_of_ne_zero λe=>h (Gq hI (by omega))
def Nxt(sys base:List AQ)(f K L n:Nat)(ep:List AE)(r:Bool×aS):Prop:=∃s':St,r.2=s'.to/\s'.n=n/\((r.1=true/\Good sys base f K s'/\s'.aB.length<=iB f/\s'.aA.length<=L/\s'.aK=ep)\/(r.1=false/\Ref n base (.leaf s'.aV)))
theorem Vr{s':St}(hI:Inv s)(h:iQ s s'){p j:Nat}(hp:p<s.aA.length)(hj:j<s.n)(hst:vf s.aM j≠0):cu s'.u s'.n (aG s'.aA p).c j=cu s.u s.n (aG s.aA p).c j:=by
 obtain⟨e,he⟩:=h.kn;unfold cu;rw[h.n,he,iz hp];exact ed (λ_ _=>rfl) λi hi=>(h.col j hj hst).2.2 i hi
theorem Kd{s':St}(hI:Inv s)(h:iQ s s')(hs:s'.aK=s.aK)(hr:RF sys s):RF sys s':=
 ⟨h.R hr.R,λk e hk ht=>h.F hI (by rw[<-hs];exact hk) (hr.F k e (by rw[<-hs];exact hk) ht)⟩
theorem KV{i j m:Nat}(hf:f+1<=4)(h:Good sys base (f+1) K s)(hm:m<=iB (f+1)+1)(hil:s.aB.length<=m)(hkl:s.aA.length+m<=1073741824)(hK:K+6<=cH.k)(he:oK s i j):
 Tm (λN=>pA N s.to (i:Int) (j:Int)) (Nxt sys base f (K+6) (s.aA.length+m) s.n s.aK):=by
 have hL:cM=1099511627776:=rfl;have hC:=lU (f+1);have hmB:=mX (f+1);have hu:=tT (f+1);have hn:=h.n;have hsteps:=h.aV;have hso:=h.mG (K':=K) (bQ _) (by omega) (by omega) (by omega);have hso6:=h.mG (K':=K+6) (by omega) (by omega) (by omega) (by omega);have hnC:s.n*cB (f+1)<=4*400000000:=kY hn hC.1;refine(Ki h.inv hso h.su hn he h.co (by omega) (by omega) (by omega) (by omega) (by omega) (by omega)).mono ?_;rintro _ ⟨p,s1,hP,rfl⟩;have hlen:=ED hP;have hAk:=GZ h.inv hso hn (by omega) hP he;have hinv1:=Lr h.inv hP;have hA:=qc (K:=K) (M:=4*(cB (f+1)*cB (f+1))) (ez s1 i j p 0) (eu s1 i p) hinv1 (λa ha=>(hAk a ha).2) (λz hz=>by cases hz) λa ha=>(hAk a ha).1.2;have hLl:=Hb (s:=s1) (i:=i) (j:=j) (p:=p) s1.aB.length 0 (by omega);have hok2:ig (K+6) (eu s1 i p):=⟨by show s1.n<=_;rw[hP.n];omega,by show s1.aA.length<=_;rw[hP.kn];omega,by show s1.aV.length<=_;rw[hP.st];omega,by simp[eu],λq hq=>by
  have hq:q∈s1.aA:=hq;rw[hP.kn]at hq;exact⟨(h.q q hq).mono (by omega),by rw[h.inv.kl q hq];exact hP.n.symm⟩,λx hx=>(by cases hx),by omega⟩
 have hsok:=ue (Kk:=K) (ez s1 i j p 0) (eu s1 i p) hok2 ⟨by show s1.aA.length+_<=_;rw[hP.kn];omega,by show s1.aV.length+_<=_;rw[hP.st];omega,by show 0+_<=_;omega⟩ (λa ha=>(hAk a ha).1.1) (bQ _);have hkn':(eu s1 i p).aA=s.aA:=hP.kn;have hst':(eu s1 i p).aV=s.aV:=hP.st;have hn':(eu s1 i p).n=s.n:=hP.n;have hil':=hA.il;have hkl':=hA.kl;rw[hkn']at hkl';have hil'':(ct (eu s1 i p) (ez s1 i j p 0)).2.aB.length<=m:=by
  have:(eu s1 i p).aB.length=0:=rfl;omega
 have hder:iH s.n base (ct (eu s1 i p) (ez s1 i j p 0)).2.aV (ct (eu s1 i p) (ez s1 i j p 0)).2.aA:=by
  have:=hA.jb base (by rw[hn',hst',hkn'];exact h.jb);rwa[hn']at this
 have hnn:(ct (eu s1 i p) (ez s1 i j p 0)).2.n=s.n:=hA.kept.n.trans hn';refine⟨_,rfl,hnn,?_⟩;cases hb:(ct (eu s1 i p) (ez s1 i j p 0)).1 with
 |false=>
  refine .inr ⟨rfl,yS hA.inv hnn hder (by omega) (λq hq=>(hsok.k q hq).1.mono (by omega)) ?_⟩;obtain⟨q,q1,q2,q3⟩:=hA.bad hb;exact⟨q,q1,λj hj=>q2 j (by rw[hn'];exact hj),q3⟩
 |true=>
  rw[hb]at hA;have hsim:=ND h.inv hP he hA λa ha=>(hAk a ha).2;have hstk:(ct (eu s1 i p) (ez s1 i j p 0)).2.aK=s.aK:=hA.kept.ep.trans hP.ep;have hfr:iY (ct (eu s1 i p) (ez s1 i j p 0)).2+1=iY s:=Mt (c:=1) hnn hP.pn hP.free (by decide) λm=>by
   rw[hA.kept.aM];show vf (s1.aM.set p 1) m=_;rw[iX (by rw[hP.inv.gB,hP.n];exact hP.pn),hP.aM]
  have hfr':iY (ct (eu s1 i p) (ez s1 i j p 0)).2<=f:=by have:=h.fr;omega
  refine .inl ⟨rfl,⟨hA.inv,Kd h.inv hsim hstk h.rf,by rw[hnn];exact hn,hfr',?_,λq hq=>(hsok.k q hq).1,?_,λe he'=>?_,by rw[hnn];exact hder⟩,?_,by omega,hstk⟩
  . exact O2 hf hA.inv hfr' rfl hA.gb
  . have hsu:=hP.su;have hup:=J8 (f:=f) hf;have hv:dl (aG s1.aA (bE s1 i).pos).b<=uB f:=by
     have h1:=(hP.inv.it _ (eU (kQ hP i he.il).1)).1;have h2:=(h.q _ (by rw[<-hP.kn];exact eW h1)).2;have:=tT f;omega
    refine⟨⟨by rw[hA.kept.u,hnn];show s1.u.length=_;rw[hsu.u.1,hP.n],λr hr=>?_⟩,by rw[hA.kept.aM,hnn];show(s1.aM.set p 1).length=_;rw[gI,hsu.st,hP.n],?_⟩
    . rw[hA.kept.u]at hr;have:=hsu.u.2 r hr;rw[hnn];exact⟨this.1.trans hP.n,λv hv=>bV (this.2 v hv) (by omega)⟩
    . rw[hA.kept.value,hnn];show kK s.n (uB f) (s1.value.set p _);refine⟨by rw[gI,hsu.v.1,hP.n],λv hv'=>?_⟩;rcases qP hv' with hv'|rfl
      . exact bV (hsu.v.2 v hv') (by omega)
      . exact hv
  . rw[hstk]at he';have e0:=h.st e he';obtain⟨x,hx⟩:=hsim.kn;refine⟨e0.il,by rw[hnn];exact e0.v,λq hq=>⟨by rw[hx,dL];have:=(e0.p q hq).1;omega,?_⟩⟩;rw[Vr h.inv hsim (e0.p q hq).1 e0.v (by rw[(h.inv.sv e he').2.1];omega)];exact(e0.p q hq).2
  . exact JV hf hA.inv hfr' hm (by have:m<=m+m*m/4:=Nat.le_add_right _ _;omega)
end
end Go.D
namespace Go.D
open Go Go.X
section
variable [cH] {sys base:List AQ} {f K:Nat} {s:St}
theorem Jf{s0:St}{v m:Nat}{t:Bool}{ats:List Nat}(hf:f+1<=4)(h:Good sys base (f+1) K s)(hI0:Inv s0)(hr0:RF sys s0)(hk:Kept s0 s)(hv:v<s.n)(hst:vf s.aM v=0)(hats:zw s v ats)(hatl:ats.length<=1073741824)
 (hcov:∀y,(∀x∈s.aB,vf x.g v=0->IH s y x)->(∀p∈ats,hx s (ux s y) p)->∀x∈s0.aB,IH s0 y x)
 (hF:t=false->∀y,BD s v y->∃z,∀p∈ats,hx s (ux s (cX y v z)) p)
 (hm:m<=iB (f+1)+1)(hil:s.aB.length<=m)(hkl:s.aA.length+m*m/4<=1073741824)(hK:K+6<=cH.k):
 Nxt sys base f (K+6) (s.aA.length+m*m/4) s.n (s.aK++[⟨v,ats,t⟩]) ((ct (gg s v t ats) (dJ s v)).1,(ct (gg s v t ats) (dJ s v)).2.to):=by
 have hC:=lU (f+1);have hKM:=cH.h;have hmB:=mX (f+1);have hn:=h.n;have hsteps:=h.aV;have hso:=h.mG (K':=K) (bQ _) (by omega) (by omega) (by omega);have hso6:=h.mG (K':=K+6) (by omega) (by omega) (by omega) (by omega);have hsl:=xK (v:=v) s.aB;have hLl:=Kp (s:=s) (v:=v);have hsq:=LG (u:=(cT v s.aB).length) (w:=(dQ v s.aB).length) (m:=m) (by omega);have hAk:=LC (t:=t) (ats:=ats) h.inv hso hv h.co (by omega);have hinv1:=Inv.gg (t:=t) h.inv hv hst hats;have hgb0:∀z∈(gg s v t ats).aB,GB (4*(cB (f+1)*cB (f+1))) z.g:=λz hz w hw=>by
  obtain⟨z1,_⟩:=sC.1 hz;obtain⟨j,hj,rfl⟩:=gw hw;have:=h.co z z1 j (by rw[(h.inv.it z z1).2]at hj;exact hj);have h1:cB (f+1)*1<=cB (f+1)*cB (f+1):=I7 _ hC.2;omega
 have hA:=qc (K:=K) (M:=4*(cB (f+1)*cB (f+1))) (dJ s v) (gg s v t ats) hinv1 (λa ha=>(hAk a ha).2) hgb0 λa ha=>(hAk a ha).1.2;have hok2:ig (K+6) (gg s v t ats):=⟨hso6.n,hso6.kl,hso6.sl,bV (qT ..) hso6.il,hso6.k,λx hx=>hso6.i x (sC.1 hx).1,hso6.K⟩;have hfil:(gg s v t ats).aB.length=(s.aB.filter λx=>!decide (vf x.g v≠0)).length:=rfl;have hmm:m*m<=23871*23871:=kY (by omega) (by omega);have hsok:=ue (Kk:=K) (dJ s v) (gg s v t ats) hok2 ⟨by show s.aA.length+_<=_;omega,by show s.aV.length+_<=_;omega,by rw[hfil];omega⟩ (λa ha=>(hAk a ha).1.1) (bQ _);have hil':=hA.il;have hkl':_<=s.aA.length+_:=hA.kl;have hil'':(ct (gg s v t ats) (dJ s v)).2.aB.length<=m+m*m/4:=by omega
 have hder:iH s.n base (ct (gg s v t ats) (dJ s v)).2.aV (ct (gg s v t ats) (dJ s v)).2.aA:=hA.jb base h.jb;have hnn:(ct (gg s v t ats) (dJ s v)).2.n=s.n:=hA.kept.n;refine⟨_,rfl,hnn,?_⟩;cases hb:(ct (gg s v t ats) (dJ s v)).1 with
 |false=>exact .inr ⟨rfl,yS hA.inv hnn hder (by omega) (λq hq=>(hsok.k q hq).1.mono (by omega)) (hA.bad hb)⟩
 |true=>
  rw[hb]at hA;have hsim:=Si hI0 h.inv hk hv hst hcov hats hA;have hstk:(ct (gg s v t ats) (dJ s v)).2.aK=s.aK++[⟨v,ats,t⟩]:=hA.kept.ep;have hfr:iY (ct (gg s v t ats) (dJ s v)).2+1=iY s:=Mt (c:=2) hnn hv hst (by decide) λm=>by
   rw[hA.kept.aM];exact rX h.inv hv m
  have hfr':iY (ct (gg s v t ats) (dJ s v)).2<=f:=by have:=h.fr;omega
  have hup:=J8 (f:=f) hf;refine .inl ⟨rfl,⟨hA.inv,⟨hsim.R hr0.R,λk e hke ht=>?_⟩,by rw[hnn];exact hn,hfr',O2 hf hA.inv hfr' rfl hA.gb,λq hq=>(hsok.k q hq).1,?_,λe he'=>?_,by rw[hnn];exact hder⟩,JV hf hA.inv hfr' hm hil'',by omega,hstk⟩
  . rw[hstk]at hke;rcases cG k s0.aK.length with hlt|hge
    . rw[hk.ep,kW hlt]at hke;exact hsim.F hI0 hke (hr0.F k e hke ht)
    . rw[hk.ep,pJ hge]at hke;obtain rfl:⟨v,ats,t⟩=e:=by
       cases hd:k-s0.aK.length with
       |zero=>rw[hd]at hke;exact jd hke
       |succ d=>rw[hd]at hke;cases hke
      exact Wv h.inv hv hats hA (hF ht)
  . have hsu:=h.su.mono (K':=uB f) (by omega);refine⟨⟨by rw[hA.kept.u,hnn];exact hsu.u.1,λr hr=>by rw[hA.kept.u]at hr;rw[hnn];exact hsu.u.2 r hr⟩,by rw[hA.kept.aM,hnn];show(s.aM.set v 2).length=_;rw[gI];exact hsu.st,by rw[hA.kept.value,hnn];exact hsu.v⟩
  . rw[hstk]at he';have hE:qz s e:=by
     rcases gH.1 he' with he'|he'
     . exact h.st e he'
     . rw[df.1 he'];exact⟨hatl,hv,λp hp=>⟨(hats p hp).1,(hats p hp).2.2⟩⟩
    obtain⟨x,hx'⟩:=hA.kept.kn;exact⟨hE.il,by rw[hnn];exact hE.v,λp hp=>⟨by rw[hx',dL];have:=(hE.p p hp).1;show p<s.aA.length+_;omega,by rw[hA.kept.u,hnn,hx'];show cu s.u s.n (aG (s.aA++x) p).c e.v≠0;rw[iz (hE.p p hp).1];exact(hE.p p hp).2⟩⟩
theorem JY{v:Nat}{low:AI}{cw:List AI}(h:0<eR v cw):(eR v cw-1)*(-vf low.g v-1)<=eR v cw*(iE v low cw+1):=by
 have h1:=qM (a:=eR v cw*-vf low.g v-eR v cw- -vf low.g v) h;unfold iE;generalize(eR v cw*-vf low.g v-eR v cw- -vf low.g v).fdiv (eR v cw)=q at*;have e1:(eR v cw-1)*(-vf low.g v-1)=eR v cw*-vf low.g v-eR v cw- -vf low.g v+1:=by grind
 have e2:eR v cw*(q+1)=q*eR v cw+eR v cw:=by grind
 omega
theorem JQ{a A b k:Int}(ha:0<a)(haA:a<=A)(hb:0<b)(h:(A-1)*(b-1)<=A*k):(a-1)*(b-1)<=a*max k 0:=by
 have hA:0<A:=by omega
 rcases xA k 0 with hk|hk
 . have h1:A*k<=A*0:=gU hk (eK hA);have h2:=fp (show a-1<=A-1 by omega) (show 0<=b-1 by omega);rw[Qf hk];omega
 . rw[Int.max_eq_left hk];have h1:=gU h (eK ha);have h2:A*(a-1)<=a*(A-1):=by
    have e1:A*(a-1)=a*A-A:=by grind
    have e2:a*(A-1)=a*A-a:=by grind
    omega
   have h3:=fp h2 (show 0<=b-1 by omega);have e1:a*((A-1)*(b-1))=a*(A-1)*(b-1):=by grind
   have e2:A*(a-1)*(b-1)=A*((a-1)*(b-1)):=by grind
   have e3:a*(A*k)=A*(a*k):=by grind
   exact D7 (a:=A) (by omega) hA
theorem EC{v:Nat}{s:St}(h:cT v s.aB≠[]):0<eR v (cT v s.aB):=by
 obtain⟨x,hx,e⟩:=Ep (v:=v) h;rw[e];exact(lG.1 hx).2
theorem VE{v:Nat}(hI:Inv s)(hv:v<s.n)(he:tQ s v):∀y,BD s v y->∃z,∀p∈fM s v,hx s (ux s (cX y v z)) p:=by
 intro y hp;obtain⟨z,h1,h2⟩:=Mf (y:=y) hv (λw=>(aG s.aA w.pos).b) (λx hx w hw=>by
  have h0:=hp x hx w hw;have hne:cT v s.aB≠[]:=I8 hx;have hs:iE v w (cT v s.aB)<0:=by
   rcases he with he|he
   . exact bX he hne
   . exact he w hw
  have h3:=JQ (lG.1 hx).2 (OL x hx) (show 0< -vf w.g v by have:=(iT.1 hw).2;omega) (JY (low:=w) (EC hne));rw[Qf (by omega)]at h3;omega)
 refine⟨z,λp hp'=>?_⟩;obtain⟨x,hx',rfl⟩:=eh.1 hp';rcases gH.1 hx' with hx'|hx'
 . exact(tu hI (lG.1 hx').1).1 (h1 x hx')
 . exact(tu hI (iT.1 hx').1).1 ((F7 hv).2 (h2 x hx'))
theorem Vi{v:Nat}(hI:Inv s):∀y,(∀x∈s.aB,vf x.g v=0->IH s y x)->(∀p∈fM s v,hx s (ux s y) p)->∀x∈s.aB,IH s y x:=by
 intro y h1 h2 x hx';by_cases h0:vf x.g v=0
 . exact h1 x hx' h0
 . refine(tu hI hx').2 (h2 _ (eh.2 ⟨x,gH.2 ?_,rfl⟩));rcases sP h0 with h|h
   . exact .inr (iT.2 ⟨hx',h⟩)
   . exact .inl (lG.2 ⟨hx',h⟩)
theorem OP{v:Nat}:(fM s v).length<=s.aB.length:=by
 have:=xK (v:=v) s.aB;unfold fM;rw[cS,dL];omega
theorem Pl{v m:Nat}{t:Bool}(h:Good sys base (f+1) K s)(hv:v<s.n)(hm:m<=iB (f+1)+1)(hil:s.aB.length<=m)(hkl:s.aA.length+m*m/4<=1073741824)(hK:K+6<=cH.k):
 Tm (λN=>oL N s.to (v:Int) t) (·=((ct (e9 s v t) (dJ s v)).1,(ct (e9 s v t) (dJ s v)).2.to)):=by
 have hC:=lU (f+1);have hKM:=cH.h;have hmB:=mX (f+1);have hn:=h.n;have hsteps:=h.aV;have hso:=h.mG (K':=K) (bQ _) (by omega) (by omega) (by omega);have hso6:=h.mG (K':=K+6) (by omega) (by omega) (by omega) (by omega);have hsl:=xK (v:=v) s.aB;have hLl:=Kp (s:=s) (v:=v);have hsq:=LG (u:=(cT v s.aB).length) (w:=(dQ v s.aB).length) (m:=m) (by omega);have hmm:m*m<=23871*23871:=kY (by omega) (by omega);have hstl:=FQ h.inv;have hAk:=LC (t:=t) (ats:=fM s v) h.inv hso hv h.co (by omega);have hfl:(e9 s v t).aB.length<=s.aB.length:=qT ..;have hr:j3 (dJ s v).length (e9 s v t):=⟨by show s.aA.length+_<=_;omega,by show s.aV.length+_<=_;omega,by omega⟩;exact Wd hso6 hv h.inv.gB (by omega) (bQ _) (λa ha=>(hAk a ha).1.1) hr
theorem OS{v m:Nat}{t:Bool}(hf:f+1<=4)(h:Good sys base (f+1) K s)(hv:v<s.n)(hst:vf s.aM v=0)(he:t=false->tQ s v)(hm:m<=iB (f+1)+1)(hil:s.aB.length<=m)(hkl:s.aA.length+m*m/4<=1073741824)(hK:K+6<=cH.k):
 Tm (λN=>oL N s.to (v:Int) t) (Nxt sys base f (K+6) (s.aA.length+m*m/4) s.n (s.aK++[⟨v,fM s v,t⟩])):=by
 have hmB:=mX (f+1);refine(Pl h hv hm hil hkl hK).mono λr hr'=>?_;rw[hr',Sg];exact Jf hf h h.inv h.rf (Kept.refl s) hv hst (J7 h.inv hv) (bV OP (by omega)) (Vi h.inv) (λht=>VE h.inv hv (he ht)) hm hil hkl hK
theorem Wq{s':St}(hI:Inv s)(k:Kept s s')(hi:∀y,(∀x∈s'.aB,IH s' y x)->∀x∈s.aB,IH s y x):iQ s s':=by
 obtain⟨e,he⟩:=k.kn;have hux:∀y i,ux s' y i=ux s y i:=λy i=>by unfold ux;rw[k.u,k.n]
 refine⟨k.n,⟨e,he⟩,⟨[],by rw[k.ep];simp⟩,λj hj hs=>⟨by rw[k.aM],λ_=>by rw[k.value],λi _=>by rw[k.u]⟩,λy=>⟨y,λi _=>hux y i,λ_ _ _=>rfl,λm hm ⟨h1,h2,h3⟩=>⟨λj hj hs=>?_,hi y h2,λe' he' p hp=>?_⟩⟩⟩
 . have:=h1 j (by rw[k.n];exact hj) (by rw[k.aM];exact hs);rw[this,k.value]
 . have:=h3 e' (by rw[k.ep];exact he') p hp;exact(tR k.n he ((hI.sv e' (II he')).2.2 p hp) λi _=>hux y i).1 this
theorem EU{s':St}{base':List AQ}{K':Nat}(h:Good sys base f K s)(k:Kept s s')(hI':Inv s')(hi:∀y,(∀x∈s'.aB,IH s' y x)->∀x∈s.aB,IH s y x)(hco:∀x∈s'.aB,∀j,j<s.n->(vf x.g j).natAbs<=cB f)
 (hq:∀q∈s'.aA,gu K' q)(hder:iH s'.n base' s'.aV s'.aA):Good sys base' f K' s' where
 inv:=hI'
 rf:=Kd h.inv (Wq h.inv k hi) k.ep h.rf
 n:=by rw[k.n];exact h.n
 fr:=by have:=h.fr;unfold iY at*;rw[k.n,k.aM];exact this
 co x hx j hj:=hco x hx j (by rw[<-k.n];exact hj)
 q:=hq
 su:=⟨⟨by rw[k.u,k.n];exact h.su.u.1,λr hr=>by rw[k.u]at hr;rw[k.n];exact h.su.u.2 r hr⟩,by rw[k.aM,k.n];exact h.su.st,by rw[k.value,k.n];exact h.su.v⟩
 st e he:=(h.st e (by rw[<-k.ep];exact he)).kept k
 jb:=hder
theorem OC(s:St)(q:AQ):Kept s (dp s q):=⟨rfl,rfl,rfl,rfl,rfl,[q],rfl⟩
theorem vW{q:AQ}{K':Nat}(h:Good sys base f K s)(hl:q.c.length=s.n)(hq:gu K' q)(hK:K<=K'):Good sys (s.aA++[q]) f K' (dp s q):=by
 refine EU h (OC s q) (h.inv.aA (e:=[q]) rfl λq' hq'=>by rw[df.1 hq'];exact hl) (λy hy x hx'=>(zH (s:=s) (s':=dp s q) rfl (e:=[q]) rfl (h.inv.it x hx').1).1 (hy x hx')) h.co (λq' hq'=>?_) .nil;rcases gH.1 hq' with hq'|hq'
 . exact(h.q q' hq').mono hK
 . rw[df.1 hq'];exact hq
theorem WX{x:AI}(h:Good sys base f K s)(hx:ky s x)(hco:∀j,j<s.n->(vf x.g j).natAbs<=cB f):Good sys base f K (add s x):=
 EU h (Bo s x) (h.inv.add hx) (λy hy=>(Bz (s:=s) (x:=x) (y:=y) (l:=s.aB) hy).1) (λz hz j hj=>(mb hz).elim (λe=>by subst e;exact hco j hj) λhz=>h.co z hz j hj) h.q h.jb
def nW(s:St)(p p':Nat):St:={s with aB:=tS s.aB p p'}
theorem Bw{l:List AI}{p p':Nat}{x:AI}:x∈tS l p p'↔∃y∈l,(if y.pos=p then{y with pos:=p'}else y)=x:=eh
theorem LM(s:St)(p p':Nat):Kept s (nW s p p'):=⟨rfl,rfl,rfl,rfl,rfl,[],by simp[nW]⟩
theorem S9{p p':Nat}(h:Good sys base f K s)(hp:p'<s.aA.length)(hc:(aG s.aA p').c=(aG s.aA p).c)(hb:(aG s.aA p').b<=(aG s.aA p).b):Good sys base f K (nW s p p'):=by
 have key:∀x∈(nW s p p').aB,∃y∈s.aB,x.g=y.g/\(x=y\/(y.pos=p/\x.pos=p')):=λx hx'=>by
  obtain⟨y,hy,rfl⟩:=Bw.1 hx';split
  . rename_i e;exact⟨y,hy,rfl,.inr ⟨e,rfl⟩⟩
  . exact⟨y,hy,rfl,.inl rfl⟩
 refine EU h (LM s p p') ⟨h.inv.ul,h.inv.gB,h.inv.vl,h.inv.kl,λx hx'=>?_,λx hx' j hj=>?_,λx hx'=>?_,λx hx'=>?_,?_,h.inv.j1,h.inv.stat,h.inv.sv,h.inv.s2,h.inv.sd⟩ (λy hy x hx'=>?_) (λx hx' j hj=>?_) h.q h.jb
 . obtain⟨y,hy,e1,e2⟩:=key x hx';refine⟨?_,by rw[e1];exact(h.inv.it y hy).2⟩;rcases e2 with rfl|⟨_,e3⟩
   . exact(h.inv.it x hy).1
   . rw[e3];exact hp
 . obtain⟨y,hy,e1,e2⟩:=key x hx';rw[e1,h.inv.dG y hy j hj];rcases e2 with rfl|⟨e4,e3⟩
   . rfl
   . rw[e3,e4];show _=cu s.u s.n (aG s.aA p').c j;rw[hc]
 . obtain⟨y,hy,e1,_⟩:=key x hx';rw[e1];exact h.inv.nf y hy
 . obtain⟨y,hy,e1,_⟩:=key x hx';rw[e1];exact h.inv.ia y hy
 . show(s.aB.map _).Pairwise _;rw[I6];refine h.inv.kr.imp λ{a b} hab=>?_;have e:∀z:AI,(if z.pos=p then({z with pos:=p'}:AI)else z).g=z.g:=λz=>by split<;>rfl
   rw[e,e];exact hab
 . have h1:=hy _ (Bw.2 ⟨x,hx',rfl⟩);unfold IH at h1⊢;split at h1
   . rename_i e;have h1:bK (vf x.g) y s.n<=(aG s.aA p').b:=h1;rw[e];omega
   . exact h1
 . obtain⟨y,hy,e1,_⟩:=key x hx';rw[e1];exact h.co y hy j hj
theorem VB{g:List Int}(h:di g=1):di (bW g)=1:=by
 have h1:((di (bW g):Nat):Int)∣((di g:Nat):Int):=oq λv hv=>by
  have h2:-v∈bW g:=by
   obtain⟨j,hj,rfl⟩:=gw hv;rw[<-gr];exact gP (by rw[iF];exact hj)
  exact(Int.dvd_neg).1 (qy h2)
 rw[h]at h1;exact I5 (D6.1 h1)
theorem XF{x:AI}{b:Int}(h:Good sys base f K s)(hx':x∈s.aB):ky (dp s ⟨(aG s.aA x.pos).c,b⟩) ⟨s.aA.length,x.g⟩:=by
 refine⟨by show s.aA.length<(s.aA++[_]).length;simp,(h.inv.it x hx').2,λj hj=>?_,h.inv.nf x hx',h.inv.ia x hx'⟩;rw[show aG (dp s ⟨(aG s.aA x.pos).c,b⟩).aA s.aA.length=⟨(aG s.aA x.pos).c,b⟩ from oO];exact h.inv.dG x hx' j hj
theorem MH{x:AI}{b:Int}(h:Good sys base f K s)(hx':x∈s.aB):ky (dp s ⟨bW (aG s.aA x.pos).c,b⟩) ⟨s.aA.length,bW x.g⟩:=by
 refine⟨by show s.aA.length<(s.aA++[_]).length;simp,(iF _).trans (h.inv.it x hx').2,λj hj=>?_,λj hj hst=>?_,VB (h.inv.ia x hx')⟩
 . rw[show aG (dp s ⟨bW (aG s.aA x.pos).c,b⟩).aA s.aA.length=⟨bW (aG s.aA x.pos).c,b⟩ from oO];show vf (bW x.g) j=cu s.u s.n (bW (aG s.aA x.pos).c) j;rw[gr,h.inv.dG x hx' j hj,zW (c:=bW (aG s.aA x.pos).c) (k:=-1) (a:=(aG s.aA x.pos).c) λi hi=>by rw[gr];omega];omega
 . rw[gr,h.inv.nf x hx' j hj hst];rfl
theorem Dn{K:Nat}{c:List Int}(h:∀v∈c,dl v<=K):∀v∈bW c,dl v<=K:=λv hv=>by
 rw[<-gL];exact h _ (Db hv)
theorem Ba{kn:List AQ}{x:AI}:∀{l:List AI},(∃y∈l,y.g=x.g)->(eG kn x l).length=l.length
 |[],h=>by obtain⟨y,hy,_⟩:=h;cases hy
 |z::l,h=>by
  rw[eG];split
  . split<;>simp
  . rename_i e;obtain⟨y,hy,e2⟩:=h;rcases eJ.1 hy with rfl|hy
    . exact bX e2.symm e
    . rw[cN,Ba ⟨y,hy,e2⟩,cN]
theorem Ab{kn:List AQ}{x:AI}:∀{l:List AI},∃y∈eG kn x l,y.g=x.g/\(aG kn y.pos).b<=(aG kn x.pos).b
 |[]=>⟨x,by simp[eG],rfl,kG _⟩
 |z::l=>by
  rw[eG];split
  . rename_i e;split
    . exact⟨x,cU,rfl,kG _⟩
    . exact⟨z,cU,e.symm,by omega⟩
  . obtain⟨y,hy,h⟩:=Ab (kn:=kn) (x:=x) (l:=l);exact⟨y,cP _ hy,h⟩
theorem MJ{kn:List AQ}{x z:AI}:∀{l:List AI},z∈l->z.g≠x.g->z∈eG kn x l
 |w::l,h,hne=>by
  rw[eG];rcases eJ.1 h with rfl|h
  . rw[aQ λe=>hne e.symm];exact cU
  . split
    . split
      . exact cP _ h
      . exact cP _ h
    . exact cP _ (MJ h hne)
end
end Go.D
namespace Go.D
open Go Go.X
inductive gv [cH](sys base:List AQ)(n:Nat)(ep:List AE):cD->Prop where
 |solved (x:List Int) (hl:x.length=n) (hd:∀v∈x,dl v<=10*cH.k+40000) (hs:∀q∈sys,jI n (vf x) q):gv sys base n ep (cD.mk 0 (mB x) qW 0)
 |iI (p:k7) (h:Ref n base p):gv sys base n ep (cD.mk 1 [] p.to 0)
 |failed (e:AE) (he:e∈ep) (ht:e.dT=true):gv sys base n ep (cD.mk 2 [] qW (e.v:Int))
theorem gv.up[cH]{sys base base':List AQ}{n:Nat}{ep:List AE}{r:cD}(h:gv sys base' n ep r)(hk:r.kind≠1):gv sys base n ep r:=by
 cases h with
 |solved x hl hd hs=>exact .solved x hl hd hs
 |iI p h=>exact bX rfl hk
 |failed e he ht=>exact .failed e he ht
theorem gv.ref[cH]{sys base:List AQ}{n:Nat}{ep:List AE}{r:cD}(h:gv sys base n ep r)(hk:¬r.kind≠1):∃p:k7,Ref n base p/\r=cD.mk 1 [] p.to 0:=by
 cases h with
 |solved x hl hd hs=>exact bX (show(0:Int)≠1 by decide) hk
 |iI p h=>exact⟨p,h,rfl⟩
 |failed e he ht=>exact bX (show(2:Int)≠1 by decide) hk
theorem Tm.shift{α:Type}{f:Nat->Option α}{Q:α->Prop}(h:Tm f Q):Tm (λN=>f (N+1)) Q:=by
 obtain⟨a,N0,hQ,hN⟩:=h;exact⟨a,N0,hQ,λN h=>hN (N+1) (by omega)⟩
def mo(σ:Nat->Nat):Nat->Nat
 |0=>0
 |n+1=>mo σ n+σ n
theorem L7{σ τ:Nat->Nat}:∀{n:Nat},(∀j,j<n->σ j=τ j)->mo σ n=mo τ n
 |0,_=>rfl
 |n+1,h=>by simp only[mo];rw[L7 (n:=n) λj hj=>h j (by omega),h n (by omega)]
theorem NB{σ τ:Nat->Nat}{w:Nat}:∀{n:Nat},w<n->(∀j,j<n->j≠w->τ j=σ j)->τ w<σ w->mo τ n<mo σ n
 |n+1,hw,h,hlt=>by
  simp only[mo];by_cases e:n=w
  . subst e;rw[L7 (σ:=τ) (τ:=σ) (n:=n) λj hj=>h j (by omega) (by omega)];omega
  . have:=NB (n:=n) (by omega) (λj hj=>h j (by omega)) hlt;rw[h n (by omega) e];omega
def nk(n:Nat)(c:Int)(g:List Int)(w:Nat):Prop:=∀j,j<n->vf g j=if j=w then c else 0
def w6(μ:Nat)(s:St):Prop:=∃σ:Nat->Nat,(∀j,σ j<=65)/\mo σ s.n<=μ/\∀j,j<s.n->∀x∈s.aB,∀y∈s.aB,nk s.n 1 x.g j->nk s.n (-1) y.g j->(aG s.aA x.pos).b+(aG s.aA y.pos).b<=64->(aG s.aA x.pos).b+(aG s.aA y.pos).b<=σ j
theorem BY{s:St}(hn:s.n<=4):w6 260 s:=by
 refine⟨λ_=>65,λ_=>bQ _,?_,λj _ x _ y _ _ _ h=>by dsimp only;omega⟩;have:∀n,mo (λ_=>65) n=65*n:=λn=>by induction n with
  |zero=>rfl
  |succ n ih=>simp only[mo,ih];omega
 rw[this];omega
theorem nk.inj{n:Nat}{c:Int}{a b:List Int}{j:Nat}(ha:nk n c a j)(hb:nk n c b j)(la:a.length=n)(lb:b.length=n):a=b:=kg (by rw[la,lb]) λi hi=>by rw[ha i (by omega),hb i (by omega)]
theorem nk.at{n:Nat}{c:Int}{a:List Int}{j w:Nat}(ha:nk n c a j)(hb:nk n c a w)(hc:c≠0)(hj:j<n):j=w:=by
 have h1:=ha j hj;have h2:=hb j hj;rw[bA rfl]at h1;by_cases e:j=w
 . exact e
 . rw[aQ e]at h2;omega
theorem sh{s:St}(hI:Inv s){x y:AI}(hx:x∈s.aB)(hy:y∈s.aB)(h:x.g=y.g):x=y:=by
 obtain⟨i,hi,rfl⟩:=lL hx;obtain⟨j,hj,rfl⟩:=lL hy;have hd:=Ar.1 hI.kr;rcases An i j with h1|h1|h1
 . exact bX h (hd i j hi hj h1)
 . subst h1;rfl
 . exact bX h.symm (hd j i hj hi h1)
theorem JB{s:St}(hI:Inv s){x y:AI}(hx:x∈s.aB)(hy:y∈s.aB)(h:x.pos=y.pos):x=y:=by
 refine sh hI hx hy (kg ((hI.it x hx).2.trans (hI.it y hy).2.symm) λj hj=>?_);have hj:j<s.n:=by rw[(hI.it x hx).2]at hj;exact hj
 rw[hI.dG x hx j hj,hI.dG y hy j hj,h]
section
variable [cH] {sys base:List AQ} {f K μ:Nat} {s:St}
def nj(sys:List AQ)(f μ:Nat)(R:Nat->aS->Option cD):Prop:=∀(base:List AQ) (K:Nat) (s:St),Good sys base f K s->w6 μ s->s.aB.length<=iB f->s.aA.length+μ+lB f<=1073741824->K+2*μ+dB f<=cH.k->Tm (λN=>R N s.to) (gv sys base s.n s.aK)
theorem nj.shift{R:Nat->aS->Option cD}(h:nj sys f μ R):nj sys f μ λN=>R (N+1):=λbase K s h1 h2 h3 h4 h5=>Tm.shift (f:=λN=>R N s.to) (h base K s h1 h2 h3 h4 h5)
theorem Ek{q:AQ}{g:List Int}(h:Good sys base f K s)(hS:ky (dp s q) ⟨s.aA.length,g⟩){K':Nat}(hq:gu K' q)(hql:q.c.length=s.n)(hK:K<=K')(hco:∀j,j<s.n->(vf g j).natAbs<=cB f):
 Good sys (s.aA++[q]) f K' (add (dp s q) ⟨s.aA.length,g⟩)/\
 (∀z∈(add (dp s q) ⟨s.aA.length,g⟩).aB,z.g≠g->z∈s.aB)/\
 (∀z∈(add (dp s q) ⟨s.aA.length,g⟩).aB,z.g=g->(aG (s.aA++[q]) z.pos).b<=q.b):=by
 have hG:=WX (vW h hql hq hK) hS hco;refine⟨hG,λz hz hne=>?_,λz hz he=>?_⟩
 . rcases mb (show z∈eG _ _ s.aB from hz)with rfl|hz
   . exact bX rfl hne
   . exact hz
 . obtain⟨y,hy,y1,y2⟩:=Ab (kn:=s.aA++[q]) (x:=⟨s.aA.length,g⟩) (l:=s.aB);obtain rfl:z=y:=sh hG.inv hz hy (he.trans y1.symm);rw[show(aG (s.aA++[q]) s.aA.length)=q from oO]at y2;exact y2
theorem Wm{q:AQ}{g:List Int}(h:qN s)(hG:Good sys (s.aA++[q]) f K (dp s q))(hil:s.aB.length<=1073741824)(hkl:s.aA.length+1<=1073741824)(hK:K<=1099511627000)(hg:qn (dp s q) ⟨s.aA.length,g⟩){R:Nat->aS->aS->Option cD}{Q:cD->Prop}
 (k:Tm (λN=>R N (dp s q).to (add (dp s q) ⟨s.aA.length,g⟩).to) Q):
 Tm (λN=>(ov N s.to q.to).bind λr5=>(mz N r5 (bD.mk (iw ((List.length r5.aA:Int)-1)) (mB g))).bind λr6=>R N r5 r6) Q:=by
 refine aU (wm h) ?_;have e:bD.mk (iw ((List.length (dp s q).to.aA:Int)-1)) (mB g)=AI.to ⟨s.aA.length,g⟩:=by
  show bD.mk (iw ((((s.aA++[q]).map AQ.to).length:Int)-1)) (mB g)=bD.mk (s.aA.length:Int) (mB g);congr 1;rw[cS,dL,lJ,bU]<;>omega
 rw[e];exact aU (w7 (K:=K) (hG.mG (bQ _) hK (by show(s.aA++[q]).length<=_;rw[dL,lJ];omega) hil) hg) k
theorem G9{x:AI}{f:Nat}(hS:ky s x)(hco:∀j,j<s.n->(vf x.g j).natAbs<=cB f):qn s x:=⟨hS.pos,hS.gl,λv hv=>bV (yJ hS.gl hco (by have:=lU f;omega) v hv) (by decide)⟩
theorem Ur{R:Nat->aS->Option cD}(hf:f<=4)(hR:∀μ',μ'<μ->nj sys f μ' R)(h:Good sys base f K s)(hσ:w6 μ s)(hil:s.aB.length<=iB f)(hkl:s.aA.length+μ+lB f<=1073741824)(hK:K+2*μ+dB f<=cH.k)
    {x y:AI}{w:Nat}(hx':x∈s.aB)(hy':y∈s.aB)(hw:w<s.n)(hxu:nk s.n 1 x.g w)(hyu:nk s.n (-1) y.g w)(h1:0<(aG s.aA x.pos).b+(aG s.aA y.pos).b)(h64:(aG s.aA x.pos).b+(aG s.aA y.pos).b<=64):
    Tm (λN=>xY N (R N) s.to ⟨x.to,B (-(aG s.aA y.pos).b),B (aG s.aA x.pos).b⟩) (gv sys base s.n s.aK):=by
  have hL:cM=1099511627776:=rfl;have hKM:=cH.h;have hC:=lU f;have hn:=h.n;have hmB:=mX f;obtain⟨σ,σ1,σ2,σ3⟩:=hσ;have hσw:=σ3 w hw x hx' y hy' hxu hyu h64;have hcp:qN s:=h.inv.cp hn (by omega) (by omega);obtain⟨x1,x2⟩:=h.inv.it x hx';obtain⟨y1,y2⟩:=h.inv.it y hy';have hqx:=h.q _ (eW x1);have dbx:=hqx.2;have dby:=(h.q _ (eW y1)).2;have hxy:y.g=bW x.g:=kg (by rw[iF,x2,y2]) λj hj=>by
    rw[gr,hyu j (by omega),hxu j (by omega)];split<;>rfl
  have hxny:x.g≠bW x.g:=λe=>by
    have:=dd (λl=>vf l w) e;simp only[gr]at this;have:=hxu w hw;rw[bA rfl]at this;omega
  have hcl:(aG s.aA x.pos).c.length=s.n:=h.inv.kl _ (eW x1);generalize hbx:(aG s.aA x.pos).b=bx at*;generalize hby:(aG s.aA y.pos).b=bY at*;have hm:=qM (a:=-bY+bx) (p:=2) (by decide);have dsum:dl (-bY+bx)<=K+1:=pV (by rw[gL];exact dby) dbx;have dm:=sZ (-bY+bx) 2;generalize hmm:(-bY+bx).fdiv 2=m at*;have d2:dl (2:Int)<=1:=kD (by decide);have dm1:dl (-m-1)<=K+2:=jX (K:=K+1) (by rw[gL];omega) (bV kE (by omega));have hlt:mo (λj=>if j=w then(bx+bY-1).toNat else σ j) s.n<mo σ s.n:=NB hw (λj _ hj=>aQ hj) (by
    show(if w=w then(bx+bY-1).toNat else σ w)<σ w;rw[bA rfl];omega)
  have hspn:∀(q:AQ) (g:List Int),(∀z∈(add (dp s q) ⟨s.aA.length,g⟩).aB,z.g≠g->z∈s.aB)->(∀z∈(add (dp s q) ⟨s.aA.length,g⟩).aB,z.g=g->(aG (s.aA++[q]) z.pos).b<=q.b)->
      ((g=x.g/\q.b+bY<=bx+bY-1)\/(g=bW x.g/\bx+q.b<=bx+bY-1))->w6 (μ-1) (add (dp s q) ⟨s.aA.length,g⟩):=by
    intro q g ho hb hg;have hold:∀z∈s.aB,(aG (s.aA++[q]) z.pos).b=(aG s.aA z.pos).b:=λz hz=>by rw[iz (h.inv.it z hz).1]
    refine⟨λj=>if j=w then(bx+bY-1).toNat else σ j,λj=>?_,?_,λj hj x' hx2 y' hy2 hxu' hyu' hs=>?_⟩
    . dsimp only;split
      . omega
      . exact σ1 j
    . show mo _ s.n<=μ-1;omega
    . have hj:j<s.n:=hj;have hxu':nk s.n 1 x'.g j:=hxu';have hyu':nk s.n (-1) y'.g j:=hyu';have hs:(aG (s.aA++[q]) x'.pos).b+(aG (s.aA++[q]) y'.pos).b<=64:=hs;show(aG (s.aA++[q]) x'.pos).b+(aG (s.aA++[q]) y'.pos).b<=((if j=w then(bx+bY-1).toNat else σ j:Nat):Int);have hcases:∀z∈(add (dp s q) ⟨s.aA.length,g⟩).aB,z.g.length=s.n:=λz hz=>by
        by_cases e:z.g=g
        . rw[e];rcases hg with⟨e2,_⟩|⟨e2,_⟩
          . rw[e2];exact x2
          . rw[e2,iF];exact x2
        . exact(h.inv.it z (ho z hz e)).2
      by_cases e:j=w
      . subst e;rw[bA rfl];have ex:x'.g=x.g:=hxu'.inj hxu (hcases x' hx2) x2;have ey:y'.g=y.g:=hyu'.inj hyu (hcases y' hy2) y2;rcases hg with⟨e2,hq2⟩|⟨e2,hq2⟩
        . have b1:=hb x' hx2 (ex.trans e2.symm);have hyo:y'∈s.aB:=ho y' hy2 (by rw[ey,e2,hxy];exact λe3=>hxny e3.symm);have:y'=y:=sh h.inv hyo hy' ey;rw[this,hold y hy',hby];omega
        . have b1:=hb y' hy2 (by rw[ey,e2,hxy]);have hxo:x'∈s.aB:=ho x' hx2 (by rw[ex,e2];exact hxny);have:x'=x:=sh h.inv hxo hx' ex;rw[this,hold x hx',hbx];omega
      . rw[aQ e];have nx:x'.g≠g:=λe3=>by
          rcases hg with⟨e2,_⟩|⟨e2,_⟩
          . exact e (hxu'.at (w:=w) (by rw[e3,e2];exact hxu) (by decide) hj)
          . have h4:=hxu' j hj;rw[bA rfl,e3,e2,gr,hxu j hj,aQ e]at h4;omega
        have ny:y'.g≠g:=λe3=>by
          rcases hg with⟨e2,_⟩|⟨e2,_⟩
          . have h4:=hyu' j hj;rw[bA rfl,e3,e2,hxu j hj,aQ e]at h4;omega
          . exact e (hyu'.at (w:=w) (by rw[e3,e2,<-hxy];exact hyu) (by decide) hj)
        have hxo:=ho x' hx2 nx;have hyo:=ho y' hy2 ny;rw[hold x' hxo,hold y' hyo]at hs⊢;exact σ3 j hj x' hxo y' hyo hxu' hyu' hs
  have hμ:0<μ:=by omega
  have hkl1:∀q:AQ,(s.aA++[q]).length=s.aA.length+1:=λq=>by simp
  have hq1:gu (K+2) ⟨(aG s.aA x.pos).c,m⟩:=⟨λv hv=>bV (hqx.1 v hv) (by omega),by show dl m<=_;omega⟩;have hS1:=XF (b:=m) h hx';obtain⟨g1,g2,g3⟩:=Ek h hS1 hq1 hcl (by omega) (h.co x hx');have hl1:(add (dp s ⟨(aG s.aA x.pos).c,m⟩) ⟨s.aA.length,x.g⟩).aB.length<=iB f:=by
    show(eG _ _ s.aB).length<=_;rw[Ba (x:=⟨s.aA.length,x.g⟩) ⟨x,hx',rfl⟩];exact hil
  have hrun1:=hR (μ-1) (by omega) _ _ _ g1 (hspn _ _ g2 g3 (.inl ⟨rfl,by show m+bY<=_;omega⟩)) hl1 (by show(s.aA++[_]).length+_+_<=_;rw[hkl1];omega) (by omega);have hq2:gu (K+2) ⟨bW (aG s.aA x.pos).c,-m-1⟩:=⟨Dn λv hv=>bV (hqx.1 v hv) (by omega),dm1⟩;have hS2:=MH (b:=-m-1) h hx';have hco2:∀j,j<s.n->(vf (bW x.g) j).natAbs<=cB f:=λj hj=>by rw[gr,D9];exact h.co x hx' j hj
  have hcl2:(bW (aG s.aA x.pos).c).length=s.n:=(iF _).trans hcl;obtain⟨k1,k2,k3⟩:=Ek h hS2 hq2 hcl2 (by omega) hco2;have hl2:(add (dp s ⟨bW (aG s.aA x.pos).c,-m-1⟩) ⟨s.aA.length,bW x.g⟩).aB.length<=iB f:=by
    show(eG _ _ s.aB).length<=_;rw[Ba (x:=⟨s.aA.length,bW x.g⟩) ⟨y,hy',hxy⟩];exact hil
  have hrun2:=hR (μ-1) (by omega) _ _ _ k1 (hspn _ _ k2 k3 (.inr ⟨rfl,by show bx+(-m-1)<=_;omega⟩)) hl2 (by show(s.aA++[_]).length+_+_<=_;rw[hkl1];omega) (by omega);unfold xY;dsimp only;refine aU (ox (by rw[gL];omega) (by omega)) (aU (kR (by decide) (by decide)) (Tm.bind (rY (by omega) (by omega)) ?_));rintro⟨q3,q4,q5⟩ hq3;dsimp only at hq3⊢;rw[hmm]at hq3;subst hq3;refine aJ (pC x1) ?_;have eC:(aG s.aA x.pos).to.bG=mB (aG s.aA x.pos).c:=rfl;rw[eC];refine Wm (q:=⟨(aG s.aA x.pos).c,m⟩) (K:=K+2) (g:=x.g) hcp (vW h hcl hq1 (by omega)) (by omega) (by omega) (by omega) (G9 (f:=f) hS1 (h.co x hx')) (R:=λN r5 r6=>(R N (aS.mk r5.n r6.aA r6.aV r6.u r6.aM r6.value r6.aB r6.aK)).bind λr7=>_) ?_;rw[iO (n:=(dp s ⟨(aG s.aA x.pos).c,m⟩).to.n) (x:=(add (dp s ⟨(aG s.aA x.pos).c,m⟩) ⟨s.aA.length,x.g⟩).to) rfl];refine Tm.bind hrun1 λr7 hr7=>bB (λhk=>aI (hr7.up hk)) (λhk=>?_);obtain⟨p1,hp1,rfl⟩:=hr7.ref hk;refine aU (tW (K:=K) (by omega) (by omega) hqx.1) (aU (oR (by omega)) (aU (kR (by decide) (by decide)) (aU (nq (by rw[gL];omega) (bV kE (by omega))) ?_)));rw[show(vec (aG s.aA x.pos).c.length λj=>-vf (aG s.aA x.pos).c j)=bW (aG s.aA x.pos).c from rfl];refine aU (wm (q:=⟨bW (aG s.aA x.pos).c,-m-1⟩) hcp) ?_;refine aU (tW (l:=x.g) (K:=8) (by omega) (by omega) (λv hv=>bV (yJ x2 (h.co x hx') (by omega) v hv) (by decide))) ?_;rw[show(vec x.g.length λj=>-vf x.g j)=bW x.g from rfl];have e:bD.mk (iw ((List.length (dp s ⟨bW (aG s.aA x.pos).c,-m-1⟩).to.aA:Int)-1)) (mB (bW x.g))=AI.to ⟨s.aA.length,bW x.g⟩:=by
    show bD.mk (iw ((((s.aA++[_]).map AQ.to).length:Int)-1)) (mB _)=bD.mk (s.aA.length:Int) (mB _);congr 1;rw[cS,dL,lJ,bU]<;>omega
  rw[e];refine aU (w7 (K:=K+2) ((vW h hcl2 hq2 (by omega)).mG (bQ _) (by omega) (by show(s.aA++[_]).length<=_;rw[hkl1];omega) (by show s.aB.length<=_;omega)) (G9 (f:=f) hS2 hco2)) ?_;rw[iO (n:=(dp s ⟨bW (aG s.aA x.pos).c,-m-1⟩).to.n) (x:=(add (dp s ⟨bW (aG s.aA x.pos).c,-m-1⟩) ⟨s.aA.length,bW x.g⟩).to) rfl];refine Tm.bind hrun2 λr8 hr8=>bB (λhk=>aI (hr8.up hk)) (λhk=>?_);obtain⟨p2,hp2,rfl⟩:=hr8.ref hk;unfold sq;exact aU (aI rfl) (aI (.iI (.node s.aV (aG s.aA x.pos).c m p1 p2) (.node h.jb hcl hp1 hp2)))
end
end Go.D
namespace Go.D
open Go Go.X
section
variable [cH] {sys base:List AQ} {f K:Nat} {s:St}
def Opp(s:St)(x:AI)(d:Int):Prop:=∃y∈s.aB,y.g=bW x.g/\(aG s.aA x.pos).b+(aG s.aA y.pos).b<=d
def oe(sys:List AQ)(f:Nat)(R:Nat->aS->Option cD):Prop:=∀(base:List AQ) (K:Nat) (s:St) (x:AI),Good sys base (f+1) K s->x∈s.aB->Opp s x 0->s.aB.length<=iB (f+1)+1->s.aA.length+iB (f+1)+280+lB f<=1073741824->K+560+dB f<=cH.k->Tm (λN=>R N s.to) (gv sys base s.n s.aK)
theorem oe.shift{R:Nat->aS->Option cD}(h:oe sys f R):oe sys f λN=>R (N+1):=λbase K s x h1 h2 h3 h4 h5 h6=>Tm.shift (f:=λN=>R N s.to) (h base K s x h1 h2 h3 h4 h5 h6)
theorem MX{q:AQ}{g:List Int}(h:s.aA.length+1<=1073741824):bD.mk (iw ((List.length (dp s q).to.aA:Int)-1)) (mB g)=AI.to ⟨s.aA.length,g⟩:=by
 show bD.mk (iw ((((s.aA++[q]).map AQ.to).length:Int)-1)) (mB g)=bD.mk (s.aA.length:Int) (mB g);congr 1;rw[cS,dL,lJ,bU]<;>omega
theorem Nv{q:AQ}(h:s.aA.length+1<=1073741824):iw ((List.length (dp s q).to.aA:Int)-1)=(s.aA.length:Int):=by
 show iw ((((s.aA++[q]).map AQ.to).length:Int)-1)=_;rw[cS,dL,lJ,bU]<;>omega
theorem KN(hI:Inv s){x:AI}(hx:x∈s.aB):x.g≠bW x.g:=λe=>by
 obtain⟨w,hw,h1,_⟩:=Ac hI hx;have:=dd (λl=>vf l w) e;simp only[gr]at this;omega
theorem Ok{x:AI}{b:Int}{K':Nat}(h:Good sys base f K s)(hx:x∈s.aB)(hb:dl b<=K')(hK:K<=K'):
 Good sys (s.aA++[⟨bW (aG s.aA x.pos).c,b⟩]) f K' (add (dp s ⟨bW (aG s.aA x.pos).c,b⟩) ⟨s.aA.length,bW x.g⟩)/\
 x∈(add (dp s ⟨bW (aG s.aA x.pos).c,b⟩) ⟨s.aA.length,bW x.g⟩).aB/\
 Opp (add (dp s ⟨bW (aG s.aA x.pos).c,b⟩) ⟨s.aA.length,bW x.g⟩) x ((aG s.aA x.pos).b+b)/\
 qn (dp s ⟨bW (aG s.aA x.pos).c,b⟩) ⟨s.aA.length,bW x.g⟩:=by
 obtain⟨x1,x2⟩:=h.inv.it x hx;have hqx:=h.q _ (eW x1);have hcl:(bW (aG s.aA x.pos).c).length=s.n:=(iF _).trans (h.inv.kl _ (eW x1));have hq:gu K' ⟨bW (aG s.aA x.pos).c,b⟩:=⟨Dn λv hv=>bV (hqx.1 v hv) hK,hb⟩;have hS:=MH (b:=b) h hx;have hco:∀j,j<s.n->(vf (bW x.g) j).natAbs<=cB f:=λj hj=>by rw[gr,D9];exact h.co x hx j hj
 obtain⟨g1,g2,g3⟩:=Ek h hS hq hcl hK hco;refine⟨g1,MJ (show x∈(dp s _).aB from hx) (KN h.inv hx),?_,G9 (f:=f) hS hco⟩;obtain⟨y,hy,y1,y2⟩:=Ab (kn:=s.aA++[⟨bW (aG s.aA x.pos).c,b⟩]) (x:=⟨s.aA.length,bW x.g⟩) (l:=s.aB);refine⟨y,hy,y1,?_⟩;have:=g3 y hy y1;show(aG (s.aA++[_]) x.pos).b+_<=_;rw[iz x1];have h2:(aG (s.aA++[⟨bW (aG s.aA x.pos).c,b⟩]) y.pos).b<=b:=this;show(aG s.aA x.pos).b+(aG (s.aA++[⟨bW (aG s.aA x.pos).c,b⟩]) y.pos).b<=_;omega
theorem UO{p p':Nat}{z:AI}(hz:z∈s.aB)(h:z.pos≠p):z∈(nW s p p').aB:=Bw.2 ⟨z,hz,aQ h⟩
theorem M1{x:AI}{b:Int}{K':Nat}(h:Good sys base f K s)(hx:x∈s.aB)(hb:dl b<=K')(hK:K<=K')(hle:b<=(aG s.aA x.pos).b):
 Good sys (s.aA++[⟨(aG s.aA x.pos).c,b⟩]) f K' (nW (dp s ⟨(aG s.aA x.pos).c,b⟩) x.pos s.aA.length)/\
 (⟨s.aA.length,x.g⟩:AI)∈(nW (dp s ⟨(aG s.aA x.pos).c,b⟩) x.pos s.aA.length).aB/\
 (∀z∈s.aB,z.g≠x.g->z∈(nW (dp s ⟨(aG s.aA x.pos).c,b⟩) x.pos s.aA.length).aB):=by
 obtain⟨x1,x2⟩:=h.inv.it x hx;have hqx:=h.q _ (eW x1);have hcl:(aG s.aA x.pos).c.length=s.n:=h.inv.kl _ (eW x1);have hq:gu K' ⟨(aG s.aA x.pos).c,b⟩:=⟨λv hv=>bV (hqx.1 v hv) hK,hb⟩;have hA:=vW (q:=⟨(aG s.aA x.pos).c,b⟩) h hcl hq hK;have e1:aG (dp s ⟨(aG s.aA x.pos).c,b⟩).aA s.aA.length=⟨(aG s.aA x.pos).c,b⟩:=oO;have e2:aG (dp s ⟨(aG s.aA x.pos).c,b⟩).aA x.pos=aG s.aA x.pos:=iz x1;refine⟨S9 hA (by show _<(s.aA++[_]).length;simp) (by rw[e1,e2]) (by rw[e1,e2];exact hle),Bw.2 ⟨x,hx,bA rfl⟩,λz hz hne=>UO (s:=dp s _) hz λe=>hne ?_⟩;rw[JB h.inv hz hx e]
theorem M6{p p':Nat}:(nW s p p').aB.length=s.aB.length:=cS ..
theorem Xy(hf:f+1<=4):∀(d:Nat) (base:List AQ) (K:Nat) (s:St) (x:AI) (kk:Int) (R:Nat->aS->Option cD),oe sys f R->Good sys base (f+1) K s->x∈s.aB->Opp s x d->s.aB.length<=iB (f+1)+1->
 s.aA.length+d+iB (f+1)+282+lB f<=1073741824->K+562+dB f<=cH.k->(∃b0,(aG s.aA x.pos).b=b0-kk/\dl b0+2<=K)->0<=kk->kk+d<=4294967295->Tm (λN=>rE N (R N) s.to x.to (B kk) (B (kk+d))) (gv sys base s.n s.aK):=by
 have hL:cM=1099511627776:=rfl;have hKM:=cH.h;have hC:=lU (f+1);have hmB:=mX (f+1);intro d
 induction d with
 |zero=>
  intro base K s x kk R hR h hx' ho hil hkl hK hb0 hk0 hk1;refine Tm.succ ?_;show Tm (λN=>tG N (R (N+1)) (rE N (R (N+1))) s.to x.to (B kk) (B (kk+(0:Nat)))) _;unfold tG;have dk:dl kk<=1:=kD (by omega);rw[show kk+((0:Nat):Int)=kk by omega];refine aU (lg (by omega) (by omega)) (cR (by unfold bZ;rw[aQ (by omega),aQ (by omega)]) (aU (AV (h.inv.cp h.n (by omega) (by omega))) ?_));exact Tm.bind (hR.shift base K s x h hx' (by simpa using ho) hil (by omega) (by omega)) λr hr=>aI hr
 |succ d ih=>
  intro base K s x kk R hR h hx' ho hil hkl hK hb0 hk0 hk1;obtain⟨y,hy,hyg,hys⟩:=ho;obtain⟨x1,x2⟩:=h.inv.it x hx';have hqx:=h.q _ (eW x1);have hcl:(aG s.aA x.pos).c.length=s.n:=h.inv.kl _ (eW x1);have dbx:=hqx.2;have dk:dl kk<=1:=kD (by omega);have dk2:dl (kk+((d+1:Nat):Int))<=1:=kD (by omega);have d1:=kE;have hcp:qN s:=h.inv.cp h.n (by omega) (by omega);have hn:=h.n;obtain⟨n1,n2,n3,n4⟩:=Ok (b:=-(aG s.aA x.pos).b) (K':=K) h hx' (by rw[gL];exact dbx) (bQ _);have nl:(add (dp s ⟨bW (aG s.aA x.pos).c,-(aG s.aA x.pos).b⟩) ⟨s.aA.length,bW x.g⟩).aB.length<=iB (f+1)+1:=by
   show(eG _ _ s.aB).length<=_;rw[Ba (x:=⟨s.aA.length,bW x.g⟩) ⟨y,hy,hyg⟩];exact hil
  obtain⟨b0,hb1,hb2⟩:=hb0;have dnew:dl ((aG s.aA x.pos).b-1)<=K:=by
   rw[hb1,show b0-kk-1=b0-(kk+1) by omega];exact bV (jX (K:=dl b0+1) (by omega) (bV (kD (by omega)) (by omega))) (by omega)
  obtain⟨f1,f2,f3⟩:=M1 (b:=(aG s.aA x.pos).b-1) (K':=K) h hx' dnew (bQ _) (by omega);have hyx:y.g≠x.g:=λe=>KN h.inv hx' (by rw[<-hyg,e]);have hkl1:∀q:AQ,(s.aA++[q]).length=s.aA.length+1:=λq=>by simp
  refine Tm.succ ?_;show Tm (λN=>tG N (R (N+1)) (rE N (R (N+1))) s.to x.to (B kk) (B (kk+(d+1:Nat)))) _;unfold tG;refine aU (lg (by omega) (by omega)) (cE (by unfold bZ;(repeat' split)<;>omega) ?_);refine aJ (pC x1) ?_;rw[show(aG s.aA x.pos).to.bG=mB (aG s.aA x.pos).c from rfl];refine aU (tW (K:=K) (by omega) (by omega) hqx.1) (aU (oR (by omega)) ?_);rw[show(vec (aG s.aA x.pos).c.length λj=>-vf (aG s.aA x.pos).c j)=bW (aG s.aA x.pos).c from rfl];refine aU (wm (q:=⟨bW (aG s.aA x.pos).c,-(aG s.aA x.pos).b⟩) hcp) ?_;refine aU (tW (l:=x.g) (K:=8) (by omega) (by omega) (λv hv=>bV (yJ x2 (h.co x hx') (by omega) v hv) (by decide))) ?_;rw[show(vec x.g.length λj=>-vf x.g j)=bW x.g from rfl];rw[MX (by omega)];have hqn:gu K ⟨bW (aG s.aA x.pos).c,-(aG s.aA x.pos).b⟩:=⟨Dn hqx.1,by show dl _<=_;rw[gL];exact dbx⟩;refine aU (w7 (K:=K) ((vW h ((iF _).trans hcl) hqn (bQ _)).mG (bQ _) (by omega) (by show(s.aA++[_]).length<=_;rw[hkl1];omega) (by show s.aB.length<=_;omega)) n4) ?_;rw[iO (n:=(dp s ⟨bW (aG s.aA x.pos).c,-(aG s.aA x.pos).b⟩).to.n) (x:=(add (dp s ⟨bW (aG s.aA x.pos).c,-(aG s.aA x.pos).b⟩) ⟨s.aA.length,bW x.g⟩).to) rfl];refine Tm.bind (hR.shift _ K _ x n1 n2 (by rw[show(aG s.aA x.pos).b+-(aG s.aA x.pos).b=0 by omega]at n3;exact n3) nl (by show(s.aA++[_]).length+_+_+_<=_;rw[hkl1];omega) (by omega)) λr7 hr7=>bB (λhk=>aI (hr7.up hk)) (λhk=>?_);obtain⟨p1,hp1,rfl⟩:=hr7.ref hk;refine aU (kR (by decide) (by decide)) (aU (nq (a:=(aG s.aA x.pos).b) (by omega) (by omega)) ?_);refine aU (wm (q:=⟨(aG s.aA x.pos).c,(aG s.aA x.pos).b-1⟩) hcp) ?_;rw[Nv (by omega)];refine aU (Jc (l:=s.aB) (p:=x.pos) (p':=s.aA.length) (by omega)) ?_;refine aU (kR (by decide) (by decide)) (aU (ox (by omega) (by omega)) ?_);have hrun:=ih _ K _ ⟨s.aA.length,x.g⟩ (kk+1) _ hR.shift f1 f2 ⟨y,f3 y hy hyx,hyg,by
   show(aG (s.aA++[_]) s.aA.length).b+(aG (s.aA++[_]) y.pos).b<=_;rw[oO,iz (h.inv.it y hy).1];dsimp only;omega⟩ (by rw[M6];exact hil) (by show(s.aA++[_]).length+_+_+_+_<=_;rw[hkl1];omega) (by omega) ⟨b0,by
   show(aG (s.aA++[_]) s.aA.length).b=_;rw[oO];dsimp only;omega,hb2⟩ (by omega) (by omega)
  rw[show kk+1+(d:Int)=kk+((d+1:Nat):Int) by omega]at hrun;refine Tm.bind (show Tm (λN=>rE N (R (N+1)) (aS.mk (dp s ⟨(aG s.aA x.pos).c,(aG s.aA x.pos).b-1⟩).to.n (dp s ⟨(aG s.aA x.pos).c,(aG s.aA x.pos).b-1⟩).to.aA (dp s ⟨(aG s.aA x.pos).c,(aG s.aA x.pos).b-1⟩).to.aV (dp s ⟨(aG s.aA x.pos).c,(aG s.aA x.pos).b-1⟩).to.u (dp s ⟨(aG s.aA x.pos).c,(aG s.aA x.pos).b-1⟩).to.aM (dp s ⟨(aG s.aA x.pos).c,(aG s.aA x.pos).b-1⟩).to.value (mI (tS s.aB x.pos s.aA.length)) (dp s ⟨(aG s.aA x.pos).c,(aG s.aA x.pos).b-1⟩).to.aK) _ _ _) _ from hrun) λr8 hr8=>bB (λhk=>aI (hr8.up hk)) (λhk=>?_);obtain⟨p2,hp2,rfl⟩:=hr8.ref hk;unfold sq;refine aU (aI rfl) (aI (.iI (.node s.aV (bW (aG s.aA x.pos).c) (-(aG s.aA x.pos).b) p1 p2) (.node h.jb ((iF _).trans hcl) hp1 ?_)));rw[sE,show- -(aG s.aA x.pos).b-1=(aG s.aA x.pos).b-1 by omega];exact hp2
end
end Go.D
namespace Go.D
open Go Go.X
section
variable [cH] {sys base:List AQ} {f K:Nat} {s s0:St} {v:Nat}
structure SI (sys base:List AQ)(f K:Nat)(s0:St)(v:Nat)(l:List AI)(s:St):Prop where
 gG:Good sys base (f+1) K s
 kept:Kept s0 s
 cw:cT v s.aB=cT v s0.aB
 z:∀x∈s0.aB,vf x.g v=0->x∈s.aB
 il:s.aB.length<=iB (f+1)
 lm:∀w∈l,w∈s.aB/\w∈s0.aB/\vf w.g v<0
 nd:l.Pairwise λa b=>a.g≠b.g
 low:∀w∈dQ v s0.aB,w∈l\/∃w'∈dQ v s.aB,w'.g=w.g/\(aG s.aA w'.pos).b+max (iE v w (cT v s0.aB)+1) 0<=(aG s0.aA w.pos).b
theorem QH{cw:List AI}{a b:AI}(h:a.g=b.g):iE v a cw=iE v b cw:=by unfold iE;rw[h]
theorem CI(h:Kept s0 s){p:Nat}(hp:p<s0.aA.length):aG s.aA p=aG s0.aA p:=by
 obtain⟨e,he⟩:=h.kn;rw[he,iz hp]
theorem SI.skip{e:AI}{l:List AI}(h:SI sys base f K s0 v (e::l) s)(hI0:Inv s0)(hs:iE v e (cT v s0.aB)<0):SI sys base f K s0 v l s where
 gG:=h.gG
 kept:=h.kept
 cw:=h.cw
 z:=h.z
 il:=h.il
 lm w hw:=h.lm w (cP _ hw)
 nd:=(Aq.1 h.nd).2
 low w hw:=by
  rcases h.low w hw with h1|h1
  . rcases eJ.1 h1 with rfl|h1
    . obtain⟨a,b,c⟩:=h.lm w cU;refine .inr ⟨w,iT.2 ⟨a,c⟩,rfl,?_⟩;rw[CI h.kept (hI0.it w b).1,Qf (by omega)];omega
    . exact .inl h1
  . exact .inr h1
theorem SI.far{e:AI}{l:List AI}{k:Int}(h:SI sys base f K s0 v (e::l) s)(hI0:Inv s0)(hs:iE v e (cT v s0.aB)=k)(hk:0<=k)(hk':k<4294967296):
 SI sys (s.aA++[⟨(aG s.aA e.pos).c,(aG s.aA e.pos).b-k-1⟩]) f (K+3) s0 v l (nW (dp s ⟨(aG s.aA e.pos).c,(aG s.aA e.pos).b-k-1⟩) e.pos s.aA.length):=by
 obtain⟨em,em0,ev⟩:=h.lm e cU;obtain⟨e1,e2⟩:=h.gG.inv.it e em;have hd:=(h.gG.q _ (eW e1)).2;have d1:dl ((aG s.aA e.pos).b-k)<=K+2:=jX (K:=K+1) (by omega) (bV (kD (by omega)) (by omega));have d2:dl ((aG s.aA e.pos).b-k-1)<=K+3:=jX (K:=K+2) d1 (bV kE (by omega));obtain⟨g1,g2,g3⟩:=M1 (b:=(aG s.aA e.pos).b-k-1) (K':=K+3) h.gG em d2 (by omega) (by omega);have hk2:Kept s (nW (dp s ⟨(aG s.aA e.pos).c,(aG s.aA e.pos).b-k-1⟩) e.pos s.aA.length):=(OC s _).trans (LM _ _ _);have hun:∀x∈s.aB,x.pos=e.pos->x=e:=λx hx he=>JB h.gG.inv hx em he;refine⟨g1,h.kept.trans hk2,?_,λx hx hx0=>g3 x (h.z x hx hx0) λhe=>?_,by rw[M6];exact h.il,λw hw=>?_,(Aq.1 h.nd).2,λw hw=>?_⟩
 . rw[<-h.cw];show(List.map _ s.aB).filter _=s.aB.filter _;rw[List.filter_map];have e3:(s.aB.filter ((λx:AI=>decide (0<vf x.g v))∘λx=>if x.pos=e.pos then({x with pos:=s.aA.length}:AI)else x))=cT v s.aB:=by
    unfold cT;refine List.filter_congr λx _=>?_;show decide (0<vf (if x.pos=e.pos then({x with pos:=s.aA.length}:AI)else x).g v)=_;split<;>rfl
   rw[e3];have e4:∀x∈cT v s.aB,(if x.pos=e.pos then({x with pos:=s.aA.length}:AI)else x)=id x:=λx hx=>aQ λhe=>by
    obtain⟨x1,x2⟩:=lG.1 hx;rw[hun x x1 he]at x2;omega
   rw[Ap e4,List.map_id];rfl
 . rw[he]at hx0;omega
 . obtain⟨a,b,c⟩:=h.lm w (cP _ hw);exact⟨g3 w a λhe=>(Aq.1 h.nd).1 w hw he.symm,b,c⟩
 . by_cases hwe:w.g=e.g
   . obtain rfl:w=e:=sh hI0 (iT.1 hw).1 em0 hwe;refine .inr ⟨⟨s.aA.length,w.g⟩,iT.2 ⟨g2,ev⟩,rfl,?_⟩;show(aG (s.aA++[_]) s.aA.length).b+_<=_;rw[oO,hs,Int.max_eq_left (by omega)];dsimp only;rw[CI h.kept (hI0.it w em0).1];omega
   . rcases h.low w hw with h1|⟨w',hw',e3,e4⟩
     . rcases eJ.1 h1 with rfl|h1
       . exact bX rfl hwe
       . exact .inl h1
     . obtain⟨m1,m2⟩:=iT.1 hw';refine .inr ⟨w',iT.2 ⟨g3 w' m1 (by rw[e3];exact hwe),m2⟩,e3,?_⟩;show(aG (s.aA++[_]) w'.pos).b+_<=_;rw[iz (h.gG.inv.it w' m1).1];exact e4
theorem SI.last(hf:f+1<=4)(h:SI sys base f K s0 v [] s)(hI0:Inv s0)(hr0:RF sys s0)(hv:v<s.n)(hst:vf s.aM v=0)(hup:cT v s0.aB≠[])(hkl:s.aA.length+(iB (f+1)+1)*(iB (f+1)+1)/4<=1073741824)(hK:K+6<=cH.k)(hil0:s0.aB.length<=1073741824):
 Nxt sys base f (K+6) (s.aA.length+(iB (f+1)+1)*(iB (f+1)+1)/4) s.n (s.aK++[⟨v,fM s0 v,false⟩]) ((ct (gg s v false (fM s0 v)) (dJ s v)).1,(ct (gg s v false (fM s0 v)) (dJ s v)).2.to):=by
 have hn0:s.n=s0.n:=h.kept.n;have hats0:=J7 hI0 (v:=v) (by rw[<-hn0];exact hv);obtain⟨ke,hke⟩:=h.kept.kn;have hux:∀y i,ux s y i=ux s0 y i:=λy i=>by unfold ux;rw[h.kept.u,h.kept.n]
 have hxs:∀y p,p<s0.aA.length->(hx s (ux s y) p↔hx s0 (ux s0 y) p):=λy p hp=>tR hn0 hke hp λi _=>hux y i;have hih:∀y (x:AI),x.pos<s0.aA.length->(IH s y x↔IH s0 y x):=λy x hp=>zH hn0 hke hp;refine Jf hf h.gG hI0 hr0 h.kept hv hst (λp hp=>?_) (bV OP hil0) (λy h1 h2 x hx'=>?_) (λ_ y hp=>?_) (bQ _) (by have:=h.il;omega) hkl hK
 . obtain⟨a,b,c⟩:=hats0 p hp;refine⟨by rw[hke,dL];omega,λj hj hs=>?_,?_⟩
   . rw[h.kept.u,hn0,CI h.kept a];exact b j (by rw[<-hn0];exact hj) (by rw[<-h.kept.aM];exact hs)
   . rw[h.kept.u,hn0,CI h.kept a];exact c
 . by_cases h0:vf x.g v=0
   . exact(hih y x (hI0.it x hx').1).1 (h1 x (h.z x hx' h0) h0)
   . refine(tu hI0 hx').2 ((hxs y _ (hI0.it x hx').1).1 (h2 _ (eh.2 ⟨x,gH.2 ?_,rfl⟩)));rcases sP h0 with g|g
     . exact .inr (iT.2 ⟨hx',g⟩)
     . exact .inl (lG.2 ⟨hx',g⟩)
 . obtain⟨z,z1,z2⟩:=Mf (y:=y) hv (λw=>(aG s.aA w.pos).b+max (iE v w (cT v s0.aB)+1) 0) (λx hx' w hw=>by
    have h0:=hp x hx' w hw;have hne:cT v s.aB≠[]:=I8 hx';have h3:=JQ (lG.1 hx').2 (OL x hx') (show 0< -vf w.g v by have:=(iT.1 hw).2;omega) (JY (low:=w) (EC hne));rw[h.cw]at h3;rw[pM];omega)
   refine⟨z,λp hp'=>?_⟩;obtain⟨x,hx',rfl⟩:=eh.1 hp';rcases gH.1 hx' with hx'|hx'
   . rw[<-h.cw]at hx';exact(tu h.gG.inv (lG.1 hx').1).1 (z1 x hx')
   . obtain⟨m1,m2⟩:=iT.1 hx';rcases h.low x hx' with h1|⟨w',hw',e3,e4⟩
     . cases h1
     . have h5:=z2 w' hw';rw[QH e3,e3]at h5;refine(hxs _ _ (hI0.it x m1).1).2 ((tu hI0 m1).1 ((F7 (by rw[<-hn0];exact hv)).2 ?_));rw[<-hn0];omega
theorem VU{low:AI}{cw:List AI}(h:0<eR v cw)(hb:vf low.g v<0):iE v low cw≤-vf low.g v:=by
 have h1:=qM (a:=eR v cw*-vf low.g v-eR v cw- -vf low.g v) h;unfold iE;generalize(eR v cw*-vf low.g v-eR v cw- -vf low.g v).fdiv (eR v cw)=q at*;refine D7 (a:=eR v cw) ?_ h;rw[fU (eR v cw) q];omega
def my(s:St)(t:List AE):St:={s with aK:=t}
theorem UA(s:St)(g:List Int)(us:List AU)(t:List AE):dst (my s t) g us=my (dst s g us) t:=by
 unfold dst;split<;>rfl
theorem Vj(s:St)(g:List Int)(us:List AU)(t:List AE):put (my s t) g us=((put s g us).1,my (put s g us).2 t):=by
 unfold put ot;rw[UA];dsimp only;split<;>rfl
theorem Gv(t:List AE):∀(L:List Act) (s:St),ct (my s t) L=((ct s L).1,my (ct s L).2 t)
 |[],s=>rfl
 |.add x::r,s=>Gv t r (add s x)
 |.put g us::r,s=>by
  have e1:ct (my s t) (.put g us::r)=if(put (my s t) g us).1=true then ct (put (my s t) g us).2 r else(false,(put (my s t) g us).2):=rfl;have e2:ct s (.put g us::r)=if(put s g us).1=true then ct (put s g us).2 r else(false,(put s g us).2):=rfl;rw[e1,e2,Vj];dsimp only;split
  . exact Gv t r _
  . rfl
theorem Wi(hf:f+1<=4)(hI0:Inv s0)(hr0:RF sys s0)(hv0:v<s0.n)(hst0:vf s0.aM v=0)(hup:cT v s0.aB≠[])(hil0:s0.aB.length<=iB (f+1)):
 ∀(m:Nat) (l:List AI) (base:List AQ) (K:Nat) (s:St) (R:Nat->aS->Option cD),l.length<=m->oe sys f R->nj sys f 260 R->SI sys base f K s0 v l s->
  s.aA.length+m+cB (f+1)+(iB (f+1)+1)+(iB (f+1)+1)*(iB (f+1)+1)/4+283+lB f<=1073741824->K+3*m+570+dB f<=cH.k->
  Tm (λN=>nI N (R N) s.to (v:Int) (mI l) ((fM s0 v).map Int.ofNat)) (gv sys base s.n s.aK):=by
 have hL:cM=1099511627776:=rfl;have hKM:=cH.h;have hC:=lU (f+1);have hmB:=mX (f+1);intro m
 induction m with
 |zero=>
  intro l base K s R hl hE hP h hkl hK;obtain rfl:=nD.1 (Nat.le_zero.1 hl);have hn:=h.gG.n;have hn0:s.n=s0.n:=h.kept.n;have hil:=h.il;have hv:v<s.n:=by rw[hn0];exact hv0
  have hst:vf s.aM v=0:=by rw[h.kept.aM];exact hst0
  have hcp:qN s:=h.gG.inv.cp hn (by omega) (by omega);have hlast:=h.last hf hI0 hr0 hv hst hup (by omega) (by omega) (by omega);refine Tm.succ ?_;show Tm (λN=>qs N (R (N+1)) (nI N (R (N+1))) s.to (v:Int) (mI []) ((fM s0 v).map Int.ofNat)) _;unfold qs;refine aU (xH (h.gG.Dh (by omega)) hv) ?_;refine aU (a:=[]) (Tm.loop (λt=>t=[]) (λ_=>0) rfl ?_) ?_
  . rintro _ rfl;dsimp only[vm];refine aU (a:=false) (cE (by simp) (aI rfl)) (cE (by simp) (aI rfl))
  refine cR (by simp) (aU (AV hcp) (aU (Pl (m:=iB (f+1)+1) (t:=false) h.gG hv (bQ _) (by omega) (by omega) (by omega)) ?_));have hsk:(ct (e9 s v false) (dJ s v)).2.aK=s.aK++[⟨v,fM s v,false⟩]:=(Ct (dJ s v) (e9 s v false)).ep;have est:∀x:AE,(ct (e9 s v false) (dJ s v)).2.to.aK=s.aK.map AE.to++[(⟨v,fM s v,false⟩:AE).to]:=λ_=>by
   show List.map AE.to (ct (e9 s v false) (dJ s v)).2.aK=_;rw[hsk,iC];rfl
  have est:=est ⟨0,[],false⟩;have hsl:=FQ h.gG.inv;dsimp only;rw[est];have hpos:iw (((s.aK.map AE.to++[(⟨v,fM s v,false⟩:AE).to]).length:Int)-1)=((s.aK.map AE.to).length:Int):=by
   rw[dL,lJ,cS,bU]<;>omega
  rw[hpos];refine aJ (a:=(⟨v,fM s v,false⟩:AE).to) (by rw[dt (by simp)];simp) ?_;refine aJ (eH (n:=(s.aK.map AE.to).length) rfl (by simp)) ?_;have eset:(s.aK.map AE.to++[(⟨v,fM s v,false⟩:AE).to]).set (s.aK.map AE.to).length (dW.mk (⟨v,fM s v,false⟩:AE).to.v ((fM s0 v).map Int.ofNat) (⟨v,fM s v,false⟩:AE).to.dT)=(s.aK++[(⟨v,fM s0 v,false⟩:AE)]).map AE.to:=by
   rw[List.set_append_right _ _ (bQ _),xm,iC];rfl
  rw[eset];have ek:ct (gg s v false (fM s0 v)) (dJ s v)=((ct (e9 s v false) (dJ s v)).1,my (ct (e9 s v false) (dJ s v)).2 (s.aK++[⟨v,fM s0 v,false⟩])):=Gv _ (dJ s v) (e9 s v false);rw[ek]at hlast;dsimp only at hlast;have esS:aS.mk s.to.n (ct (e9 s v false) (dJ s v)).2.to.aA (ct (e9 s v false) (dJ s v)).2.to.aV (ct (e9 s v false) (dJ s v)).2.to.u (ct (e9 s v false) (dJ s v)).2.to.aM (ct (e9 s v false) (dJ s v)).2.to.value (ct (e9 s v false) (dJ s v)).2.to.aB ((s.aK++[(⟨v,fM s0 v,false⟩:AE)]).map AE.to)=(my (ct (e9 s v false) (dJ s v)).2 (s.aK++[⟨v,fM s0 v,false⟩])).to:=by
   have:(ct (e9 s v false) (dJ s v)).2.n=s.n:=(Ct (dJ s v) (e9 s v false)).n;unfold my St.to;dsimp only;rw[this]
  rw[esS];obtain⟨s',hs',hn',hcase⟩:=hlast;dsimp only at hs' hcase;rw[hs'];rcases hcase with⟨hb,hg,hgi,hgl,hgs⟩|⟨hb,href⟩
  . refine cE (by rw[hb];simp) (Tm.bind (hP.shift base (K+6) s' hg (BY hg.n) hgi (by omega) (by omega)) λr hr=>aI ?_);rw[hn',hgs]at hr;cases hr with
    |solved x a b c=>exact .solved x a b c
    |iI p a=>exact .iI p a
    |failed e' a b=>
     rcases gH.1 a with a|a
     . exact .failed e' a b
     . rw[df.1 a]at b;cases b
  . refine cR (by rw[hb];rfl) ?_;unfold km;exact aU (aI rfl) (aI (.iI (.leaf s'.aV) href))
 |succ m ih=>
  intro l base K s R hl hE hP h hkl hK;have hn:=h.gG.n;have hn0:s.n=s0.n:=h.kept.n;have hil:=h.il;have hv:v<s.n:=by rw[hn0];exact hv0
  have hst:vf s.aM v=0:=by rw[h.kept.aM];exact hst0
  have hcp:qN s:=h.gG.inv.cp hn (by omega) (by omega);have hit:=h.gG.Dh (by omega);have hups:=pX (v:=v) hit;have hupn:cT v s.aB≠[]:=by rw[h.cw];exact hup
  have hItm:∀w∈s.aB,w.g.length=s.n/\dl (vf w.g v)<=8:=λw hw=>⟨(hit.2 w hw).1,hit.vf hw v⟩;by_cases h0:l=[]
  . subst h0;have:=ih [] base K s R (fI _) hE hP h (by omega) (by omega);exact this
  refine Tm.succ ?_;show Tm (λN=>qs N (R (N+1)) (nI N (R (N+1))) s.to (v:Int) (mI l) ((fM s0 v).map Int.ofNat)) _;unfold qs;refine aU (xH hit hv) ?_;dsimp only;refine Tm.bind (Q:=λr=>∃d:List AI,r=mI d/\d.length<=l.length/\SI sys base f K s0 v d s/\(d=[]\/∃e t,d=e::t/\0<=iE v e (cT v s0.aB)))
   (Tm.rK (λ(d:List AI) t=>t=mI d/\d.length<=l.length/\SI sys base f K s0 v d s) (λd=>d.length) l ⟨rfl,bQ _,h⟩ ?_) ?_
  . rintro d _ ⟨rfl,hdl,hd⟩;dsimp only[vm];cases d with
    |nil=>exact aU (a:=false) (cE (by rw[fL];simp) (aI rfl)) (cE (by simp) (aI ⟨[],rfl,hdl,hd,.inl rfl⟩))
    |cons e t=>
     obtain⟨em,em0,ev⟩:=hd.lm e cU;have hsd:=xO (low:=e) hups hupn (hItm e em).2;refine aU (a:=decide (iE v e (cT v s.aB)<0)) (cR (by rw[fL,cN];omega) (aJ (a:=e.to) rfl (aU (xV hups hupn (hItm e em).1 (hItm e em).2 hv) (aU (j2 (by omega)) (aI (decide_eq_decide.2 pv)))))) ?_;refine bB (λhs=>?_) (λhs=>aI ⟨e::t,rfl,hdl,hd,.inr ⟨e,t,rfl,?_⟩⟩)
     . have hs:=jf hs;rw[h.cw]at hs;refine aJ (a:=mI t) ?_ (aI ⟨t,⟨rfl,by rw[cN]at hdl;omega,hd.skip hI0 hs⟩,by rw[cN];omega⟩);rw[rQ (i:=1) (j:=((mI (e::t)).length:Int)) (m:=1) (n:=(mI (e::t)).length) rfl rfl (by rw[fL,cN];omega) (bQ _),uV];rfl
     . have hs:¬iE v e (cT v s.aB)<0:=λe'=>hs (jg e');rw[h.cw]at hs;omega
  rintro _ ⟨d,rfl,hdl,hd,hcase⟩;rcases hcase with rfl|⟨e,t,rfl,hk0⟩
  . 
    have hlast:=ih [] base K s R (fI _) hE hP hd (by omega) (by omega);obtain⟨a,N0,ha,hN0⟩:=Tm.shift (f:=λN=>nI N (R N) s.to (v:Int) (mI []) ((fM s0 v).map Int.ofNat)) hlast;obtain⟨_,N1,rfl,hN1⟩:=xH hit hv;have hloop:∀N r1,0<N->bO (vm N (R (N+1)) (nI N (R (N+1))) (v:Int) r1) N (mI [])=some (mI []):=λN r1 hN=>by
     obtain⟨n,rfl⟩:∃n,N=n+1:=⟨N-1,by omega⟩;exact yn (by
      dsimp only[vm];rw[aQ (by rw[fL];simp)];rfl)
    refine⟨a,max N0 N1+1,ha,λN hN=>?_⟩;have h2:=hN0 N (by omega);have h2:qs N (R (N+1)) (nI N (R (N+1))) s.to (v:Int) (mI []) ((fM s0 v).map Int.ofNat)=some a:=h2;unfold qs at h2;rw[show tx N s.to (v:Int)=some _ from hN1 N (by omega)]at h2;rw[Iv,hloop N _ (by omega),Iv]at h2;exact h2
  . obtain⟨em,em0,ev⟩:=hd.lm e cU;obtain⟨e1,e2⟩:=h.gG.inv.it e em;have hqe:=h.gG.q _ (eW e1);have hcl:(aG s.aA e.pos).c.length=s.n:=h.gG.inv.kl _ (eW e1);have hsd:=xO (low:=e) hups hupn (hItm e em).2;have hsle:=VU (low:=e) (EC hupn) ev;rw[h.cw]at hsd hsle;have hco:=h.gG.co e em v hv;generalize hk:iE v e (cT v s0.aB)=k at*;have dk:dl k<=1:=kD (by omega);have dq:=hqe.2;have d1:=kE;have da:dl ((aG s.aA e.pos).b-k)<=K+2:=jX (K:=K+1) (by omega) (by omega);have dn:dl (k-(aG s.aA e.pos).b)<=K+2:=jX (K:=K+1) (by omega) (by omega);have hkl1:∀q:AQ,(s.aA++[q]).length=s.aA.length+1:=λq=>by simp
    rw[cN]at hdl;refine cE (by rw[fL,cN];omega) ?_;refine aJ (a:=e.to) rfl (aJ (a:=e.to) rfl (aU (xV hups hupn (hItm e em).1 (hItm e em).2 hv) (aJ (pC e1) ?_)));rw[h.cw,hk];rw[show(aG s.aA e.pos).to.bG=mB (aG s.aA e.pos).c from rfl];refine aU (tW (K:=K) (by omega) (by omega) hqe.1) ?_;rw[show(vec (aG s.aA e.pos).c.length λj=>-vf (aG s.aA e.pos).c j)=bW (aG s.aA e.pos).c from rfl];refine aU (nq (a:=(aG s.aA e.pos).b) (by omega) (by omega)) (aU (kR (by decide) (by decide)) (aU (nq (by omega) (by omega)) ?_));refine aU (wm (q:=⟨(aG s.aA e.pos).c,(aG s.aA e.pos).b-k-1⟩) hcp) ?_;rw[Nv (by omega)];refine aU (Jc (l:=s.aB) (p:=e.pos) (p':=s.aA.length) (by omega)) ?_;refine aJ (a:=mI t) ?_ ?_
    . rw[rQ (i:=1) (j:=((mI (e::t)).length:Int)) (m:=1) (n:=(mI (e::t)).length) rfl rfl (by rw[fL,cN];omega) (bQ _),uV];rfl
    have hfar:=hd.far hI0 hk hk0 (by omega);have hself:=ih t _ (K+3) _ _ (by omega) hE.shift hP.shift hfar (by show(s.aA++[_]).length+_+_+_+_+_+_<=_;rw[hkl1];omega) (by omega);refine Tm.bind (show Tm (λN=>nI N (R (N+1)) (aS.mk (dp s ⟨(aG s.aA e.pos).c,(aG s.aA e.pos).b-k-1⟩).to.n (dp s ⟨(aG s.aA e.pos).c,(aG s.aA e.pos).b-k-1⟩).to.aA (dp s ⟨(aG s.aA e.pos).c,(aG s.aA e.pos).b-k-1⟩).to.aV (dp s ⟨(aG s.aA e.pos).c,(aG s.aA e.pos).b-k-1⟩).to.u (dp s ⟨(aG s.aA e.pos).c,(aG s.aA e.pos).b-k-1⟩).to.aM (dp s ⟨(aG s.aA e.pos).c,(aG s.aA e.pos).b-k-1⟩).to.value (mI (tS s.aB e.pos s.aA.length)) (dp s ⟨(aG s.aA e.pos).c,(aG s.aA e.pos).b-k-1⟩).to.aK) (v:Int) (mI t) ((fM s0 v).map Int.ofNat)) _ from hself) λr1 hr1=>bB (λhk=>aI (hr1.up hk)) (λhkind=>?_);obtain⟨p2,hp2,rfl⟩:=hr1.ref hkind;obtain⟨n1,n2,n3,n4⟩:=Ok (b:=k-(aG s.aA e.pos).b) (K':=K+2) h.gG em dn (by omega);have nl:(add (dp s ⟨bW (aG s.aA e.pos).c,k-(aG s.aA e.pos).b⟩) ⟨s.aA.length,bW e.g⟩).aB.length<=iB (f+1)+1:=by
     have:=wF (kn:=(dp s ⟨bW (aG s.aA e.pos).c,k-(aG s.aA e.pos).b⟩).aA) (x:=⟨s.aA.length,bW e.g⟩) (l:=s.aB);show(eG _ _ s.aB).length<=_;omega
    refine aU (nq (b:=(aG s.aA e.pos).b) (by omega) (by omega)) (aU (wm (q:=⟨bW (aG s.aA e.pos).c,k-(aG s.aA e.pos).b⟩) hcp) ?_);refine aU (tW (l:=e.g) (K:=8) (by omega) (by omega) (hit.2 e em).2) ?_;rw[show(vec e.g.length λj=>-vf e.g j)=bW e.g from rfl];rw[MX (by omega)];have hqn:gu (K+2) ⟨bW (aG s.aA e.pos).c,k-(aG s.aA e.pos).b⟩:=⟨Dn λw hw=>bV (hqe.1 w hw) (by omega),dn⟩;refine aU (w7 (K:=K+2) ((vW h.gG ((iF _).trans hcl) hqn (by omega)).mG (bQ _) (by omega) (by show(s.aA++[_]).length<=_;rw[hkl1];omega) (by show s.aB.length<=_;omega)) n4) ?_;rw[iO (n:=(dp s ⟨bW (aG s.aA e.pos).c,k-(aG s.aA e.pos).b⟩).to.n) (x:=(add (dp s ⟨bW (aG s.aA e.pos).c,k-(aG s.aA e.pos).b⟩) ⟨s.aA.length,bW e.g⟩).to) rfl];have hch:=Xy hf k.toNat _ (K+2) _ e 0 (λN=>R (N+1)) hE.shift n1 n2 (by
     obtain⟨y,y1,y2,y3⟩:=n3;exact⟨y,y1,y2,by omega⟩) nl (by show(s.aA++[_]).length+_+_+_+_<=_;rw[hkl1];omega) (by omega) ⟨(aG s.aA e.pos).b,by
     show(aG (s.aA++[_]) e.pos).b=_;rw[iz e1];omega,by omega⟩ (kG _) (by omega)
    rw[show(0:Int)+(k.toNat:Int)=k by omega,B0]at hch;refine Tm.bind hch λr2 hr2=>bB (λhk=>aI (hr2.up hk)) (λhkind2=>?_);obtain⟨p1,hp1,rfl⟩:=hr2.ref hkind2;unfold sq;refine aU (aI rfl) (aI (.iI (.node s.aV (bW (aG s.aA e.pos).c) (k-(aG s.aA e.pos).b) p1 p2) (.node h.gG.jb ((iF _).trans hcl) hp1 ?_)));rw[sE,show-(k-(aG s.aA e.pos).b)-1=(aG s.aA e.pos).b-k-1 by omega];exact hp2
end
end Go.D
namespace Go.D
open Go Go.X
section
variable [cH] {sys base:List AQ} {f K μ:Nat} {s:St} {v:Nat}
def CD(s:St):Prop:=∀x∈s.aB,∀y∈s.aB,(∀k,k<s.n->vf y.g k=-vf x.g k)->0<(aG s.aA x.pos).b+(aG s.aA y.pos).b
theorem LF(h:∀i j,i<s.aB.length->j<s.aB.length->(∀k,k<s.n->vf (bE s j).g k=-vf (bE s i).g k)->0<(aG s.aA (bE s i).pos).b+(aG s.aA (bE s j).pos).b):CD s:=by
 intro x hx y hy hg;obtain⟨i,hi,rfl⟩:=lL hx;obtain⟨j,hj,rfl⟩:=lL hy;have:=h i j hi hj;rw[jc hi,jc hj]at this;exact this hg
theorem gv.less{n:Nat}{ep stk':List AE}{r:cD}(h:gv sys base n stk' r)(hs:∀e∈stk',e.dT=true->e∈ep):gv sys base n ep r:=by
 cases h with
 |solved x a b c=>exact .solved x a b c
 |iI p a=>exact .iI p a
 |failed e a b=>exact .failed e (hs e a b) b
theorem VP{R:Nat->aS->Option cD}(hf:f+1<=4)(hR:nj sys f 260 R)(hE:oe sys f R)(hH:∀μ',μ'<μ->nj sys (f+1) μ' R)(h:Good sys base (f+1) K s)(hσ:w6 μ s)(hil:s.aB.length<=iB (f+1))(hkl:s.aA.length+μ+lB (f+1)<=1073741824)(hK:K+2*μ+dB (f+1)<=cH.k)
 (hv:v<s.n)(hst:vf s.aM v=0)(hex:¬tQ s v)(hp:CD s):Tm (λN=>wV N (R N) s.to (v:Int)) (gv sys base s.n s.aK):=by
 have hL:cM=1099511627776:=rfl;have hKM:=cH.h;have hC:=lU (f+1);have hmB:=mX (f+1);have hn:=h.n;have hlN:=vO (f:=f) (m:=iB (f+1)+1) hf (bQ _);have hdN:=wJ (f:=f) (m:=iB (f+1)+1) hf (bQ _);have hit:=h.Dh (by omega);have hup:cT v s.aB≠[]:=λe=>hex (.inl e);have hcp:qN s:=h.inv.cp hn (by omega) (by omega);unfold wV;refine Tm.bind (S0 h.inv hit (by omega) h.q (by omega)) ?_;rintro⟨c,ok⟩ hc;dsimp only at hc⊢;refine Tm.bind (Q:=λr:Sum Unit cD=>r=.inl ()\/∃z,r=.inr z/\gv sys base s.n s.aK z) (bB (λh1=>?_) (λh1=>aI (.inl rfl))) ?_
 . obtain⟨x,hx',y,hy',w,hw,hxu,hyu,rfl⟩:=hc h1;have b1:=(h.q _ (eW (h.inv.it x hx').1)).2;have b2:=(h.q _ (eW (h.inv.it y hy').1)).2;have d1:=jX (a:=(aG s.aA x.pos).b) (b:=-(aG s.aA y.pos).b) b1 (by rw[gL];exact b2);have d64:dl (64:Int)<=1:=kD (by decide);have hpos:=hp x hx' y hy' λk hk=>by rw[hxu k hk,hyu k hk];split<;>rfl
   refine aU (nq (by omega) (by rw[gL];omega)) ?_;refine Tm.bind (Q:=λb=>b=true->(aG s.aA x.pos).b- -(aG s.aA y.pos).b<=64) (aU (kR (by decide) (by decide)) (aU (lg (by omega) (by omega)) (bB (λh2=>?_) (λh2=>aI λe=>(by cases e))))) ?_
   . refine Tm.bind (R2 hit hv (.inl hup)) ?_;rintro _ ⟨tt,rfl,ht⟩;exact aU (lg (by omega) ht) (aI λ_=>Ex.1 h2)
   . intro b hb;refine bB (λh2=>?_) (λh2=>aI (.inl rfl));have:=hb h2;exact Tm.bind (Ur hf hH h hσ hil hkl hK hx' hy' hw hxu hyu hpos (by omega)) λr hr=>aI (.inr ⟨r,rfl,hr⟩)
 . rintro _ (rfl|⟨z,rfl,hz⟩)
   . dsimp only;refine aU (AV hcp) (Tm.bind (OS (m:=iB (f+1)+1) (t:=true) hf h hv hst (λe=>by cases e) (bQ _) (by omega) (by omega) (by omega)) ?_);rintro⟨ok2,x⟩ ⟨s',hs',hn',hcase⟩;dsimp only at hs' hcase⊢;subst hs';rw[iO (n:=s.to.n) (x:=s'.to) (by show(s.n:Int)=s'.n;rw[hn'])];rcases hcase with⟨rfl,hg,hgi,hgl,hgs⟩|⟨rfl,href⟩
     . refine cE (by simp) (Tm.bind (hR base (K+6) s' hg (BY hg.n) hgi (by omega) (by omega)) λr hr=>?_);rw[hn',hgs]at hr;refine Tm.bind (Q:=λb=>b=true->gv sys base s.n s.aK r) (bB (λh2=>aI λ_=>?_) (λh2=>aI λh3=>?_)) ?_
       . cases hr with
         |solved x a b c=>exact .solved x a b c
         |iI p a=>exact .iI p a
         |failed e a b=>exact bX rfl h2
       . cases hr with
         |solved x a b c=>exact .solved x a b c
         |iI p a=>exact .iI p a
         |failed e a b=>
          rcases gH.1 a with a|a
          . exact .failed e a b
          . have h3:=jf h3;rw[df.1 a]at h3;exact bX rfl h3
       . intro b hb;refine bB (λh2=>aI (hb h2)) (λh2=>?_);refine aU (xH hit hv) ?_;dsimp only;have hsl:=xK (v:=v) s.aB;refine aU (Oo (by omega) (by omega)) ?_;generalize hUW:cT v s.aB++dQ v s.aB=UW;have hUWl:UW.length<=s.aB.length:=by rw[<-hUW,dL];omega
         refine aU (a:=(UW.map AI.pos).map Int.ofNat) (eE UW.length (λk t=>t=(((UW.take k).map AI.pos).map Int.ofNat,(k:Int))) rfl ?_) ?_
         . rintro k hk _ rfl;dsimp only[HJ];rw[fL];refine bB (λhlt=>?_) (λhge=>aI ?_)
           . have hlt:k<UW.length:=by omega
             refine aJ (p5 hlt) (aJ (eb (by simp only[cS,fm,cN,dY];omega) (by decide)) (aI ⟨hlt,?_⟩));rw[dV (by omega),<-jD hlt];simp only[iC];rfl
           . show _=_;rw[fx (by omega)]
         . have hats:(UW.map AI.pos)=fM s v:=by rw[<-hUW];rfl
           rw[hats];refine Tm.bind (Wi hf h.inv h.rf hv hst hup hil (dQ v s.aB).length (dQ v s.aB) base K s R (bQ _) hE hR ⟨h,Kept.refl s,rfl,λx hx _=>hx,hil,λw hw=>⟨(iT.1 hw).1,(iT.1 hw).1,(iT.1 hw).2⟩,Qd _ h.inv.kr,λw hw=>.inl hw⟩ (by omega) (by omega)) λr hr=>aI hr
     . refine cR rfl ?_;unfold km;exact aU (aI rfl) (aI (.iI (.leaf s'.aV) href))
   . exact aI hz
def rD(sys base:List AQ)(n:Nat)(ep:List AE)(f:Nat):aH ((List bI)×(List Step)×(List (List aC))×(List Int)×(List aC)×(List bD)×(List dW)) cD->Prop
 |.next t=>∃f' s' K',f'<f/\t=gV s'/\s'.n=n/\(∀e∈s'.aK,e.dT=true->e∈ep)/\Good sys base f' K' s'/\s'.aB.length<=iB f'/\s'.aA.length+260+lB f'<=1073741824/\K'+520+dB f'<=cH.k
 |.done r=>gv sys base n ep r
theorem rD.less{n f':Nat}{ep stk':List AE}{r}(h:rD sys base n stk' f' r)(hs:∀e∈stk',e.dT=true->e∈ep)(hf:f'<=f):rD sys base n ep f r:=by
 cases r with
 |next t=>
  obtain⟨f1,s',K',h1,h2,h3,h4,h5⟩:=h;exact⟨f1,s',K',by omega,h2,h3,λe he ht=>hs e (h4 e he ht) ht,h5⟩
 |done r=>exact gv.less h hs
def Bb(N:Nat)(self:aS->Option cD)(x:aS):Option (aH ((List bI)×(List Step)×(List (List aC))×(List Int)×(List aC)×(List bD)×(List dW)) cD):=(vR N x).bind λd=>if(!d.2)=true then(uM N x).bind λp=>some (aH.done p) else(vd N x d.1).bind λq=>if(!q)=true then(wV N self x d.1).bind λv=>some (aH.done v) else(oL N x d.1 false).bind λc=>if(!c.1)=true then(km N (aS.mk x.n c.2.aA c.2.aV c.2.u c.2.aM c.2.value c.2.aB c.2.aK)).bind λy=>some (aH.done y) else some (aH.next (c.2.aA,c.2.aV,c.2.u,c.2.aM,c.2.value,c.2.aB,c.2.aK))
theorem run_eq{N:Nat}{self:aS->Option cD}{s0:St}(hn:s0.n=s.n):wj N self s0.to (gV s)=(rG N s.to).bind λa=>
    if(!a.2.2.2.1)=true then(km N (aS.mk s0.to.n a.2.2.2.2.aA a.2.2.2.2.aV a.2.2.2.2.u a.2.2.2.2.aM a.2.2.2.2.value a.2.2.2.2.aB a.2.2.2.2.aK)).bind λm=>some (aH.done m)
    else if a.2.2.1=true then(pA N (aS.mk s0.to.n a.2.2.2.2.aA a.2.2.2.2.aV a.2.2.2.2.u a.2.2.2.2.aM a.2.2.2.2.value a.2.2.2.2.aB a.2.2.2.2.aK) a.1 a.2.1).bind λb=>
        if(!b.1)=true then(km N (aS.mk s0.to.n b.2.aA b.2.aV b.2.u b.2.aM b.2.value b.2.aB b.2.aK)).bind λo=>some (aH.done o)
        else some (aH.next (b.2.aA,b.2.aV,b.2.u,b.2.aM,b.2.value,b.2.aB,b.2.aK))
    else Bb N self (aS.mk s0.to.n a.2.2.2.2.aA a.2.2.2.2.aV a.2.2.2.2.u a.2.2.2.2.aM a.2.2.2.2.value a.2.2.2.2.aB a.2.2.2.2.aK):=by
  have e:aS.mk s0.to.n s.to.aA s.to.aV s.to.u s.to.aM s.to.value s.to.aB s.to.aK=s.to:=tE hn;rw[<-e];rfl
theorem Hk{R:Nat->aS->Option cD}{s0:St}(hf:f<=4)(h:Good sys base f K s)(hn0:s0.n=s.n)(hil:s.aB.length<=iB f+1)(hkl:s.aA.length+1<=1073741824)(hK:K+6<=cH.k)
 (hkl2:∀f',f=f'+1->s.aA.length+iB f+1+260+lB f'<=1073741824/\K+526+dB f'<=cH.k)
 (hnone:CD s->Tm (λN=>Bb N (R N) s.to) (rD sys base s.n s.aK f)):
 Tm (λN=>wj N (R N) s0.to (gV s)) (rD sys base s.n s.aK f):=by
 have hL:cM=1099511627776:=rfl;have hKM:=cH.h;have hmB:=mX f;have hCB:=lU f;have hn:=h.n;have hsteps:=h.aV;have hso:=h.mG (K':=K+6) (by omega) (by omega) (by omega) (by omega);have e:(λN=>wj N (R N) s0.to (gV s))=λN=>_:=funext λN=>run_eq hn0;rw[e];refine Tm.bind (NL (K:=K+6) (Kk:=K) h.inv hso (bQ _) h.q ⟨by omega,by omega,by omega⟩) ?_;intro a ha;cases ha with
 |none hno=>
  refine cE (by simp) (cE (by simp) ?_);dsimp only;rw[iO (n:=s0.to.n) (x:=s.to) (by show(s0.n:Int)=s.n;rw[hn0])];exact hnone (LF hno)
 |some i j he=>
  have hf0:0<f:=FF h.inv h.fr λe=>by have:=he.il;rw[e]at this;cases this
  obtain⟨f',rfl⟩:∃f',f=f'+1:=⟨f-1,by omega⟩;obtain⟨q1,q2⟩:=hkl2 f' rfl;refine cE (by simp) (cR rfl ?_);dsimp only;rw[iO (n:=s0.to.n) (x:=s.to) (by show(s0.n:Int)=s.n;rw[hn0])];refine Tm.bind (KV (m:=iB (f'+1)+1) (by omega) h (bQ _) (by omega) (by omega) (by omega) he) ?_;rintro⟨ok,x⟩ ⟨s',hs',hn',hcase⟩;dsimp only at hs' hcase⊢;subst hs';rcases hcase with⟨rfl,hg,hgi,hgl,hgs⟩|⟨rfl,href⟩
  . exact cE (by simp) (aI ⟨f',s',K+6,by omega,rfl,hn',λe he _=>by rw[hgs]at he;exact he,hg,hgi,by omega,by omega⟩)
  . refine cR rfl ?_;unfold km;exact aU (aI rfl) (aI (show gv sys base s.n s.aK _ from .iI (.leaf s'.aV) href))
 |bad s' L hLs hO hB hl hb=>
  have hg0:∀z∈s.aB,GB (cB f) z.g:=λz hz w hw=>by
   obtain⟨j,hj,rfl⟩:=gw hw;exact h.co z hz j (by rw[(h.inv.it z hz).2]at hj;exact hj)
  have hA:=qc (K:=K) (M:=cB f) L s h.inv hLs hg0 λa ha=>by
   have:=hB a ha;cases a with
   |add x=>exact λv hv=>bV (this v hv) (fI _)
   |put g us=>exact λv hv=>bV (this v hv) (fI _)
  have hsok:=ue (Kk:=K) (K:=K+6) L s hso ⟨by omega,by omega,by omega⟩ hO (bQ _);rw[hb]at hA hsok;refine cR rfl ?_;unfold km;have href:Ref s.n base (.leaf s'.aV):=yS hA.inv hA.kept.n (hA.jb base h.jb) (by have:=hA.kl;omega) (λq hq=>(hsok.k q hq).1.mono (by omega)) (hA.bad rfl);exact aU (aI rfl) (aI (show gv sys base s.n s.aK _ from .iI (.leaf s'.aV) href))
theorem VJ(h:Good sys base f K s)(hK:K<=cH.k)(hkl:s.aA.length<=1073741824)(hi:s.aB=[]):Tm (λN=>uM N s.to) (gv sys base s.n s.aK):=by
 have hu:=tT f;refine(Rg (K:=K) (Ku:=uB f) ⟨h.n,by omega,by omega,h.su,λq hq=>⟨h.q q hq,h.inv.kl q hq⟩,hkl⟩ h.inv hi h.st h.rf.F).mono ?_;rintro r (⟨x,rfl,xl,xd,y,hy,hxy⟩|⟨e,he,ht,rfl⟩)
 . refine .solved x xl (λv hv=>by have:=xd v hv;omega) λq hq=>?_;have:=h.rf.R y hy q hq;unfold jI;rw[ed (f:=vf q.c) (f':=vf q.c) (g:=vf x) (g':=ux s y) (λ_ _=>rfl) hxy];exact this
 . exact .failed e he ht
theorem L9{R:Nat->aS->Option cD}(hf:f<=4)(hR:∀f',f=f'+1->nj sys f' 260 R/\oe sys f' R)(hH:∀μ',μ'<μ->nj sys f μ' R)(h:Good sys base f K s)(hσ:w6 μ s)(hil:s.aB.length<=iB f)(hkl:s.aA.length+μ+lB f<=1073741824)(hK:K+2*μ+dB f<=cH.k)(hp:CD s):
 Tm (λN=>Bb N (R N) s.to) (rD sys base s.n s.aK f):=by
 have hL:cM=1099511627776:=rfl;have hKM:=cH.h;have hmB:=mX f;have hn:=h.n;have hit:=h.Dh (by omega);unfold Bb;refine Tm.bind (TP hit h.inv.gB (by omega)) ?_;rintro⟨v,ok⟩ (⟨h1,v,rfl,hv,hst,x,hx',hx0⟩|⟨h1,h2⟩)
 . dsimp only at h1⊢;subst h1;have hf0:0<f:=FF h.inv h.fr λe=>by rw[e]at hx';cases hx'
   obtain⟨f',rfl⟩:∃f',f=f'+1:=⟨f-1,by omega⟩;obtain⟨hR1,hR2⟩:=hR f' rfl;have hlN:=vO (f:=f') (m:=iB (f'+1)+1) hf (bQ _);have hdN:=wJ (f:=f') (m:=iB (f'+1)+1) hf (bQ _);refine cE (by simp) (Tm.bind (R1 hit hv) λq hq=>bB (λh3=>?_) (λh3=>?_))
   . have hex:¬tQ s v:=λe=>by rw[hq.2 e]at h3;cases h3
     exact Tm.bind (VP hf hR1 hR2 hH h hσ hil hkl hK hv hst hex hp) λr hr=>aI hr
   . have hex:tQ s v:=hq.1 (by simpa using h3);refine Tm.bind (OS (m:=iB (f'+1)+1) (t:=false) hf h hv hst (λ_=>hex) (bQ _) (by omega) (by omega) (by omega)) ?_;rintro⟨ok2,x⟩ ⟨s',hs',hn',hcase⟩;dsimp only at hs' hcase⊢;subst hs';rcases hcase with⟨rfl,hg,hgi,hgl,hgs⟩|⟨rfl,href⟩
     . refine cE (by simp) (aI ⟨f',s',K+6,by omega,rfl,hn',λe he ht=>?_,hg,hgi,by omega,by omega⟩);rw[hgs]at he;rcases gH.1 he with he|he
       . exact he
       . rw[df.1 he]at ht;cases ht
     . refine cR rfl ?_;unfold km;exact aU (aI rfl) (aI (show gv sys base s.n s.aK _ from .iI (.leaf s'.aV) href))
 . dsimp only at h1 h2⊢;subst h1;have hi:s.aB=[]:=by
    cases hi:s.aB with
    |nil=>rfl
    |cons x l=>
     obtain⟨w,w1,w2,w3⟩:=Ac h.inv (x:=x) (by rw[hi];simp);exact bX (h2 w w1 w3 x (by rw[hi];simp)) w2
   exact cR rfl (Tm.bind (VJ h (by omega) (by omega) hi) λr hr=>aI hr)
theorem Jp(hf:f<=4)(hR:∀f',f'<f->∀μ,nj sys f' μ λN=>kP N)(hE:∀f',f'+1<f->oe sys f' λN=>kP N)(h:Good sys base f K s)
 (hfst:Tm (λN=>wj N (kP N) s.to (gV s)) (rD sys base s.n s.aK f)):Tm (λN=>kP N s.to) (gv sys base s.n s.aK):=by
 refine Tm.succ ?_;show Tm (λN=>yc N (kP N) s.to) _;unfold yc;refine Tm.bind (Q:=gv sys base s.n s.aK) (Tm.rK (λ(g:Nat×St) t=>t=gV g.2/\(g=(f,s)\/(g.1<f/\g.2.n=s.n/\(∀e∈g.2.aK,e.dT=true->e∈s.aK)/\∃K',Good sys base g.1 K' g.2/\g.2.aB.length<=iB g.1/\g.2.aA.length+260+lB g.1<=1073741824/\K'+520+dB g.1<=cH.k))) (λg=>g.1) (f,s) ⟨rfl,.inl rfl⟩ ?_) λr hr=>aI hr;rintro⟨f1,s1⟩ _ ⟨rfl,hg⟩;have fin:∀{t},rD sys base s.n s.aK f1 t->f1<=f->(match t with|.next s'=>∃g':Nat×St,(s'=gV g'.2/\(g'=(f,s)\/(g'.1<f/\g'.2.n=s.n/\(∀e∈g'.2.aK,e.dT=true->e∈s.aK)/\∃K',Good sys base g'.1 K' g'.2/\g'.2.aB.length<=iB g'.1/\g'.2.aA.length+260+lB g'.1<=1073741824/\K'+520+dB g'.1<=cH.k)))/\g'.1<((f1,s1):Nat×St).1|.done r=>gv sys base s.n s.aK r):=by
  intro t ht hle;cases t with
  |next t=>
   obtain⟨f2,s2,K2,h1,h2,h3,h4,h5,h6,h7,h8⟩:=ht;exact⟨(f2,s2),⟨h2,.inr ⟨by show f2<f;omega,h3,h4,K2,h5,h6,h7,h8⟩⟩,h1⟩
  |done r=>exact ht
 rcases hg with hg|⟨hlt,hn1,hst1,K1,hG,hi1,hl1,hk1⟩
 . obtain⟨rfl,rfl⟩:=Prod.mk.inj hg;refine hfst.mono λt ht=>?_;have:=fin ht (bQ _);cases t<;>exact this
 . dsimp only at hlt hn1 hst1 hG hi1 hl1 hk1;have hstep:=Hk (R:=λN=>kP N) (s0:=s) (by omega) hG hn1.symm (by omega) (by omega) (by omega)
    (λf' e=>by
     subst e;have hlN:=vO (f:=f') (m:=iB (f'+1)+1) (by omega) (bQ _);have hdN:=wJ (f:=f') (m:=iB (f'+1)+1) (by omega) (bQ _);have:=lU (f'+1);omega)
    λhp=>L9 (μ:=260) (by omega) (λf' e=>⟨hR f' (by omega) 260,hE f' (by omega)⟩) (λμ' _=>hR f1 hlt μ') hG (BY hG.n) hi1 hl1 (by omega) hp
   refine hstep.mono λt ht=>?_;rw[hn1]at ht;have:=fin (ht.less hst1 (bQ _)) (by omega);cases t<;>exact this
theorem XI(sys:List AQ):∀f,f<=4->(∀μ,nj sys f μ λN=>kP N)/\∀f',f=f'+1->oe sys f' λN=>kP N:=by
  intro f
  induction f using Nat.strongRecOn with
  |ind f ih=>
    intro hf;have hR:∀f',f'<f->∀μ,nj sys f' μ λN=>kP N:=λf' hlt=>(ih f' hlt (by omega)).1;have hE0:∀f',f'+1<f->oe sys f' λN=>kP N:=λf' hlt=>(ih (f'+1) hlt (by omega)).2 f' rfl;have hE:∀f',f=f'+1->oe sys f' λN=>kP N:=by
      rintro f' rfl base K s x hG hx' ho hil hkl hK;refine Jp hf hR hE0 hG (Hk hf hG rfl hil (by omega) (by omega) (λf2 e=>by
        obtain rfl:f'=f2:=by omega
        omega) λhp=>?_)
      obtain⟨y,hy,y1,y2⟩:=ho;have:=hp x hx' y hy λk hk=>by rw[y1,gr]
      omega
    refine⟨λμ=>?_,hE⟩
    induction μ using Nat.strongRecOn with
    |ind μ ihμ=>
      intro base K s hG hσ hil hkl hK;refine Jp hf hR hE0 hG (Hk hf hG rfl (by omega) (by
        match f with
        | 0 => have : lB 0 = 10 := rfl
               omega
        | f' + 1 => have hlN := vO (f := f') (m := iB (f' + 1) + 1) (by omega) (bQ _)
                    omega) (by
        match f with
        | 0 => have : dB 0 = 10 := rfl
               omega
        | f' + 1 => have hdN := wJ (f := f') (m := iB (f' + 1) + 1) (by omega) (bQ _)
                    omega)
        (λf' e=>by
          subst e;have hlN:=vO (f:=f') (m:=iB (f'+1)+1) (by omega) (bQ _);have hdN:=wJ (f:=f') (m:=iB (f'+1)+1) (by omega) (bQ _);omega)
        λhp=>L9 hf (λf' e=>⟨hR f' (by omega) 260,hE f' e⟩) ihμ hG hσ hil hkl hK hp)
end
end Go.D
namespace Go.D
open Go Go.X
def qV(n i:Nat):List Int:=vec n λj=>if i=j then 1 else 0
def nS(n:Nat)(sys:List AQ):St:=⟨n,sys,[],(List.range n).map (qV n),List.replicate n 0,List.replicate n 0,[],[]⟩
theorem Pp{n:Nat}{sys:List AQ}(hn:n<=512)(hl:sys.length<=1073741824):Tm (λN=>xe N (n:Int) (sys.map AQ.to)) (·=(nS n sys).to):=by
 unfold xe;refine aU (a:=sys.map AQ.to) ?_ ?_
 . unfold DC;exact aJ (eb (by rw[cS];simp only[dY];omega) (by decide)) (aI (jC _))
 refine aJ (iu (n:=n) rfl (by omega) (by decide)) (aJ (iu (n:=n) rfl (by omega) (by decide)) ?_);refine aU (a:=((List.range n).map (qV n)).map mB) (eE n (λk t=>t=(((List.range k).map (qV n)).map mB,(k:Int))) rfl ?_) (aI ?_)
 . rintro k hk _ rfl;dsimp only[Fm];refine bB (λhlt=>?_) (λhge=>aI ?_)
   . have hlt:k<n:=by omega
     refine aJ (iu (n:=n) rfl (by omega) (by decide)) ?_;rw[<-nh];refine aU (kR (by decide) (by decide)) (aJ (dX (l:=List.replicate n 0) (by simpa using hlt)) (aJ (eH (xs:=mB (List.replicate n 0)) rfl (by rw[dF];simpa using hlt)) (aJ (eb (by simp only[cS,List.length_range,cN,dY];omega) (by decide)) (aI ⟨hlt,?_⟩))));rw[dV (by omega),Ea,tK];simp only[iC,kZ,List.map_nil];have:(List.replicate n (0:Int)).set k 1=qV n k:=by
      refine kg (by unfold qV;rw[gI,dN];simp) λj hj=>?_;have hj:j<n:=by simpa using hj
      unfold qV;rw[iX (by simpa using hlt),db hj,vN,db hj]
     rw[this]
   . have:k=n:=by omega
     subst this;rfl
 . show aS.mk _ _ _ _ _ _ _ _=(nS n sys).to;unfold nS St.to;dsimp only;rw[nh];rfl
section
variable {n:Nat} {sys:List AQ}
theorem Bl{i j:Nat}(hi:i<n)(hj:j<n):mx (nS n sys).u i j=if i=j then 1 else 0:=by
 unfold mx nS;dsimp only;rw[cL,iA,IC hi];exact db hj
theorem nS_cu{c:List Int}{j:Nat}(hj:j<n):cu (nS n sys).u n c j=vf c j:=by
 unfold cu;rw[ed (f:=vf c) (f':=vf c) (g':=λi=>if i=j then 1 else 0) (λ_ _=>rfl) λi hi=>Bl hi hj,o5 hj]
theorem nS_ux{y:Nat->Int}{i:Nat}(hi:i<n):ux (nS n sys) y i=y i:=by
 unfold ux;show bK (mx (nS n sys).u i) y n=_;rw[ed (f':=λj=>if i=j then 1 else 0) (g:=y) (g':=y) (λj hj=>Bl hi hj) λ_ _=>rfl,kU,CN hi]
theorem xg{m j:Nat}:vf (List.replicate m (0:Int)) j=0:=by
 rcases cG j m with h|h
 . rw[vN,db h]
 . rw[jA (by simpa using h)]
theorem O1(hq:∀q∈sys,q.c.length=n):Inv (nS n sys)where
 ul:=⟨by simp[nS],λr hr=>by
  obtain⟨i,_,rfl⟩:=eh.1 hr;exact dN⟩
 gB:=by simp[nS]
 vl:=by simp[nS]
 kl:=hq
 it x hx:=by cases hx
 dG x hx:=by cases hx
 nf x hx:=by cases hx
 ia x hx:=by cases hx
 kr:=List.Pairwise.nil
 j1:=by
  refine⟨λi j=>if i=j then 1 else 0,λi hi k hk=>?_,λi hi k hk=>?_⟩
  . have hi:i<n:=hi;have hk:k<n:=hk;show bK (mx (nS n sys).u i) (λj=>if j=k then 1 else 0) n=_;rw[o5 hk];exact Bl hi hk
  . have hi:i<n:=hi;have hk:k<n:=hk;show bK (λj=>if i=j then 1 else 0) (λj=>mx (nS n sys).u j k) n=_;rw[kU,CN hi];exact Bl hi hk
 stat j _:=.inl xg
 sv e he:=by cases he
 s2 j _ h:=by rw[show vf (nS n sys).aM j=0 from xg]at h;omega
 sd:=List.Pairwise.nil
structure qX (n K0:Nat)(sys:List AQ):Prop where
 k1:1<=K0
 k2:K0<=400000000
 hn:n<=4
 l:sys.length<=32
 q:∀q∈sys,q.c.length=n/\(∀v∈q.c,v.natAbs<=50)/\dl q.b<=K0
theorem Pu{s:St}{a:Act}(h:a∈fV s):∃i,i<s.aA.length/\a=.put (aG s.aA i).c [⟨i,1⟩]:=by
 obtain⟨i,hi,rfl⟩:=eh.1 h;exact⟨i,qR.1 hi,rfl⟩
theorem PA{p:Nat->Bool}:∀{n:Nat},ja p n<=n
 |0=>bQ _
 |n+1=>by
  have:=PA (p:=p) (n:=n);simp only[ja];split<;>omega
theorem qX.fit{K0:Nat}(h:qX n K0 sys):∀q∈sys,gu K0 q:=λq hq=>⟨λv hv=>bV (kD (by have:=(h.q q hq).2.1 v hv;omega)) h.k1,(h.q q hq).2.2⟩
theorem KO{K0:Nat}(h:qX n K0 sys):ig (K0+6) (nS n sys)/\j3 sys.length (nS n sys)/\∀a∈fV (nS n sys),(mr K0 (nS n sys) a/\zm 50 a)/\kO K0 (nS n sys) a:=by
 have hk2:=h.k2;have hn:=h.hn;have hl:=h.l;have hfit:=h.fit;refine⟨⟨by show n<=_;omega,by show sys.length<=_;omega,by show 0<=_;omega,by show 0<=_;omega,λq hq=>⟨(hfit q hq).mono (by omega),(h.q q hq).1⟩,λx hx=>(by cases hx),by omega⟩,⟨by show sys.length+_<=_;omega,by show 0+_<=_;omega,by show 0+_<=_;omega⟩,?_⟩;intro a ha;obtain⟨i,hi,rfl⟩:=Pu ha;have hi:i<sys.length:=hi;have hq:=eW hi;obtain⟨q1,q2,q3⟩:=h.q _ hq;have hd:∀v∈(aG sys i).c,dl v<=1:=λv hv=>kD (by have:=q2 v hv;omega);have hP:gX K0 (nS n sys) (aG sys i).c [⟨i,1⟩]:=⟨q1,λv hv=>bV (hd v hv) (by decide),by simp,by simp,λu hu=>by
  rw[df.1 hu];exact⟨hi,I4 1,bV kE (by decide),hfit _ hq,q1⟩⟩
 refine⟨⟨hP,q2⟩,hP,⟨λj hj=>?_,λj hj hs=>bX (show vf (nS n sys).aM j=0 from xg) hs⟩,?_⟩
 . have hj:j<n:=hj;show _=cu (nS n sys).u n (vec n (eQ sys [⟨i,1⟩])) j;rw[nS_cu hj,db hj];show _=1*vf (aG sys i).c j+0;show vf (aG sys i).c j=_;omega
 . unfold dv;split
   . exact bV kE (by decide)
   . exact bV (wY hd) (by decide)
theorem MQ[cH]{K0:Nat}(h:qX n K0 sys)(hKM:K0+91000<=cH.k):Tm (λN=>rv N (nS n sys).to) (Nxt sys sys n (K0+6) 64 n []):=by
 have hk1:=h.k1;have hk2:=h.k2;have hn:=h.hn;have hl:=h.l;have hI:=O1 λq hq=>(h.q q hq).1;have hfit:=h.fit;obtain⟨hso,hroom,hact⟩:=KO h;have hbl:(fV (nS n sys)).length=sys.length:=by simp[fV,nS]
 have hA:=qc (K:=K0) (M:=50) (fV (nS n sys)) (nS n sys) hI (λa ha=>(hact a ha).2) (λz hz=>by cases hz) λa ha=>(hact a ha).1.2;have hsok:=ue (Kk:=K0) (fV (nS n sys)) (nS n sys) hso (by rw[hbl];exact hroom) (λa ha=>(hact a ha).1.1) (bQ _);refine(OV (K0:=K0) hso hroom (bQ _) λq hq=>⟨hfit q hq,λv hv=>bV (kD (by have:=(h.q q hq).2.1 v hv;omega)) (by decide)⟩).mono ?_;rintro _ rfl;have hnn:(ct (nS n sys) (fV (nS n sys))).2.n=n:=hA.kept.n;have hkl:(ct (nS n sys) (fV (nS n sys))).2.aA.length<=64:=by
  have:=hA.kl;have e:(nS n sys).aA.length=sys.length:=rfl;omega
 have hil:(ct (nS n sys) (fV (nS n sys))).2.aB.length<=32:=by
  have:=hA.il;have e:(nS n sys).aB.length=0:=rfl;omega
 have hder:iH n sys (ct (nS n sys) (fV (nS n sys))).2.aV (ct (nS n sys) (fV (nS n sys))).2.aA:=hA.jb sys .nil;refine⟨_,rfl,hnn,?_⟩;cases hb:(ct (nS n sys) (fV (nS n sys))).1 with
 |false=>exact .inr ⟨rfl,yS hA.inv hnn hder (by omega) (λq hq=>(hsok.k q hq).1.mono (by omega)) (hA.bad hb)⟩
 |true=>
  rw[hb]at hA;have hstk:(ct (nS n sys) (fV (nS n sys))).2.aK=[]:=hA.kept.ep;have hfr:iY (ct (nS n sys) (fV (nS n sys))).2<=n:=by unfold iY;rw[hnn];exact PA
  have hu:=tT n;have hux:∀y i,i<n->ux (ct (nS n sys) (fV (nS n sys))).2 y i=y i:=λy i hi=>by
   rw[<-nS_ux (sys:=sys) (y:=y) hi];unfold ux;rw[hA.kept.u,hA.kept.n]
  refine .inl ⟨rfl,⟨hA.inv,⟨λy hy q hq=>?_,λk e hk=>(by rw[hstk]at hk;cases hk)⟩,by rw[hnn];exact hn,hfr,?_,λq hq=>(hsok.k q hq).1,?_,λe he=>(by rw[hstk]at he;cases he),by rw[hnn];exact hder⟩,?_,hkl,hstk⟩
  . obtain⟨i,hi,rfl⟩:=lL hq;have:=(hA.imp rfl y hy.2.1).2 (.put (aG sys i).c [⟨i,1⟩]) (eh.2 ⟨i,qR.2 hi,rfl⟩);have this:bK (vf (aG sys i).c) y n<=1*(aG sys i).b+0:=this;rw[hnn,<-tz hi,ed (f:=vf (aG sys i).c) (f':=vf (aG sys i).c) (g':=y) (λ_ _=>rfl) λj hj=>hux y j hj];omega
  . intro x hx j hj;have h1:(vf x.g j).natAbs<=50:=hA.gb x hx _ (gP (by rw[(hA.inv.it x hx).2];exact hj))
    match n,hfr with
    |0,hfr=>exact Au hA.inv (by omega) x hx j hj
    |1,hfr=>exact Au hA.inv hfr x hx j hj
    |2,_=>exact bV h1 (by decide)
    |3,_=>exact bV h1 (by decide)
    |m+4,_=>exact h1
  . refine⟨⟨by rw[hA.kept.u,hnn];simp[nS],λr hr=>?_⟩,by rw[hA.kept.aM,hnn];simp[nS],by rw[hA.kept.value,hnn];exact⟨by simp[nS],λv hv=>by rw[(Ak.1 (show v∈List.replicate n 0 from hv)).2,fw];omega⟩⟩;rw[hA.kept.u]at hr;obtain⟨i,hi,rfl⟩:=eh.1 hr;rw[hnn];refine⟨dN,λv hv=>?_⟩;obtain⟨j,hj,rfl⟩:=gw hv;rw[show(qV n i).length=n from dN]at hj;unfold qV;rw[db hj];refine bV (m:=1) (kD ?_) (by omega);split<;>decide
  . match n,hfr with
    |0,hfr=>rw[Gq hA.inv (by omega)];simp
    |1,hfr=>exact KK hA.inv hfr
    |2,_=>exact bV hil (by decide)
    |3,_=>exact bV hil (by decide)
    |m+4,_=>exact hil
inductive FD (n D:Nat)(sys:List AQ):cD->Prop where
 |solved (x:List Int) (hl:x.length=n) (hd:∀v∈x,dl v<=D) (hs:∀q∈sys,jI n (vf x) q):FD n D sys (cD.mk 0 (mB x) qW 0)
 |iI (p:k7) (h:Ref n sys p):FD n D sys (cD.mk 1 [] p.to 0)
theorem TQ[cH]{K0:Nat}(h:qX n K0 sys)(hKM:K0+91000<=cH.k):Tm (λN=>p8 N (n:Int) (sys.map AQ.to)) (gv sys sys n []):=by
 have hn:=h.hn;have hl:=h.l;unfold p8;refine aU (Pp (by omega) (by omega)) (Tm.bind (MQ h hKM) ?_);rintro⟨ok,x⟩ ⟨s',hs',hn',hcase⟩;dsimp only at hs' hcase⊢;subst hs';rw[iO (n:=(nS n sys).to.n) (x:=s'.to) (by show(n:Int)=s'.n;rw[hn'])];rcases hcase with⟨rfl,hg,hgi,hgl,hgs⟩|⟨rfl,href⟩
 . refine cE (by simp) (Tm.bind ((XI sys n hn).1 260 sys (K0+6) s' hg (BY hg.n) hgi ?_ ?_) λr hr=>aI ?_)
   . have:lB n<=542800000:=by
      match n with
      |0=>decide
      |1=>decide
      |2=>decide
      |3=>decide
      |m+4=>exact bQ _
     omega
   . have:dB n<=90000:=by
      match n with
      |0=>decide
      |1=>decide
      |2=>decide
      |3=>decide
      |m+4=>exact bQ _
     omega
   . rw[hn',hgs]at hr;exact hr
 . refine cR rfl ?_;unfold km;exact aU (aI rfl) (aI (.iI (.leaf s'.aV) href))
theorem Up{K0:Nat}(h:qX n K0 sys):Tm (λN=>p8 N (n:Int) (sys.map AQ.to)) (FD n (10*K0+950000) sys):=by
 obtain⟨c,hc⟩:∃c,c=K0+91000:=⟨_,rfl⟩;refine(@TQ n sys ⟨c,by have:=h.k2;omega⟩ K0 h (by show K0+91000<=c;omega)).mono λr hr=>?_;cases hr with
 |solved x a b d=>exact .solved x a (λv hv=>by have:dl v<=10*c+40000:=b v hv;omega) d
 |iI p a=>exact .iI p a
 |failed e a b=>cases a
end
end Go.D
namespace Go.D
open Go Go.X
def cV(n:Nat)(c:Constraint):List Int:=gN c n c.Linear.bG.length
def cQ(n:Nat)(c:Constraint):List AQ:=if c.eP=true then[⟨cV n c,-c.Linear.Const⟩,⟨bW (cV n c),c.Linear.Const⟩]else[⟨cV n c,-c.Linear.Const⟩]
def iK(n:Nat)(l:List Constraint):List AQ:=l.flatMap (cQ n)
theorem EX{n:Nat}{c:Constraint}:(cV n c).length=n:=by unfold cV;rw[te];simp
theorem Pw{l:List Int}:fD (mB l) l:=⟨dF l,λj h h'=>by rw[EI];exact om _⟩
theorem Ut{l:List Int}:bW l=l.map λv=>-v:=by
 apply oD (by rw[iF,cS]);intro i h1 h2;rw[<-px h1,gr,k6,px]
theorem UK{n:Nat}{c:Constraint}(h:gx c n):oJ c n ((cQ n c).map AQ.to):=by
 refine .inr ⟨h,(⟨cV n c,-c.Linear.Const⟩:AQ).to,⟨Pw,om _⟩,?_⟩;unfold cQ;cases he:c.eP with
 |false=>exact .inl ⟨rfl,by simp⟩
 |true=>
  refine .inr ⟨rfl,(⟨bW (cV n c),c.Linear.Const⟩:AQ).to,⟨?_,om _⟩,by simp⟩;show fD (mB (bW (cV n c))) ((cV n c).map λv=>-v);rw[Ut];exact Pw
theorem JM{n:Nat}:∀{l:List Constraint},(∀c∈l,gx c n)->lS n l ((iK n l).map AQ.to)
 |[],_=>rfl
 |c::l,h=>⟨_,_,UK (h c cU),JM λd hd=>h d (cP _ hd),by unfold iK;rw[D8,iC]⟩
theorem Ie{n:Nat}{l:List Constraint}(h:∀c∈l,gx c n):sD l n ((iK n l).map AQ.to):=.inl ⟨h,JM h⟩
structure iS (n:Nat)(l:List Constraint):Prop where
 hn:n<=4
 len:l.length<=16
 right:∀c∈l,gx c n
 const:∀c∈l,fY c.Linear.Const
 mL:∀c∈l,∀k∈c.Linear.bG,k.N.natAbs<=50
section
variable {n:Nat} {l:List Constraint}
theorem iS.cl(h:iS n l){c:Constraint}(hc:c∈l):c.Linear.bG.length<=4:=by
 have:=TE (h.right c hc);have:=h.hn;omega
theorem iS.okc(h:iS n l):∀c∈l,oW c:=λc hc=>⟨by have:=h.cl hc;omega,h.const c hc,λk hk=>by have:=h.mL c hc k hk;unfold fY;omega⟩
theorem VA{P:Int->Prop}(h0:P 0){c:Constraint}{n:Int}(hc:∀k∈c.Linear.bG,P k.N):∀k,∀v∈gN c n k,P v:=by
 intro k;unfold gN;have key:∀(cs:List jt) (v:List Int),(∀k∈cs,P k.N)->(∀x∈v,P x)->∀x∈cs.foldl sb v,P x:=by
  intro cs
  induction cs with
  |nil=>intro v _ hv;exact hv
  |cons a cs ih=>
   intro v ha hv;refine ih (sb v a) (λk hk=>ha k (cP _ hk)) λx hx=>?_;rcases qP hx with hx|rfl
   . exact hv x hx
   . exact ha a cU
 exact key _ _ (λk hk=>hc k (uS hk)) λx hx=>by rw[(Ak.1 hx).2];exact h0
theorem QT{c:Constraint}:(cQ n c).length<=2:=by unfold cQ;split<;>simp
theorem GS:∀{l:List Constraint},(iK n l).length<=2*l.length
 |[]=>by simp[iK]
 |c::l=>by
  have:=GS (l:=l);have:=QT (n:=n) (c:=c);unfold iK at*;rw[D8,dL,cN];omega
theorem iS.sys(h:iS n l):qX n 2 (iK n l):=by
 refine⟨by decide,by decide,h.hn,by have:=h.len;have:=GS (n:=n) (l:=l);omega,λq hq=>?_⟩;obtain⟨c,hc,hq⟩:=uZ.1 hq;have hv:∀v∈cV n c,v.natAbs<=50:=VA (P:=λv=>v.natAbs<=50) (by decide) (h.mL c hc) _;have hi:=h.const c hc;unfold fY at hi;have d1:dl c.Linear.Const<=2:=Dy (by omega);have d2:dl (-c.Linear.Const)<=2:=Dy (by omega);have hneg:∀v∈bW (cV n c),v.natAbs<=50:=λv hv'=>by rw[<-D9];exact hv _ (Db hv')
 unfold cQ at hq;split at hq
 . rcases eJ.1 hq with rfl|hq
   . exact⟨EX,hv,d2⟩
   . rw[df.1 hq];exact⟨(iF _).trans EX,hneg,d1⟩
 . rw[df.1 hq];exact⟨EX,hv,d2⟩
def rW(c:Constraint)(x:List Int):Int:=c.Linear.Const+iU c x c.Linear.bG.length
def qw(l:List Constraint)(x:List Int):Prop:=∀c∈l,rW c x<=0/\(c.eP=true->rW c x=0)
theorem N5{a b:List Int}:∀m,bK (vf a) (vf b) m=pz a b m
 |0=>rfl
 |m+1=>by show bK _ _ m+_=_;rw[N5 m];rfl
theorem Je{c:Constraint}{x:List Int}(hx:x.length=n)(h:gx c n):(∀q∈cQ n c,jI n (vf x) q)↔(rW c x<=0/\(c.eP=true->rW c x=0)):=by
 have h1:bK (vf (cV n c)) (vf x) n=iU c x c.Linear.bG.length:=by
  rw[N5];have:=Uj (c:=c) (x:=x) (by rw[hx];exact h) (k:=c.Linear.bG.length) (bQ _);rw[hx]at this;exact this
 have h2:bK (vf (bW (cV n c))) (vf x) n=-iU c x c.Linear.bG.length:=by rw[LX,h1]
 unfold cQ rW;cases he:c.eP with
 |false=>
  simp only[nB,if_false,df,forall_eq,jI,h1,false_implies,and_true];omega
 |true=>
  simp only[if_true,eJ,PO,or_false,forall_eq_or_imp,forall_eq,jI,h1,h2,true_implies];omega
theorem sat_iff{x:List Int}(hx:x.length=n)(h:∀c∈l,gx c n):(∀q∈iK n l,jI n (vf x) q)↔qw l x:=by
 unfold qw iK;constructor
 . exact λhs c hc=>(Je hx (h c hc)).1 λq hq=>hs q (uZ.2 ⟨c,hc,hq⟩)
 . intro hs q hq;obtain⟨c,hc,hq⟩:=uZ.1 hq;exact(Je hx (h c hc)).2 (hs c hc) q hq
theorem Hj{c:Constraint}{x:List Int}:∀k,qA c.Linear (mB x) k=c.Linear.Const+iU c x k
 |0=>by show c.Linear.Const=c.Linear.Const+0;omega
 |k+1=>by
  rw[qA,iU,Hj k,CH,fC];show _+_*vf x _=_+(_+_*vf x _);omega
theorem iS.sum(h:iS n l){x:List Int}(hx:x.length=n)(hd:∀v∈x,dl v<=137438953472):∀c∈l,Ho c.Linear (mB x):=λc hc=>by
 refine⟨by have:=h.cl hc;omega,h.const c hc,λk hk=>?_,λb hb=>?_⟩
 . obtain⟨i,hi,rfl⟩:=lL hk;have:=(h.right c hc).1 i hi;have h50:=h.mL c hc _ hk;exact⟨by unfold fY;omega,this.1,by rw[dF,hx];exact this.2.1⟩
 . obtain⟨v,hv,rfl⟩:=eh.1 hb;exact okB (hd v hv)
theorem Gf(h:iS n l){x:List Int}(hx:x.length=n)(hd:∀v∈x,dl v<=137438953472):Tm (λN=>ra N l (mB x)) (λr=>r=true↔qw l x):=by
 refine(Rb (by have:=h.len;omega) (h.sum hx hd)).mono λr hr=>?_;rw[hr,uP];unfold qw;refine forall_congr' λc=>forall_congr' λhc=>?_;unfold rH;rw[Hj];show(!(decide (0<rW c x)||(decide (rW c x<0)&&c.eP)))=true↔_;cases c.eP<;>simp<;>omega
theorem Jw(hl:l.length<=1073741824)(hc:∀c∈l,c.Linear.bG.length<=1073741824):Tm (λN=>wO N l) (·=l):=by
 unfold wO;refine aU (a:=l) (eE l.length (λk t=>t=(l.take k,(k:Int))) rfl ?_) (aI rfl);rintro k hk _ rfl;dsimp only[GY];refine bB (λhlt=>?_) (λhge=>aI ?_)
 . have hlt:k<l.length:=by omega
   have:=hc _ (dC hlt);refine aJ (dt hlt) (aJ (eb (by simp only[dY];omega) (by decide)) (aJ (eb (by rw[fm];simp only[cN,dY];omega) (by decide)) (aI ⟨hlt,?_⟩)));rw[dV (by omega),<-jD hlt];rfl
 . show _=_;rw[fx (by omega)]
def Kl(n:Nat)(l:List Constraint):Prop:=∃x:List Int,x.length=n/\qw l x
theorem Qy(h:iS n l):Tm (λN=>sG N (n:Int) l) (λr=>(∃x:List Int,r=(mB x,qW,true)/\x.length=n/\(∀v∈x,dl v<=950020)/\qw l x)\/(∃p:k7,r=([],p.to,false)/\Ref n (iK n l) p)):=by
 unfold sG;refine aU (a:=(iK n l).map AQ.to) ((J9 h.okc (by have:=h.len;omega)).mono λr hr=>hr.uniq (Ie h.right)) (Tm.bind (Up h.sys) ?_);intro r hr;cases hr with
 |solved x xl xd xs=>exact cR rfl (aI (.inl ⟨x,rfl,xl,xd,(sat_iff xl h.right).1 xs⟩))
 |iI p hp=>exact cE (by show¬(1:Int)=0;decide) (aI (.inr ⟨p,rfl,hp⟩))
theorem Ly{p:k7}(hr:∀c∈l,gx c n)(h:Ref n (iK n l) p):¬Kl n l:=by
 rintro⟨x,hx,hs⟩;exact h.sound (vf x) ((sat_iff hx hr).2 hs)
theorem Ws(h:iS n l){p:k7}(hp:Ref n (iK n l) p):Tm (λN=>uI N (n:Int) l p.to) (·=true):=by
 unfold uI;refine aU (a:=(iK n l).map AQ.to) ((Sr h.okc (by have:=h.len;omega)).mono λr hr=>hr.uniq (Ie h.right)) ?_;refine aU (SO (by have:=h.hn;omega) hp λe=>?_) (aI rfl);rw[e]at hp;exact hp.sound (λ_=>0) λq hq=>by cases hq
theorem VO(h:iS n l):Tm (λN=>zK N (n:Int) l) (λr=>r.2=true/\(r.1=true↔Kl n l)):=by
 unfold zK;refine aU (Jw (by have:=h.len;omega) λc hc=>by have:=h.cl hc;omega) (Tm.bind (Qy h) ?_);rintro _ (⟨x,rfl,xl,xd,xs⟩|⟨p,rfl,hp⟩)
 . refine cR rfl (cR (by rw[dF];omega) (Tm.bind (Gf h xl λv hv=>bV (xd v hv) (by decide)) λr hr=>aI ⟨hr.2 xs,λ_=>⟨x,xl,xs⟩,λ_=>rfl⟩))
 . refine cE (by simp) (cR rfl (aU (Ws h hp) (aI ⟨rfl,λe=>(by cases e),λe=>bX e (Ly h.right hp)⟩)))
structure Du (n:Int)(l:List Constraint)(most:Int):Prop where
 const:∀c∈l,-1000000<=c.Linear.Const/\c.Linear.Const<=1000000
 mL:∀c∈l,∀k∈c.Linear.bG,-most<=k.N/\k.N<=most
 hn:n<=4
 len:l.length<=6
 right:Gy l n
theorem TZ{n:Int}{l:List Constraint}{most:Int}(hl:l.length<=9223372036854775807)(hc:∀c∈l,c.Linear.bG.length<=9223372036854775807)(hm:0<=most/\most<=100):Tm (λN=>yQ N n l most) (λr=>r=true->Du n l most):=by
 unfold yQ;refine Tm.bind (Tm.each (body:=λN=>yI N l most) l (λc=>(-1000000<=c.Linear.Const/\c.Linear.Const<=1000000)/\∀k∈c.Linear.bG,-most<=k.N/\k.N<=most) (Q:=λr=>r=.inr false\/(r=.inl ()/\∀c∈l,(-1000000<=c.Linear.Const/\c.Linear.Const<=1000000)/\∀k∈c.Linear.bG,-most<=k.N/\k.N<=most)) hl ?_ ?_) ?_
 . intro k hk _;dsimp only[yI];have hcl:=hc _ (dC hk);refine cR (by omega) (aJ (dt hk) (Tm.bind (Q:=λb=>b=false->(-1000000<=l[k].Linear.Const/\l[k].Linear.Const<=1000000)) (bB (λh=>aI λe=>(by cases e)) (λh=>aI λe=>?_)) ?_))
   . have:=xC e;omega
   . intro b hb;refine bB (λh=>aI (.inr ⟨_,rfl,.inl rfl⟩)) (λh=>?_);have hcb:=hb (by simpa using h);refine Tm.bind (Tm.each (body:=λN=>zS N most l[k]) l[k].Linear.bG (λq=>-most<=q.N/\q.N<=most) (Q:=λr=>r=.inr false\/(r=.inl ()/\∀q∈l[k].Linear.bG,-most<=q.N/\q.N<=most)) hcl ?_ ?_) ?_
     . intro j hj _;dsimp only[zS];refine cR (by omega) (Tm.bind (Q:=λb=>b=false→-most<=(l[k].Linear.bG[j]).N/\(l[k].Linear.bG[j]).N<=most) (aJ (dt hj) (bB (λh=>aI λe=>(by cases e)) (λh=>aJ (dt hj) (aI λe=>?_)))) ?_)
       . have:=xC e;rw[bU (by omega) (by omega)]at this;omega
       . intro b hb;exact bB (λh=>aI (.inr ⟨_,rfl,.inl rfl⟩)) (λh=>aI (.inl ⟨rfl,hb (by simpa using h)⟩))
     . intro h;dsimp only[zS];exact cE (by omega) (aI ⟨_,rfl,.inr ⟨rfl,h⟩⟩)
     . rintro _ (rfl|⟨rfl,h2⟩)
       . exact aI (.inr ⟨_,rfl,.inl rfl⟩)
       . exact aI (.inl ⟨rfl,hcb,h2⟩)
 . intro h;dsimp only[yI];exact cE (by omega) (aI ⟨_,rfl,.inr ⟨rfl,h⟩⟩)
 . rintro _ (rfl|⟨rfl,h⟩)
   . exact aI λe=>(by cases e)
   . refine bB (λh1=>bB (λh2=>?_) (λh2=>aI λe=>(by cases e))) (λh1=>aI λe=>(by cases e));exact Tm.bind (Sc hl hc) λr hr=>aI λe=>⟨λc hc'=>(h c hc').1,λc hc'=>(h c hc').2,h1,by omega,hr.1 e⟩
theorem Du.lok{n:Int}{l:List Constraint}{most:Int}(h:Du n l most)(hm:most<=50):∃m:Nat,n=m/\iS m l:=by
 obtain⟨h1,h2,h3⟩:=h.right;refine⟨n.toNat,by omega,by have:=h.hn;omega,by have:=h.len;omega,λc hc=>?_,λc hc=>by have:=h.const c hc;unfold fY;omega,λc hc k hk=>by have:=h.mL c hc k hk;omega⟩;rw[show((n.toNat:Nat):Int)=n by omega];exact h1 c hc
end
end Go.D
namespace Go.D
open Go Go.X
section
variable [cH]
theorem Tm.and{α:Type}{f:Nat->Option α}{P Q:α->Prop}(h:Tm f P)(h':Tm f Q):Tm f λr=>P r/\Q r:=by
 obtain⟨a,N,ha,hN⟩:=h;obtain⟨b,M,hb,hM⟩:=h';have h1:=hN (max N M) (by omega);have h2:=hM (max N M) (by omega);rw[h1]at h2;obtain rfl:=jd h2;exact⟨a,N,⟨ha,hb⟩,hN⟩
theorem sV{α β:Type}{f:α->β}(h:∀x y,f x=f y->x=y){a b:List α}(e:a.map f=b.map f):a=b:=(List.map_inj_right h).1 e
theorem AQ.inj{a b:AQ}(h:a.to=b.to):a=b:=by
 cases a;cases b;unfold AQ.to at h;injection h with h1 h2
 exact AQ.mk.injEq .. ▸⟨Av h1,Cp h2⟩
theorem AI.inj{a b:AI}(h:a.to=b.to):a=b:=by
 cases a;cases b;unfold AI.to at h;injection h with h1 h2
 exact AI.mk.injEq .. ▸⟨Eb h1,Av h2⟩
theorem AU.inj{a b:AU}(h:a.to=b.to):a=b:=by
 cases a;cases b;unfold AU.to at h;injection h with h1 h2
 exact AU.mk.injEq .. ▸⟨Eb h1,Cp h2⟩
theorem AS.inj{a b:AS}(h:a.to=b.to):a=b:=by
 cases a;cases b;unfold AS.to at h;injection h with h1 h2
 exact AS.mk.injEq .. ▸⟨sV (λx y=>AU.inj) h1,Cp h2⟩
theorem AE.inj{a b:AE}(h:a.to=b.to):a=b:=by
 cases a;cases b;unfold AE.to at h;injection h with h1 h2 h3
 exact AE.mk.injEq .. ▸⟨Eb h1,sV (λx y h=>Eb h) h2,h3⟩
theorem St.inj{a b:St}(h:a.to=b.to):a=b:=by
 cases a;cases b;unfold St.to at h;injection h with h1 h2 h3 h4 h5 h6 h7 h8
 exact St.mk.injEq .. ▸⟨Eb h1,sV (λx y=>AQ.inj) h2,sV (λx y=>AS.inj) h3,sV (λx y=>Av) h4,h5,Av h6,sV (λx y=>AI.inj) h7,sV (λx y=>AE.inj) h8⟩
def l8(s:St):Act->List Int->Int->Prop
 |.add x,g,b=>g=x.g/\b=(aG s.aA x.pos).b
 |.put g0 us,g,b=>di g0≠0/\g=vec s.n (λj=>vf g0 j/dv g0)/\b=fN s.aA us/dv g0
theorem l8.kept{K:Nat}{s s':St}{a:Act}{g:List Int}{b:Int}(hs:kO K s a)(k:Kept s s')(h:l8 s a g b):l8 s' a g b:=by
 obtain⟨e,he⟩:=k.kn;cases a with
 |add x=>
  obtain⟨h1,h2⟩:=h;exact⟨h1,by rw[he,iz (ky.pos hs)];exact h2⟩
 |put g0 us=>
  obtain⟨h1,h2,h3⟩:=h;exact⟨h1,by rw[k.n];exact h2,by rw[he,A5 λu hu=>(hs.1.u u hu).1];exact h3⟩
theorem l8.back{K:Nat}{s s':St}{a:Act}{g:List Int}{b:Int}(hs:kO K s a)(k:Kept s s')(h:l8 s' a g b):l8 s a g b:=by
 obtain⟨e,he⟩:=k.kn;cases a with
 |add x=>
  obtain⟨h1,h2⟩:=h;exact⟨h1,by rw[he,iz (ky.pos hs)]at h2;exact h2⟩
 |put g0 us=>
  obtain⟨h1,h2,h3⟩:=h;exact⟨h1,by rw[k.n]at h2;exact h2,by rw[he,A5 λu hu=>(hs.1.u u hu).1]at h3;exact h3⟩
theorem EJ{kn:List AQ}{x z0:AI}:∀{l:List AI},z0∈l->∃z∈eG kn x l,z.g=z0.g/\(aG kn z.pos).b<=(aG kn z0.pos).b
 |w::l,h=>by
  rw[eG];rcases eJ.1 h with rfl|h
  . split
    . rename_i e;split
      . exact⟨x,cU,e,by omega⟩
      . exact⟨z0,cU,rfl,kG _⟩
    . exact⟨z0,cU,rfl,kG _⟩
  . split
    . split
      . exact⟨z0,cP _ h,rfl,kG _⟩
      . exact⟨z0,cP _ h,rfl,kG _⟩
    . obtain⟨z,hz,h1,h2⟩:=EJ (kn:=kn) (x:=x) h;exact⟨z,cP _ hz,h1,h2⟩
structure LV (s:St)(L:List Act)(s':St):Prop where
 src:∀z∈s'.aB,(∃z0∈s.aB,z0.g=z.g)\/∃a∈L,∃b,l8 s a z.g b
 fg:∀z0∈s.aB,∃z∈s'.aB,z.g=z0.g/\(aG s'.aA z.pos).b<=(aG s.aA z0.pos).b
 new:∀a∈L,∀g b,l8 s a g b->∃z∈s'.aB,z.g=g/\(aG s'.aA z.pos).b<=b
theorem Es{K:Nat}{s s1 s':St}{a:Act}{r:List Act}(hA:∀c∈a::r,kO K s c)(k:Kept s s1)(hit:∀x∈s.aB,x.pos<s.aA.length)
 (h1:∀z∈s1.aB,(∃z0∈s.aB,z0.g=z.g)\/∃b,l8 s a z.g b)(h2:∀z0∈s.aB,∃z∈s1.aB,z.g=z0.g/\(aG s1.aA z.pos).b<=(aG s.aA z0.pos).b)(h3:∀g b,l8 s a g b->∃z∈s1.aB,z.g=g/\(aG s1.aA z.pos).b<=b)
 (h:LV s1 r s'):LV s (a::r) s' where
 src z hz:=by
  rcases h.src z hz with⟨z0,hz0,e⟩|⟨c,hc,b,hb⟩
  . rcases h1 z0 hz0 with⟨z1,hz1,e1⟩|⟨b,hb⟩
    . exact .inl ⟨z1,hz1,e1.trans e⟩
    . exact .inr ⟨a,cU,b,by rw[<-e];exact hb⟩
  . exact .inr ⟨c,cP _ hc,b,hb.back (hA c (cP _ hc)) k⟩
 fg z0 hz0:=by
  obtain⟨z1,hz1,e1,b1⟩:=h2 z0 hz0;obtain⟨z,hz,e,b⟩:=h.fg z1 hz1;exact⟨z,hz,e.trans e1,by omega⟩
 new c hc g b hv:=by
  rcases eJ.1 hc with rfl|hc
  . obtain⟨z1,hz1,e1,b1⟩:=h3 g b hv;obtain⟨z,hz,e,b2⟩:=h.fg z1 hz1;exact⟨z,hz,e.trans e1,by omega⟩
  . exact h.new c hc g b (hv.kept (hA c (cP _ hc)) k)
theorem Ca{K:Nat}:∀(L:List Act) (s:St),Inv s->(∀a∈L,kO K s a)->(ct s L).1=true->LV s L (ct s L).2
 |[],s,_,_,_=>⟨λz hz=>.inl ⟨z,hz,rfl⟩,λz hz=>⟨z,hz,rfl,kG _⟩,λa ha=>by cases ha⟩
 |.add x::r,s,hI,hA,hb=>by
  have hx:ky s x:=hA _ cU;have k:=Bo s x;have h:=Ca r (add s x) (hI.add hx) (λa ha=>(hA a (cP _ ha)).kept k) hb;refine Es hA k (λx hx=>(hI.it x hx).1) (λz hz=>?_) (λz0 hz0=>EJ hz0) (λg b hv=>?_) h
  . rcases mb (show z∈eG _ _ s.aB from hz)with rfl|hz
    . exact .inr ⟨_,rfl,rfl⟩
    . exact .inl ⟨z,hz,rfl⟩
  . obtain⟨e1,e2⟩:=hv;subst e1;subst e2;exact Ab
 |.put g0 us::r,s,hI,hA,hb=>by
  obtain⟨hp,hs,hd⟩:gX K s g0 us/\n5 s g0 us/\dl (dv g0)<=4:=hA _ cU;have k:=B3 s g0 us;have e1:ct s (.put g0 us::r)=if(put s g0 us).1=true then ct (put s g0 us).2 r else(false,(put s g0 us).2):=rfl;rw[e1]at hb⊢;by_cases hok:(put s g0 us).1=true
  . rw[bA hok]at hb⊢;have h:=Ca r (put s g0 us).2 (hI.put hp hs) (λa ha=>(hA a (cP _ ha)).kept k) hb;obtain⟨f1,f2,f3,f4,f5,f6⟩:=Df s g0 us;obtain⟨ek,hek,_⟩:=Gi s g0 us;have hbd:∀z0∈s.aB,(aG (dst s g0 us).aA z0.pos).b=(aG s.aA z0.pos).b:=λz0 hz0=>by rw[hek,iz (hI.it z0 hz0).1]
    by_cases h0:di g0≠0
    . have e2:(put s g0 us).2=add (dst s g0 us) (kC s g0 us):=by unfold put;dsimp only;rw[bA h0]
      refine Es hA k (λx hx=>(hI.it x hx).1) (λz hz=>?_) (λz0 hz0=>?_) (λg b hv=>?_) h
      . rw[e2]at hz;rcases mb (show z∈eG _ _ (dst s g0 us).aB from hz)with rfl|hz
        . exact .inr ⟨_,h0,rfl,rfl⟩
        . rw[f6]at hz;exact .inl ⟨z,hz,rfl⟩
      . rw[e2];obtain⟨z,hz,g1,g2⟩:=EJ (kn:=(dst s g0 us).aA) (x:=kC s g0 us) (l:=(dst s g0 us).aB) (z0:=z0) (by rw[f6];exact hz0);exact⟨z,hz,g1,by rw[hbd z0 hz0]at g2;exact g2⟩
      . obtain⟨_,rfl,rfl⟩:=hv;rw[e2];obtain⟨z,hz,g1,g2⟩:=Ab (kn:=(dst s g0 us).aA) (x:=kC s g0 us) (l:=(dst s g0 us).aB);exact⟨z,hz,g1,by rw[show(aG (dst s g0 us).aA (kC s g0 us).pos).b=fN s.aA us/dv g0 from Hg hp]at g2;exact g2⟩
    . have e2:(put s g0 us).2=dst s g0 us:=by unfold put;dsimp only;rw[aQ h0]
      refine Es hA k (λx hx=>(hI.it x hx).1) (λz hz=>?_) (λz0 hz0=>?_) (λg b hv=>bX hv.1 h0) h
      . rw[e2,f6]at hz;exact .inl ⟨z,hz,rfl⟩
      . rw[e2];exact⟨z0,by rw[f6];exact hz0,rfl,by rw[hbd z0 hz0];exact kG _⟩
  . rw[aQ hok]at hb;cases hb
def wC(s:St):Prop:=∀x∈s.aB,∃y∈s.aB,y.g=bW x.g/\(aG s.aA x.pos).b+(aG s.aA y.pos).b<=0
def F4(s:St)(L:List Act):Prop:=∀a∈L,∀g b,l8 s a g b->∃a'∈L,∃b',l8 s a' (bW g) b'/\b+b'<=0
theorem Pe{s s':St}{L:List Act}(hi:s.aB=[])(hI:Inv s')(h:LV s L s')(hL:F4 s L):wC s':=by
 intro x hx;rcases h.src x hx with⟨z0,hz0,_⟩|⟨a,ha,b,hv⟩
 . rw[hi]at hz0;cases hz0
 . obtain⟨a',ha',b',hv',hb⟩:=hL a ha _ _ hv;obtain⟨z,hz,z1,z2⟩:=h.new a ha _ _ hv;obtain⟨y,hy,y1,y2⟩:=h.new a' ha' _ _ hv';obtain rfl:z=x:=sh hI hz hx z1;exact⟨y,hy,y1,by omega⟩
theorem Tn{a b d:Int}(hd:0<d)(h:a+b<=0):a/d+b/d<=0:=by
 have h1:=Qb (x:=a) (k:=d) (by omega);have h2:=Qb (x:=b) (k:=d) (by omega);have h3:d*(a/d+b/d)<=d*0:=by rw[pM];omega
 exact D7 h3 hd
theorem KW{g:List Int}:di (bW g)=di g:=by
 have key:∀h:List Int,((di h:Nat):Int)∣((di (bW h):Nat):Int):=λh=>oq λv hv=>(Int.dvd_neg).1 (qy (Db hv));have h1:=key g;have h2:=key (bW g);rw[sE]at h2;exact Nat.dvd_antisymm (D6.1 h2) (D6.1 h1)
theorem K7{g:List Int}:dv (bW g)=dv g:=by unfold dv;rw[KW]
theorem T5{n:Nat}{g:List Int}(hl:g.length=n):vec n (λj=>vf (bW g) j/dv (bW g))=bW (vec n λj=>vf g j/dv g):=by
 refine kg (by rw[dN,iF,dN]) λj hj=>?_;rw[dN]at hj;rw[db hj,gr,gr,db hj,K7];refine Int.neg_ediv_of_dvd ?_;unfold dv;split
 . exact Int.one_dvd _
 . exact qy (gP (by omega))
theorem putC{s:St}{g0 g0':List Int}{us us':List AU}(hl:g0.length=s.n)(hg:g0'=bW g0)(hb:fN s.aA us+fN s.aA us'<=0){g:List Int}{b:Int}(h:l8 s (.put g0 us) g b):∃b',l8 s (.put g0' us') (bW g) b'/\b+b'<=0:=by
 obtain⟨h1,rfl,rfl⟩:=h;subst hg;refine⟨fN s.aA us'/dv (bW g0),⟨by rw[KW];exact h1,(T5 hl).symm,rfl⟩,?_⟩;rw[K7];exact Tn (qC g0) hb
section
variable {K C:Nat} {s s1:St} {i j p:Nat}
theorem R7(hI:Inv s)(h:lW K C s i p s1)(he:oK s i j)(hE:wC s):F4 (eu s1 i p) (ez s1 i j p 0):=by
 intro a ha g b hv;obtain⟨k,hk,hki,hkj,hke⟩:=Lc ha;have hlen:=ED h;have hks:k<s.aB.length:=by omega
 obtain⟨_,kp⟩:=kQ h k hks;obtain⟨y,hy,hyg,hyb⟩:=hE _ (eU hks);obtain⟨k',hk',rfl⟩:=lL hy;rw[<-jc hk']at hyg hyb;obtain⟨hk1',kp'⟩:=kQ h k' hk';have hgl:∀m,m<s.aB.length->(bE s m).g.length=s.n:=λm hm=>(hI.it _ (eU hm)).2;have hopp:(bE s j).g=bW (bE s i).g:=kg (by rw[iF,hgl j he.jl,hgl i he.il]) λm hm=>by rw[gr];exact he.g m (by rw[hgl j he.jl]at hm;exact hm)
 have hki':k'≠i:=λe=>by
  subst e;have:(bE s k).g=(bE s j).g:=by rw[hopp,hyg,sE]
  have:=sh hI (eU hks) (eU he.jl) this;have hd:=Ar.1 hI.kr;rcases An k j with g1|g1|g1
  . exact hd k j hks he.jl g1 (by rw[<-jc hks,<-jc he.jl,this])
  . exact hkj g1
  . exact hd j k he.jl hks g1 (by rw[<-jc hks,<-jc he.jl,this])
 have hkj':k'≠j:=λe=>by
  subst e;have:(bE s k).g=(bE s i).g:=by
   have:=dd bW hyg;rw[sE,hopp,sE]at this;exact this.symm
  have:=sh hI (eU hks) (eU he.il) this;have hd:=Ar.1 hI.kr;rcases An k i with g1|g1|g1
  . exact hd k i hks he.il g1 (by rw[<-jc hks,<-jc he.il,this])
  . exact hki g1
  . exact hd i k he.il hks g1 (by rw[<-jc hks,<-jc he.il,this])
 have hg1:(bE s1 k').g=bW (bE s1 k).g:=by
  obtain⟨w,hw⟩:=hI.j1;have hc:∀m,m<s.n->vf (aG s.aA (bE s k').pos).c m=-1*vf (aG s.aA (bE s k).pos).c m:=λm hm=>by
   rw[vj hw hm,vj hw hm,<-qe];refine ed (λr hr=>?_) λ_ _=>rfl;rw[<-hI.dG _ (eU hk') r hr,<-hI.dG _ (eU hks) r hr,hyg,gr];omega
  refine kg (by rw[iF,(h.inv.it _ (eU hk1')).2,(h.inv.it _ (eU hk)).2]) λm hm=>?_;have hm:m<s1.n:=by rw[(h.inv.it _ (eU hk1')).2]at hm;exact hm
  rw[gr,h.inv.dG _ (eU hk1') m hm,h.inv.dG _ (eU hk) m hm,kp,kp',h.kn,h.n,zW (k:=-1) hc];omega
 have hp1:p<s1.n:=by rw[h.n];exact h.pn
 have hkl:(bE s1 k).g.length=s1.n:=(h.inv.it _ (eU hk)).2;have hkl':(bE s1 k').g.length=s1.n:=(h.inv.it _ (eU hk1')).2;have hc':vf (bE s1 k').g p=-vf (bE s1 k).g p:=by rw[hg1,gr]
 have hsum:(aG s1.aA (bE s1 k).pos).b+(aG s1.aA (bE s1 k').pos).b<=0:=by rw[kp,kp',h.kn];exact hyb
 have hij:(aG s1.aA (bE s1 i).pos).b+(aG s1.aA (bE s1 j).pos).b=0:=by
  rw[(kQ h i he.il).2,(kQ h j he.jl).2,h.kn];exact he.b
 unfold ju at hke;rw[aQ (by omega)]at hke;by_cases h0:vf (bE s1 k).g p=0
 . rw[bA h0]at hke;obtain rfl:=(sN hke).1;obtain⟨rfl,rfl⟩:=hv;exact⟨.add (bE s1 k'),vY hk1' (by unfold ju;rw[aQ (by omega),bA (by omega)];simp),_,⟨hg1.symm,rfl⟩,hsum⟩
 . rw[aQ h0]at hke;obtain rfl:=(sN hke).1;have hset:(bE s1 k').g.set p 0=bW ((bE s1 k).g.set p 0):=kg (by rw[iF,gI,gI,hkl,hkl']) λm hm=>by
    rw[gr,iX (by omega),iX (by omega)];split
    . rfl
    . rw[hg1,gr]
   refine⟨_,vY hk1' (a:=.put ((bE s1 k').g.set p 0) [⟨(bE s1 k').pos,1⟩,if vf (bE s1 k').g p<0 then⟨(bE s1 i).pos,-vf (bE s1 k').g p⟩else⟨(bE s1 j).pos,vf (bE s1 k').g p⟩]) (by unfold ju;rw[aQ (by omega),aQ (by omega)];simp),?_⟩;refine putC (by rw[gI];exact hkl) hset ?_ hv;show 1*(aG s1.aA (bE s1 k).pos).b+(_+0)+(1*(aG s1.aA (bE s1 k').pos).b+(_+0))<=0;rw[hc',show(eu s1 i p).aA=s1.aA from rfl];by_cases hneg:vf (bE s1 k).g p<0
   . rw[bA hneg,aQ (by omega)];dsimp only;have e:-vf (bE s1 k).g p*(aG s1.aA (bE s1 i).pos).b+-vf (bE s1 k).g p*(aG s1.aA (bE s1 j).pos).b=0:=by rw[<-pM,hij,Am]
     omega
   . rw[aQ hneg,bA (by omega)];dsimp only;rw[I3];have e:vf (bE s1 k).g p*(aG s1.aA (bE s1 j).pos).b+vf (bE s1 k).g p*(aG s1.aA (bE s1 i).pos).b=0:=by rw[<-pM,IW,hij,Am]
     omega
def KF(sys:List AQ)(s:St):Prop:=∀y,(∀q∈sys,jI s.n (ux s y) q)->Fx s y
theorem eq_kf{Kk M:Nat}{sys:List AQ}{s3:St}(hI:Inv s)(h:lW K C s i p s1)(he:oK s i j)(hD:iH s.n sys s.aV s.aA)(hK:KF sys s)(hA:wG Kk M (eu s1 i p) (ez s1 i j p 0) true s3)(hL:∀a∈ez s1 i j p 0,kO Kk (eu s1 i p) a):KF sys s3:=by
 intro y hy;have hsim:=ND hI h he hA hL;have hn3:s3.n=s.n:=hsim.n;obtain⟨y0,g1,g2,_⟩:=hsim.tr y;have hsat:∀q∈sys,jI s.n (ux s y0) q:=λq hq=>by
  have:=hy q hq;rw[hn3]at this;unfold jI at this⊢;rw[<-ed (f:=vf q.c) (f':=vf q.c) (λ_ _=>rfl) g1];exact this
 have hfx:=hK y0 hsat;have hkn:=hD.sound hsat;have hst:∀m,vf s3.aM m=if p=m then 1 else vf s1.aM m:=λm=>by
  rw[hA.kept.aM];exact iX (by rw[h.inv.gB,h.n];exact h.pn)
 have hva:∀m,vf s3.value m=if p=m then(aG s1.aA (bE s1 i).pos).b else vf s1.value m:=λm=>by
  rw[hA.kept.value];exact iX (by rw[h.inv.vl,h.n];exact h.pn)
 intro m hm hs;rw[hn3]at hm;rw[hst]at hs;rw[hva];by_cases e:p=m
 . subst e;rw[bA rfl];obtain⟨hi,hip⟩:=kQ h i he.il;obtain⟨hj,hjp⟩:=kQ h j he.jl;have hux1:∀r,r<s.n->ux s1 y r=ux s y0 r:=λr hr=>by
    rw[<-g1 r hr];unfold ux;rw[hA.kept.u,hA.kept.n];rfl
   have key:∀k,k<s1.aB.length->IH s1 y (bE s1 k):=λk hk=>by
    refine(tu h.inv (eU hk)).2 ?_;have hpos:=(h.inv.it _ (eU hk)).1;rw[h.kn]at hpos;have:=hkn _ (eW hpos);unfold hx;rw[h.n,h.kn,ed (f:=vf (aG s.aA (bE s1 k).pos).c) (f':=vf (aG s.aA (bE s1 k).pos).c) (λ_ _=>rfl) hux1];exact this
   have hp1:p<s1.n:=by rw[h.n];exact h.pn
   have a1:=key i hi;have a2:=key j hj;unfold IH at a1 a2;rw[mW hp1 λm hm hmp=>by rw[vA h he m (by rw[<-h.n];exact hm),aQ hmp],vA h he p h.pn,bA rfl]at a1;rw[mW hp1 λm hm hmp=>by rw[yZ hI h he m (by rw[<-h.n];exact hm),aQ hmp],yZ hI h he p h.pn,bA rfl]at a2;have hb:=he.b;rw[hjp,h.kn]at a2;rw[hip,h.kn]at a1⊢;omega
 . rw[aQ e]at hs⊢;rw[h.aM]at hs;rw[h.value,<-g2 m hm (by omega)];exact hfx m hm hs
end
end
end Go.D

/- Plain theorems and definitions of this seat, several texts in one. -/
import Derived.Test.YtipdkfmhfakbnaaGreatDoorAf
import Derived.Shelf.Strings.Builder1
import Derived.Shelf.Strings.Builder2
import Derived.Shelf.Strings.OnBuilder
import Derived.Shelf.Small.Bits
import Derived.Shelf.Strings.BuilderF
import Derived.Shelf.Strconv.Itoa0
import Derived.Shelf.Strconv.Itoa1
import Derived.Shelf.LaysM
import Derived.Shelf.Strconv.Itoa2
import Derived.Shelf.Strings.Prefix
import Derived.Shelf.Bits.Mul64
import Derived.Shelf.Strings.Repeat
import Derived.Ground.Names2Prog
import Derived.Shelf.Slices.ReverseS
import Derived.Shelf.Slices.Clone
import Derived.Shelf.Slices.Cells
import Derived.Ground.SlgnProg
import Derived.Shelf.SlicesE.Clone
import Derived.Shelf.Strconv.Itoa3
import Derived.RangeFuncNested
import Derived.RangeFuncLeaves
import Derived.TacticsIn
import Derived.LoopNIn
set_option linter.unusedVariables false
set_option linter.unusedSimpArgs false
set_option linter.unusedSectionVars false
set_option maxHeartbeats 1000000
namespace Go.D
open Go Go.X
def fE(l:List Constraint):List Constraint:=l.filter λc=>c.eP
theorem VZ{l:List Constraint}(hl:l.length<=1073741824):Tm (λN=>Ad N l (λy0=>ug N y0)) (λr=>(l.any (λc=>!c.eP)=false/\r=-1)\/∃k,∃hk:k<l.length,(!l[k].eP)=true/\(∀j (hj:j<k),(!(l[j]'(by omega)).eP)=false)/\r=(k:Int)):=by
 unfold Ad;refine Tm.bind (Tm.Ps (b:=λN=>yN N (λy0=>ug N y0) l) l (λc=>!c.eP) (λk=>(k:Int)) (by omega) ?_ ?_) ?_
 . intro k hk;dsimp only[yN];refine cR (by omega) (aJ (dt hk) (aJ (a:=!l[k].eP) rfl ?_));exact bB (λh=>aI (by simp[h])) (λh=>aI (by simp[h]))
 . dsimp only[yN];exact cE (by omega) (aI rfl)
 . rintro _ (⟨h,rfl⟩|⟨k,hk,hg,hj,rfl⟩)
   . exact aI (.inl ⟨h,rfl⟩)
   . exact aI (.inr ⟨k,hk,hg,hj,rfl⟩)
theorem Uw{l:List Constraint}(hl:l.length<=1073741824):Tm (λN=>xE N l (λy0=>ug N y0)) (·=fE l):=by
 have hff:∀m:List Constraint,fE m=m.filter λc=>!(λc:Constraint=>!c.eP) c:=λm=>by unfold fE;congr 1;funext c;simp
 unfold xE;refine Tm.bind (VZ hl) ?_;rintro r (⟨hany,rfl⟩|⟨k0,hk0,hg0,hbef,rfl⟩)
 . refine cR rfl (aI ?_);unfold fE;rw[I9.2];intro x hx;rw[IM]at hany;have:=hany x hx;simpa using this
 . refine cE (by omega) ?_;have hfil0:fE (l.take (k0+1))=l.take k0:=by
    unfold fE;rw[<-jD hk0,sQ,I9.2]
    . have:l[k0].eP=false:=by simpa using hg0
      simp[this]
    . intro x hx;obtain⟨j,hj,rfl⟩:=lL hx;rw[fm]at hj;rw[PV];have:=hbef j (by omega);simpa using this
   refine Tm.bind (Q:=λt=>∃c:List Constraint,∃i:Nat,t=(c,(i:Int))/\c.length=l.length/\i<l.length/\c.take i=fE l)
    (Tm.rK (λ(k:Nat) (t:List Constraint×Int×Int)=>k0+1<=k/\k<=l.length/\∃c:List Constraint,∃i:Nat,t=(c,(i:Int),(k:Int))/\c.length=l.length/\i<k/\c.take i=fE (l.take k)/\c.drop k=l.drop k) (λk=>l.length-k) (k0+1) ⟨bQ _,hk0,l,k0,?_,rfl,by omega,hfil0.symm,rfl⟩ ?_) ?_
   . rw[dV (by omega)]
   . rintro k _ ⟨hk1,hk2,c,i,rfl,hcl,hik,ht,hd⟩;dsimp only[ER];refine bB (λhlt=>?_) (λhge=>aI ?_)
     . have hlt:k<l.length:=by omega
       have hck:c[k]?=some l[k]:=by
        have:=dd (λz:List Constraint=>z[0]?) hd;simp only[sH,pK,cy hlt]at this;exact this
       have e2:fE (l.take (k+1))=fE (l.take k)++if l[k].eP=true then[l[k]]else[]:=by
        unfold fE;rw[<-jD hlt,sQ];congr 1;cases h:l[k].eP<;>simp[h]
       refine Tm.bind (Q:=λr=>∃c':List Constraint,∃i':Nat,r=(c',(i':Int))/\c'.length=l.length/\i'<k+1/\c'.take i'=fE (l.take (k+1))/\c'.drop (k+1)=l.drop (k+1)) (aJ (k9 hck) (aJ (a:=!l[k].eP) rfl (bB (λh1=>?_) (λh1=>aI ⟨c,i,rfl,hcl,by omega,?_,?_⟩)))) ?_
       . have h1:l[k].eP=true:=by simpa using h1
         refine aJ (dt (by omega)) (aJ (eH rfl (by omega)) (aI ⟨c.set i l[k],i+1,by rw[dV (by omega)],by rw[gI];exact hcl,by omega,?_,?_⟩))
         . rw[pN (by rw[gI];omega),xu (by omega),P3,ht,e2,bA h1]
         . rw[PR,bA (by omega)];have:=dd (List.drop 1) hd;rw[nC]at this;rw[this,nC]
       . have h1:l[k].eP=false:=by simpa using h1
         rw[ht,e2,aQ (by simp[h1]),lH]
       . have:=dd (List.drop 1) hd;rw[nC]at this;rw[this,nC]
       . rintro _ ⟨c',i',rfl,a1,a2,a3,a4⟩;exact aI ⟨k+1,⟨by omega,by omega,c',i',by rw[dV (by omega)],a1,a2,a3,a4⟩,by omega⟩
     . have:k=l.length:=by omega
       subst this;rw[fx (bQ _)]at ht;exact⟨c,i,rfl,hcl,by omega,ht⟩
   . rintro _ ⟨c,i,rfl,hcl,hil,ht⟩;dsimp only;rw[Kh (by omega) (bQ _)];refine aJ (a:=()) rfl ?_;have hcut:cut (nJ c (i:Int) (c.length:Int) (Constraint.mk (Linear.mk 0 ([]:(List jt))) false)) 0 (i:Int)=some (c.take i):=by
      have:=Hh (xs:=c) (l:=i) (h:=c.length) (z:=Constraint.mk (Linear.mk 0 ([]:(List jt))) false) (by omega) (bQ _);rw[rQ (i:=0) (j:=(i:Int)) (m:=0) (n:=i) rfl rfl (by omega) (by omega),mf];unfold nJ;rw[mQ,qS (by rw[fm];omega),IB];simp
     refine aJ hcut (aI ht)
def Ic(sys:List AQ):Prop:=∀q∈sys,∃q'∈sys,q'.c=bW q.c/\q.b+q'.b<=0
section
variable [cH] {n:Nat} {sys:List AQ}
def xT(sys:List AQ)(n:Nat)(g:Nat×St):Prop:=g.2.n=n/\g.2.aK=[]/\g.1<=4/\∃K,Good sys sys g.1 K g.2/\g.2.aB.length<=iB g.1/\g.2.aA.length+lB g.1<=1073741824/\K+dB g.1<=cH.k/\wC g.2/\KF sys g.2
theorem UH(h:∀q∈sys,q.c.length=n)(hE:Ic sys):F4 (nS n sys) (fV (nS n sys)):=by
 intro a ha g b hv;obtain⟨i,hi,rfl⟩:=Pu ha;have hi:i<sys.length:=hi;obtain⟨q',hq',e1,e2⟩:=hE _ (eW hi);obtain⟨i',hi',rfl⟩:=lL hq';refine⟨.put (aG sys i').c [⟨i',1⟩],eh.2 ⟨i',qR.2 hi',rfl⟩,?_⟩;rw[<-tz hi']at e1 e2;refine putC (h _ (eW hi)) e1 ?_ hv;show 1*(aG sys i).b+0+(1*(aG sys i').b+0)<=0;omega
theorem Rt{K0:Nat}(h:qX n K0 sys)(hKM:K0+91000<=cH.k)(hE:Ic sys):Tm (λN=>rv N (nS n sys).to) (λr=>∃s':St,r.2=s'.to/\((r.1=true/\xT sys n (n,s'))\/(r.1=false/\∃p,Ref n sys p))):=by
 obtain⟨hso,hroom,hact⟩:=KO h;have hfit:=h.fit;have hn:=h.hn;have hI:=O1 λq hq=>(h.q q hq).1;refine(Tm.and (MQ h hKM) (OV (K0:=K0) hso hroom (bQ _) λq hq=>⟨hfit q hq,λv hv=>bV (kD (by have:=(h.q q hq).2.1 v hv;omega)) (by decide)⟩)).mono ?_;rintro⟨ok,x⟩ ⟨⟨s',hs',hn',hcase⟩,hr⟩;dsimp only at hs' hcase;refine⟨s',hs',?_⟩;rcases hcase with⟨rfl,hg,hgi,hgl,hgs⟩|⟨rfl,href⟩
 . have r1:true=(ct (nS n sys) (fV (nS n sys))).1:=dd Prod.fst hr;have r2:x=(ct (nS n sys) (fV (nS n sys))).2.to:=dd Prod.snd hr;have e:s'=(ct (nS n sys) (fV (nS n sys))).2:=St.inj (hs'.symm.trans r2);have hA:=qc (K:=K0) (M:=50) (fV (nS n sys)) (nS n sys) hI (λa ha=>(hact a ha).2) (λz hz=>by cases hz) λa ha=>(hact a ha).1.2;have hlB:lB n<=542800000:=by
    match n,hn with
    |0,_=>decide
    |1,_=>decide
    |2,_=>decide
    |3,_=>decide
    |4,_=>exact bQ _
   have hdB:dB n<=90000:=by
    match n,hn with
    |0,_=>decide
    |1,_=>decide
    |2,_=>decide
    |3,_=>decide
    |4,_=>exact bQ _
   refine .inl ⟨rfl,hn',hgs,hn,K0+6,hg,hgi,by show s'.aA.length+lB n<=_;omega,by show K0+6+dB n<=_;omega,?_,?_⟩
   . show wC s';rw[e];exact Pe (s:=nS n sys) rfl hA.inv (Ca (K:=K0) _ _ hI (λa ha=>(hact a ha).2) r1.symm) (UH (λq hq=>(h.q q hq).1) hE)
   . intro y _ j hj hs;have:vf s'.aM j=0:=by rw[e,hA.kept.aM];exact xg
     exact bX (this.symm.trans hs) (by decide)
 . exact .inr ⟨rfl,_,href⟩
theorem VW{f K i j:Nat}{s:St}(hf:f+1<=4)(h:Good sys sys (f+1) K s)(hil:s.aB.length<=iB (f+1))(hkl:s.aA.length+lB (f+1)<=1073741824)(hK:K+dB (f+1)<=cH.k)(hC:wC s)(hF:KF sys s)(he:oK s i j):
 Tm (λN=>pA N s.to (i:Int) (j:Int)) (λr=>∃s':St,r.2=s'.to/\s'.n=s.n/\s'.aK=s.aK/\((r.1=true/\Good sys sys f (K+6) s'/\s'.aB.length<=iB f/\s'.aA.length+lB f<=1073741824/\K+6+dB f<=cH.k/\wC s'/\KF sys s')\/(r.1=false/\∃p,Ref s.n sys p))):=by
 have hL:cM=1099511627776:=rfl;have hcB:=lU (f+1);have hKM:=cH.h;have hmB:=mX (f+1);have hu:=tT (f+1);have hn:=h.n;have hsteps:=h.aV;have hlN:=vO (f:=f) (m:=iB (f+1)+1) hf (bQ _);have hdN:=wJ (f:=f) (m:=iB (f+1)+1) hf (bQ _);have hso:=h.mG (K':=K) (bQ _) (by omega) (by omega) (by omega);refine(Tm.and (KV (m:=iB (f+1)) hf h (by omega) hil (by omega) (by omega) he) (Ki h.inv hso h.su hn he h.co (by omega) (by omega) (by omega) (by omega) (by omega) (by omega))).mono ?_;rintro⟨ok,x⟩ ⟨⟨s',hs',hn',hcase⟩,p,s1,hP,hr⟩;dsimp only at hs' hcase;have r1:ok=(ct (eu s1 i p) (ez s1 i j p 0)).1:=dd Prod.fst hr;have r2:x=(ct (eu s1 i p) (ez s1 i j p 0)).2.to:=dd Prod.snd hr;have e:s'=(ct (eu s1 i p) (ez s1 i j p 0)).2:=St.inj (hs'.symm.trans r2);have hAk:=GZ h.inv hso hn (by omega) hP he;have hinv1:=Lr h.inv hP;have hA:=qc (K:=K) (M:=4*(cB (f+1)*cB (f+1))) (ez s1 i j p 0) (eu s1 i p) hinv1 (λa ha=>(hAk a ha).2) (λz hz=>by cases hz) λa ha=>(hAk a ha).1.2;rw[<-e,<-r1]at hA;refine⟨s',hs',hn',by rw[hA.kept.ep];exact hP.ep,?_⟩;rcases hcase with⟨rfl,hg,hgi,hgl,hgs⟩|⟨rfl,href⟩
 . refine .inl ⟨rfl,hg,hgi,by omega,by omega,?_,eq_kf h.inv hP he h.jb hF hA λa ha=>(hAk a ha).2⟩;have hv:=Ca (K:=K) _ _ hinv1 (λa ha=>(hAk a ha).2) r1.symm;rw[<-e]at hv;exact Pe (s:=eu s1 i p) rfl hA.inv hv (R7 h.inv hP he hC)
 . exact .inr ⟨rfl,_,href⟩
theorem Sx{N n:Nat}{s s0:St}(hn:s0.n=s.n):yY N (n:Int) s0.to (gV s)=(rG N s.to).bind λa=>
    if(!a.2.2.2.1)=true then some (aH.done (Sum.inr (([]:(List aC)),([]:(List (List aC))),false)))
    else if(!a.2.2.1)=true then some (aH.done (Sum.inl (a.2.2.2.2.aA,a.2.2.2.2.aV,a.2.2.2.2.u,a.2.2.2.2.aM,a.2.2.2.2.value,a.2.2.2.2.aB,a.2.2.2.2.aK)))
    else(pA N (aS.mk s0.to.n a.2.2.2.2.aA a.2.2.2.2.aV a.2.2.2.2.u a.2.2.2.2.aM a.2.2.2.2.value a.2.2.2.2.aB a.2.2.2.2.aK) a.1 a.2.1).bind λb=>
        if(!b.1)=true then some (aH.done (Sum.inr (([]:(List aC)),([]:(List (List aC))),false)))
        else some (aH.next (b.2.aA,b.2.aV,b.2.u,b.2.aM,b.2.value,b.2.aB,b.2.aK)):=by
  have e:aS.mk s0.to.n s.to.aA s.to.aV s.to.u s.to.aM s.to.value s.to.aB s.to.aK=s.to:=tE hn;rw[<-e];rfl
theorem eLoop{s0 s:St}{f:Nat}(hn:s0.n=n)(h:xT sys n (f,s)):Tm (λN=>bO (yY N (n:Int) s0.to) N (gV s)) (λr=>(∃f' s',r=.inl (gV s')/\xT sys n (f',s')/\s'.aB=[])\/(r=.inr ([],[],false)/\∃p,Ref n sys p)):=by
 refine Tm.rK (λ(g:Nat×St) t=>t=gV g.2/\xT sys n g) (λg=>g.1) (f,s) ⟨rfl,h⟩ ?_;rintro⟨f,s⟩ _ ⟨rfl,hn1,hst,hf,K,hG,hil,hkl,hK,hC,hF⟩;dsimp only at hn1 hst hf hG hil hkl hK hC hF⊢;have hL:cM=1099511627776:=rfl;have hKM:=cH.h;have hmB:=mX f;have hCB:=lU f;have hnn:=hG.n;have hsteps:=hG.aV;have hso:=hG.mG (K':=K+6) (by omega) (by omega) (by omega) (by omega);have hlp:10<=lB f/\10<=dB f:=by
  match f,hf with
  |0,_=>decide
  |1,_=>decide
  |2,_=>decide
  |3,_=>decide
  |4,_=>decide
 have e:(λN=>yY N (n:Int) s0.to (gV s))=λN=>_:=funext λN=>Sx (by rw[hn,hn1]);rw[e];refine Tm.bind (NL (K:=K+6) (Kk:=K) hG.inv hso (bQ _) hG.q ⟨by omega,by omega,by omega⟩) ?_;intro a ha;cases ha with
 |none hno=>
  refine cE (by simp) (cR rfl (aI (.inl ⟨f,s,rfl,⟨hn1,hst,hf,K,hG,hil,hkl,hK,hC,hF⟩,?_⟩)));have hp:=LF hno;cases hi:s.aB with
  |nil=>rfl
  |cons x t=>
   have hx:x∈s.aB:=by rw[hi];exact cU
   obtain⟨y,hy,y1,y2⟩:=hC x hx;have:=hp x hx y hy λk hk=>by rw[y1,gr]
   omega
 |some i j he=>
  have hf0:0<f:=FF hG.inv hG.fr λe=>by have:=he.il;rw[e]at this;cases this
  obtain⟨f',rfl⟩:∃f',f=f'+1:=⟨f-1,by omega⟩;refine cE (by simp) (cE (by simp) ?_);dsimp only;rw[iO (n:=s0.to.n) (x:=s.to) (by show(s0.n:Int)=s.n;rw[hn,hn1])];refine Tm.bind (VW hf hG hil hkl hK hC hF he) ?_;rintro⟨ok,x⟩ ⟨s',hs',hn',hst',hcase⟩;dsimp only at hs' hcase⊢;subst hs';rcases hcase with⟨rfl,hg,hgi,hgl,hgk,hgc,hgf⟩|⟨rfl,href⟩
  . exact cE (by simp) (aI ⟨(f',s'),⟨rfl,hn'.trans hn1,hst'.trans hst,by show f'<=4;omega,K+6,hg,hgi,hgl,hgk,hgc,hgf⟩,xp _⟩)
  . exact cR rfl (aI (.inr ⟨rfl,by rw[<-hn1];exact href⟩))
 |bad s' L hLs hO hB hl hb=>
  have hg0:∀z∈s.aB,GB (cB f) z.g:=λz hz w hw=>by
   obtain⟨j,hj,rfl⟩:=gw hw;exact hG.co z hz j (by rw[(hG.inv.it z hz).2]at hj;exact hj)
  have hA:=qc (K:=K) (M:=cB f) L s hG.inv hLs hg0 λa ha=>by
   have:=hB a ha;cases a with
   |add x=>exact λv hv=>bV (this v hv) (fI _)
   |put g us=>exact λv hv=>bV (this v hv) (fI _)
  have hsok:=ue (Kk:=K) (K:=K+6) L s hso ⟨by omega,by omega,by omega⟩ hO (bQ _);rw[hb]at hA hsok;have href:Ref s.n sys (.leaf s'.aV):=yS hA.inv hA.kept.n (hA.jb sys hG.jb) (by have:=hA.kl;omega) (λq hq=>(hsok.k q hq).1.mono (by omega)) (hA.bad rfl);exact cR rfl (aI (.inr ⟨rfl,_,by rw[<-hn1];exact href⟩))
end
end Go.D
namespace Go.D
open Go Go.X
def fH(n:Nat)(F:Nat->List Int):List (List aC):=(List.range n).map λi=>mB (F i)
theorem mP{n:Nat}{F:Nat->List Int}:(fH n F).length=n:=by simp[fH]
theorem pB{n i:Nat}{F:Nat->List Int}(h:i<n):idx (fH n F) (i:Int)=some (mB (F i)):=by
 rw[dt (by rw[mP];exact h)];simp[fH]
theorem Tl{n:Nat}{F:Nat->List Int}:fH (n+1) F=fH n F++[mB (F n)]:=by unfold fH;rw[Ea,iC];rfl
theorem Eh{n:Nat}{F G:Nat->List Int}(h:∀i,i<n->F i=G i):fH n F=fH n G:=Ap λi hi=>by rw[h i (qR.1 hi)]
theorem WM{n k:Nat}{F:Nat->List Int}{v:List Int}:(fH n F).set k (mB v)=fH n λi=>if i=k then v else F i:=by
 apply oD (by rw[gI,mP,mP]);intro i h1 h2;rw[List.getElem_set];simp only[fH,k6,PU];by_cases e:k=i
 . subst e;simp
 . rw[aQ e,aQ λh=>e h.symm]
theorem Fp{n k:Nat}{F:Nat->List Int}{v:List Int}(h:k<n):dw (fH n F) (k:Int) (mB v)=some (fH n λi=>if i=k then v else F i):=by
 rw[eH rfl (by rw[mP];exact h),WM]
theorem QM{vs:List (List Int)}:fH vs.length (λi=>vs.getD i [])=vs.map mB:=by
 apply oD (by rw[mP,cS]);intro i h1 h2;rw[mP]at h1;simp[fH,cL,h1]
theorem JR{f g:Nat->Int}{p:Nat}:∀{n:Nat},p<n->(∀j,j<n->j≠p->f j*g j=0)->bK f g n=f p*g p
 |n+1,hp,h=>by
  simp only[bK];by_cases e:n=p
  . subst e;have:∀m,m<=n->bK f g m=0:=λm=>by
     induction m with
     |zero=>intro _;rfl
     |succ m ih=>intro hm;simp only[bK];rw[ih (by omega),h m (by omega) (by omega)];rfl
    rw[this n (bQ _)];omega
  . rw[JR (n:=n) (by omega) λj hj=>h j (by omega),h n (by omega) e];omega
theorem Jk{f g:Nat->Int}:∀{n:Nat},(∀j,j<n->f j*g j=0)->bK f g n=0
 |0,_=>rfl
 |n+1,h=>by simp only[bK];rw[Jk (n:=n) λj hj=>h j (by omega),h n (by omega)];rfl
def o7(f:Nat->Int):Nat->Int
 |0=>1
 |n+1=>o7 f n*f n
theorem JF{f:Nat->Int}:∀{n:Nat},(∀j,j<n->f j≠0)->o7 f n≠0
 |0,_=>by show(1:Int)≠0;decide
 |n+1,h=>Int.mul_ne_zero (JF λj hj=>h j (by omega)) (h n (by omega))
theorem Mc{f:Nat->Int}:∀{n j:Nat},j<n->f j∣o7 f n
 |n+1,j,h=>by
  rcases cG j n with h1|h1
  . exact P7 (Mc h1) (IY ..)
  . obtain rfl:j=n:=by omega
    exact Int.dvd_mul_left ..
structure CP (n k c D:Nat)(F:Nat->List Int):Prop where
 rl:∀i,i<n->(F i).length=k+1
 dl:∀i,i<n->∀j,dl (vf (F i) j)<=D
 ind:∀w:Nat->Int,(∀i,i<n->bK (vf (F i)) w k=0)->∀j,j<k->w j=0
 n7:∃z:Nat->Int,∀i,i<n->bK (vf (F i)) z k=vf (F i) k
 nQ:∀j,j<c->vf (F j) j≠0/\∀i,i<n->i≠j->vf (F i) j=0
section
variable {n k c D:Nat} {F:Nat->List Int}
theorem CP.pivot(h:CP n k c D F)(hc:c<k)(hn:c<=n):∃p,c<=p/\p<n/\vf (F p) c≠0:=by
 refine je λhno=>?_;have hz:∀p,c<=p->p<n->vf (F p) c=0:=λp h1 h2=>je λe=>hno ⟨p,h1,h2,e⟩;have hP:o7 (λj=>vf (F j) j) c≠0:=JF λj hj=>(h.nQ j hj).1;refine bX ?_ hP;have:=h.ind (cX (λj=>if j<c then-(vf (F j) c)*(o7 (λj=>vf (F j) j) c/vf (F j) j)else 0) c (o7 (λj=>vf (F j) j) c)) (λi hi=>?_) c hc
 . unfold cX at this;rwa[bA rfl]at this
 . rw[uy hc];rw[aQ (xk c)];rcases cG i c with h1|h1
   . rw[JR (p:=i) (by omega) λj hj hji=>?_]
     . rw[bA h1];have hd:vf (F i) i*(o7 (λj=>vf (F j) j) c/vf (F i) i)=o7 (λj=>vf (F j) j) c:=Int.mul_ediv_cancel' (Mc (f:=λj=>vf (F j) j) h1);generalize o7 (λj=>vf (F j) j) c/vf (F i) i=q at*;generalize o7 (λj=>vf (F j) j) c=P at*;rw[mh,mi,<-D3,fU (vf (F i) i),D3,hd,xB];omega
     . by_cases h2:j<c
       . rw[(h.nQ j h2).2 i hi λe=>hji e.symm];simp
       . rw[aQ h2];simp
   . rw[hz i h1 hi,Jk λj hj=>?_]
     . simp
     . by_cases h2:j<c
       . rw[(h.nQ j h2).2 i hi (by omega)];simp
       . rw[aQ h2];simp
def swp(F:Nat->List Int)(c p:Nat):Nat->List Int:=λi=>if i=p then F c else if i=c then F p else F i
theorem Ir{F:Nat->List Int}{c p:Nat}(i:Nat)(hc:c<n)(hp:p<n)(hi:i<n):∃i',i'<n/\swp F c p i=F i':=by
 unfold swp;split
 . exact⟨c,hc,rfl⟩
 . split
   . exact⟨p,hp,rfl⟩
   . exact⟨i,hi,rfl⟩
theorem Tj{F:Nat->List Int}{c p:Nat}(i:Nat)(hc:c<n)(hp:p<n)(hi:i<n):∃i',i'<n/\swp F c p i'=F i:=by
 unfold swp;by_cases h1:i=c
 . exact⟨p,hp,by rw[bA rfl,h1]⟩
 . by_cases h2:i=p
   . subst h2;by_cases h3:c=i
     . exact bX h3.symm h1
     . exact⟨c,hc,by rw[aQ h3,bA rfl]⟩
   . exact⟨i,hi,by rw[aQ h2,aQ h1]⟩
theorem CP.swap(h:CP n k c D F){p:Nat}(hc:c<=p)(hp:p<n):CP n k c D (swp F c p)where
 rl i hi:=by obtain⟨i',h1,e⟩:=Ir (F:=F) i (show c<n by omega) hp hi;rw[e];exact h.rl i' h1
 dl i hi j:=by obtain⟨i',h1,e⟩:=Ir (F:=F) i (show c<n by omega) hp hi;rw[e];exact h.dl i' h1 j
 ind w hw:=h.ind w λi hi=>by obtain⟨i',h1,e⟩:=Tj (F:=F) i (show c<n by omega) hp hi;rw[<-e];exact hw i' h1
 n7:=by
  obtain⟨z,hz⟩:=h.n7;refine⟨z,λi hi=>?_⟩;obtain⟨i',h1,e⟩:=Ir (F:=F) i (show c<n by omega) hp hi;rw[e];exact hz i' h1
 nQ j hj:=by
  obtain⟨h1,h2⟩:=h.nQ j hj;refine⟨by unfold swp;rw[aQ (by omega),aQ (by omega)];exact h1,λi hi hij=>?_⟩;unfold swp;split
  . exact h2 c (by omega) (by omega)
  . split
    . exact h2 p hp (by omega)
    . exact h2 i hi hij
def kM(k c:Nat)(F:Nat->List Int):Nat->List Int:=λi=>if i=c then F c else vec (k+1) λj=>vf (F i) j*vf (F c) c-vf (F c) j*vf (F i) c
theorem wa{i j:Nat}(hj:j<k+1)(hi:i≠c):vf (kM k c F i) j=vf (F i) j*vf (F c) c-vf (F c) j*vf (F i) c:=by
 unfold kM;rw[aQ hi,db hj]
theorem uN:kM k c F c=F c:=bA rfl
theorem Ke{i:Nat}{w:Nat->Int}(hi:i≠c):bK (vf (kM k c F i)) w k=vf (F c) c*bK (vf (F i)) w k+-vf (F i) c*bK (vf (F c)) w k:=by
 rw[<-qe,<-rZ];refine ed (λj hj=>?_) λ_ _=>rfl;rw[wa (by omega) hi];grind
theorem CP.elim(h:CP n k c D F)(hc:c<n)(hck:c<k)(hp:vf (F c) c≠0):CP n k (c+1) (2*D+1) (kM k c F)where
 rl i hi:=by unfold kM;split;exact h.rl c hc;exact dN
 dl i hi j:=by
  by_cases e:i=c
  . subst e;rw[uN];have:=h.dl i hi j;omega
  . rcases cG j (k+1)with hj|hj
    . rw[wa hj e];have h1:=jO (vf (F i) j) (vf (F c) c);have h2:=jO (vf (F c) j) (vf (F i) c);have:=h.dl i hi j;have:=h.dl c hc c;have:=h.dl c hc j;have:=h.dl i hi c;exact jX (K:=2*D) (by omega) (by omega)
    . rw[jA (by unfold kM;rw[aQ e,dN];exact hj),fw];omega
 ind w hw:=h.ind w λi hi=>by
  have h1:=hw c hc;rw[uN]at h1;by_cases e:i=c
  . subst e;exact h1
  . have h2:=hw i hi;rw[Ke e,h1,Am,Int.add_zero]at h2;exact(Int.mul_eq_zero.1 h2).resolve_left hp
 n7:=by
  obtain⟨z,hz⟩:=h.n7;refine⟨z,λi hi=>?_⟩;by_cases e:i=c
  . subst e;rw[uN];exact hz i hi
  . rw[Ke e,hz i hi,hz c hc,wa (by omega) e];grind
 nQ j hj:=by
  rcases cG j c with h1|h1
  . obtain⟨d1,d2⟩:=h.nQ j h1;have hcj:vf (F c) j=0:=d2 c hc (by omega);refine⟨by rw[wa (by omega) (by omega),hcj,Int.zero_mul,xB];exact Int.mul_ne_zero d1 hp,λi hi hij=>?_⟩;by_cases e:i=c
    . subst e;rw[uN];exact hcj
    . rw[wa (by omega) e,hcj,d2 i hi hij];simp
  . obtain rfl:j=c:=by omega
    refine⟨by rw[uN];exact hp,λi hi hij=>?_⟩;rw[wa (by omega) hij,fU,Int.sub_self]
theorem CP.last(h:CP n k k D F)(hk:k<=n){i:Nat}(hi:i<n):if i<k then vf (F i) i≠0/\vf (F i) i∣vf (F i) k else vf (F i) k=0:=by
 obtain⟨z,hz⟩:=h.n7;rw[<-hz i hi];split
 . rename_i h1;refine⟨(h.nQ i h1).1,?_⟩;rw[mW (p:=i) h1 λj hj hji=>(h.nQ j hj).2 i hi λe=>hji e.symm];exact IY ..
 . exact nZ λj hj=>(h.nQ j hj).2 i hi (by omega)
end
theorem N6{a b:Int}(ha:dl a<=cM)(hb:dl b<=cM):Tm (λN=>qB N (B a) (B b)) (·=B (a-b)):=by
 have hL:cM=1099511627776:=rfl;refine(GH (bT a) (bT b) (show dl a<=_ by omega) (show dl b<=_ by omega)).mono λr hr=>?_;have:=nc hr.1;rwa[fC,fC]at this
theorem MI{a b:Int}(ha:dl a<=cM)(hb:dl b<=cM):Tm (λN=>oU N (B a) (B b)) (·=B (a*b)):=by
 have hL:cM=1099511627776:=rfl;refine(Dr (bT a) (bT b) (show dl a<=_ by omega) (show dl b<=_ by omega)).mono λr hr=>?_;have:=nc hr.1;rwa[fC,fC]at this
theorem Gu{a:Int}(ha:dl a<=cM):Tm (λN=>jP N (B a)) (·=bZ a 0):=by
 have hL:cM=1099511627776:=rfl;refine(mS (bT a) (show dl a<=_ by omega)).mono λr hr=>?_;rwa[fC]at hr
theorem Us{p q:List Int}{a b:Int}{D:Nat}(hl:p.length<=1000)(hq:p.length<=q.length)(hD:D<=274877906944)(hp:∀j,dl (vf p j)<=D)(hq':∀j,dl (vf q j)<=D)(ha:dl a<=D)(hb:dl b<=D):Tm (λN=>zL N (mB p) (B a) (mB q) (B b)) (·=mB (vec p.length λj=>vf p j*a-vf q j*b)):=by
 have hL:cM=1099511627776:=rfl;unfold zL;refine aU (a:=mB (vec p.length λj=>vf p j*a-vf q j*b)) (eE p.length (λk t=>t=(mB (vec k λj=>vf p j*a-vf q j*b),(k:Int))) rfl ?_) (aI rfl);rintro k hk _ rfl;dsimp only[HT];rw[dF];refine bB (λhlt=>?_) (λhge=>aI ?_)
 . have hlt:k<p.length:=by omega
   have h1:=hp k;have h2:=hq' k;have h3:=jO (vf p k) a;have h4:=jO (vf q k) b;refine aJ (dX hlt) (aU (MI (by omega) (by omega)) (aJ (dX (by omega)) (aU (MI (by omega) (by omega)) (aU (N6 (by omega) (by omega)) (aJ (eb (by rw[dF,dN];simp only[cN,dY];omega) (by decide)) (aI ⟨hlt,?_⟩))))));rw[dV (by omega)];congr 1;unfold vec mB;rw[Ea,iC,iC];rfl
 . have:k=p.length:=by omega
   subst this;rfl
theorem Ey{n:Nat}{f:Nat->Int}:vec (n+1) f=vec n f++[f n]:=by unfold vec;rw[Ea,iC];rfl
theorem El{l:List Int}{v:Int}:mB (l++[v])=mB l++[B v]:=by unfold mB;rw[iC];rfl
def pD(vs:List (List Int))(y:List Int)(i:Nat):List Int:=vec (vs.length+1) λk=>if k<vs.length then vf (vs.getD k []) i else vf y i
theorem Vo{n:Nat}{vs:List (List Int)}{y:List Int}(hn:n<=512)(hv:∀v∈vs,v.length=n)(hk:vs.length<=512)(hy:y.length=n):Tm (λN=>bO (A8 N (vs.map mB) (mB y)) N (([]:List (List aC)),0)) (·=fH n (pD vs y)):=by
 refine eE n (λi t=>t=(fH i (pD vs y),(i:Int))) rfl ?_;rintro i hi _ rfl;dsimp only[A8];rw[dF,hy];refine bB (λhlt=>?_) (λhge=>aI ?_)
 . have hlt:i<n:=by omega
   refine aU (a:=mB (vec vs.length λk=>vf (vs.getD k []) i)) (eE vs.length (λk t=>t=(mB (vec k λk=>vf (vs.getD k []) i),(k:Int))) rfl ?_) ?_
   . rintro k hk' _ rfl;dsimp only[If];rw[cS];refine bB (λhlt'=>?_) (λhge=>aI ?_)
     . have hlt':k<vs.length:=by omega
       have e:vs.getD k []=vs[k]:=by rw[cL,cy hlt'];rfl
       have hvl:(vs.getD k []).length=n:=by rw[e];exact hv _ (dC hlt')
       refine aJ (show idx (vs.map mB) (k:Int)=some (mB (vs.getD k [])) by rw[<-QM,pB hlt']) (aJ (dX (by omega)) (aJ (eb (by rw[dF,dN];simp only[cN,dY];omega) (by decide)) (aI ⟨hlt',?_⟩)));rw[dV (by omega),Ey,El]
     . have:k=vs.length:=by omega
       subst this;rfl
   . refine aJ (dX (by omega)) (aJ (eb (by rw[dF,dN];simp only[cN,dY];omega) (by decide)) (aJ (eb (by rw[mP];simp only[cN,dY];omega) (by decide)) (aI ⟨hlt,?_⟩)));rw[dV (by omega),Tl,<-El];congr 3;unfold pD;rw[Ey,aQ (xk _)];congr 2;exact sc λj hj=>(bA hj).symm
 . have:i=n:=by omega
   subst this;rfl
section
variable {n k c D:Nat} {F:Nat->List Int}
theorem Qn(h:CP n k c D F)(hc:c<k)(hkn:k<=n)(hn:n<=512)(hD:D<=cM):Tm (λN=>bO (CE N (fH n F) (c:Int)) N (c:Int)) (λr=>∃p:Nat,r=(p:Int)/\c<=p/\p<n/\vf (F p) c≠0):=by
 obtain⟨p0,g1,g2,g3⟩:=h.pivot hc (by omega);refine Tm.rK (λ(p:Nat) (t:Int)=>t=(p:Int)/\c<=p/\p<=p0) (λp=>p0-p) c ⟨rfl,bQ _,g1⟩ ?_;rintro p _ ⟨rfl,hp1,hp2⟩;dsimp only[CE];have hpn:p<n:=by omega
 refine aU (a:=decide (vf (F p) c=0)) (cR (by rw[mP];omega) (aJ (pB hpn) (aJ (dX (by rw[h.rl p hpn];omega)) (aU (Gu (bV (h.dl p hpn c) hD)) (aI ?_))))) ?_
 . exact decide_eq_decide.2 yV
 . refine bB (λh1=>?_) (λh1=>aI ⟨p,rfl,hp1,hpn,by simpa using h1⟩);have hz:vf (F p) c=0:=by simpa using h1
   have hne:p≠p0:=λe=>by subst e;exact g3 hz
   exact aI ⟨p+1,⟨by rw[dV (by omega)],by omega,by omega⟩,by omega⟩
theorem Rm(h:CP n k c D F)(hc:c<k)(hkn:k<=n)(hn:n<=512)(hD:D<=274877906944):Tm (λN=>bO (BE N (c:Int)) N (fH n F,0)) (·=fH n (kM k c F)):=by
 refine eE n (λi t=>t=(fH n (λr=>if r<i then kM k c F r else F r),(i:Int))) (by rw[Eh (F:=F) λi _=>(aQ (D2 i)).symm];rfl) ?_;rintro i hi _ rfl;dsimp only[BE];rw[mP];have hcn:c<n:=by omega
 refine bB (λhlt=>?_) (λhge=>aI ?_)
 . have hlt:i<n:=by omega
   have next:∀{G:Nat->List Int},(∀r,r<n->G r=if r<i+1 then kM k c F r else F r)->i<n/\(fH n G,iw ((i:Int)+1))=(fH n (λr=>if r<i+1 then kM k c F r else F r),((i+1:Nat):Int)):=λhG=>⟨hlt,by rw[dV (by omega),Eh hG]⟩
   refine bB (λhne=>?_) (λhe=>aI (next λr hr=>?_))
   . have hne:i≠c:=by omega
     have e1:(if i<i then kM k c F i else F i)=F i:=aQ (xk _);have e2:(if c<i then kM k c F c else F c)=F c:=by rw[uN];split<;>rfl
     have i1:idx (fH n (λr=>if r<i then kM k c F r else F r)) (i:Int)=some (mB (F i)):=by rw[pB hlt,e1]
     have i2:idx (fH n (λr=>if r<i then kM k c F r else F r)) (c:Int)=some (mB (F c)):=by rw[pB hcn,e2]
     have l1:=h.rl i hlt;have l2:=h.rl c hcn;refine aJ i1 (aJ i2 (aJ (dX (by omega)) (aJ i2 (aJ i1 (aJ (dX (by omega)) (aU (Us (by omega) (by omega) hD (h.dl i hlt) (h.dl c hcn) (h.dl c hcn c) (h.dl i hlt c)) (aJ i1 (aJ (Fp hlt) (aI (next λr hr=>?_))))))))));by_cases e:r=i
     . subst e;rw[bA rfl,bA (xp _),l1];unfold kM;rw[aQ hne]
     . rw[aQ e];by_cases e3:r<i
       . rw[bA e3,bA (by omega)]
       . rw[aQ e3,aQ (by omega)]
   . have:i=c:=by omega
     subst this;by_cases e3:r<i
     . rw[bA e3,bA (by omega)]
     . by_cases e4:r=i
       . subst e4;rw[aQ e3,bA (by omega),uN]
       . rw[aQ e3,aQ (by omega)]
 . have:i=n:=by omega
   subst this;exact Eh λr hr=>bA hr
theorem TF(vs:List (List aC))(hvs:vs.length=k)(h:CP n k 0 D F)(hkn:k<=n)(hn:n<=4)(hD:D<=1000000000):Tm (λN=>bO (Cz N vs) N (fH n F,0)) (λr=>∃G,r=.inl (fH n G)/\CP n k k (16*(D+1)) G):=by
 have hL:cM=1099511627776:=rfl;refine eE k (λc t=>∃G,t=(fH n G,(c:Int))/\CP n k c (2^c*(D+1)-1) G) ⟨F,rfl,by simpa using h⟩ ?_;rintro c hc _ ⟨G,rfl,hG⟩;have h16:2^c<=16:=by
  have:=Nat.pow_le_pow_right (show 0<2 by omega) (show c<=4 by omega);omega
 have hDb:2^c*(D+1)<=16*(D+1):=qQ _ h16;dsimp only[Cz];rw[hvs];refine bB (λhlt=>?_) (λhge=>aI ?_)
 . have hlt:c<k:=by omega
   have hcn:c<n:=by omega
   refine Tm.bind (Qn hG hlt hkn (by omega) (by omega)) ?_;rintro _ ⟨p,rfl,p1,p2,p3⟩;refine cE (by rw[mP];omega) ?_;have hS:=hG.swap p1 p2;have es:(λi=>if i=p then G c else if i=c then G p else G i)=swp G c p:=rfl;refine aJ (pB p2) (aJ (pB hcn) (aJ (pB hcn) (aJ (Fp hcn) (aJ (pB p2) (aJ (Fp p2) ?_)))));rw[es];refine aU (Rm hS hlt hkn (by omega) (by omega)) (aI ⟨hlt,_,by rw[dV (by omega)],?_⟩);have hpv:vf (swp G c p c) c≠0:=by
    unfold swp;by_cases e:c=p
    . subst e;rw[bA rfl];exact p3
    . rw[aQ e,bA rfl];exact p3
   have:=hS.elim hcn hlt hpv;rwa[show 2*(2^c*(D+1)-1)+1=2^(c+1)*(D+1)-1 by
    have:1<=2^c*(D+1):=Nat.mul_pos (Nat.pow_pos (by decide)) (by omega);rw[uY,IQ (2^c) 2,Nat.mul_assoc];omega]at this
 . have:c=k:=by omega
   subst this;exact⟨G,rfl,hG.rl,λi hi j=>bV (hG.dl i hi j) (by omega),hG.ind,hG.n7,hG.nQ⟩
theorem WA(vs:List (List aC))(hvs:vs.length=k)(h:CP n k k D F)(hkn:k<=n)(hn:n<=4)(hD:D<=cM):Tm (λN=>bO (wR N vs (fH n F)) N 0) (·=.inl ()):=by
 have hL:cM=1099511627776:=rfl;refine Tm.each (body:=λN=>wR N vs (fH n F)) (fH n F) (λ_=>True) (by rw[mP];omega) ?_ ?_
 . intro i hi _;have hi':i<n:=by rw[mP]at hi;exact hi
   have hl:=h.last hkn hi';have hrl:=h.rl i hi';dsimp only[wR];rw[hvs,mP];refine cR (by omega) (aJ (pB hi') (aJ (dX (by omega)) ?_));refine bB (λhge=>?_) (λhlt=>?_)
   . rw[aQ (by omega)]at hl;refine aU (Gu (bV (h.dl i hi' k) hD)) (cE (by rw[hl];decide) (aI (.inl ⟨rfl,trivial⟩)))
   . rw[bA (by omega)]at hl;refine aJ (pB hi') (aJ (dX (by omega)) (Tm.bind (GG (bT _) (bT _) (bV (h.dl i hi' k) (by omega)) (bV (h.dl i hi' i) (by omega))) ?_));intro r hr;have hr0:=hr.rem;rw[fC,fC,aQ hl.1,Int.fmod_eq_zero_of_dvd hl.2]at hr0;rw[nc hr0];exact aU (Gu (by rw[fw];omega)) (cE (by decide) (aI (.inl ⟨rfl,trivial⟩)))
 . intro _;dsimp only[wR];exact cE (by omega) (aI ⟨_,rfl,rfl⟩)
end
theorem Pq{n D:Nat}{vs:List (List Int)}{y:List Int}(hn:n<=4)(hk:vs.length<=n)(hD:D<=1000000000)(hv:∀v∈vs,v.length=n/\∀j,dl (vf v j)<=D)(hy:y.length=n/\∀j,dl (vf y j)<=D)
 (ind:∀w:Nat->Int,(∀i,i<n->bK (λk=>vf (vs.getD k []) i) w vs.length=0)->∀j,j<vs.length->w j=0)
 (n7:∃z:Nat->Int,∀i,i<n->bK (λk=>vf (vs.getD k []) i) z vs.length=vf y i):Tm (λN=>w8 N (vs.map mB) (mB y)) (·=true):=by
 have hL:cM=1099511627776:=rfl;have hr:∀(i:Nat) (w:Nat->Int),bK (vf (pD vs y i)) w vs.length=bK (λk=>vf (vs.getD k []) i) w vs.length:=λi w=>ed (λj hj=>by unfold pD;rw[db (by omega),bA hj]) λ_ _=>rfl;have hl:∀i,vf (pD vs y i) vs.length=vf y i:=λi=>by unfold pD;rw[db (by omega),aQ (xk _)]
 have hvd:∀k i,dl (vf (vs.getD k []) i)<=D:=λk i=>by
  rcases cG k vs.length with h|h
  . rw[cL,cy h];exact(hv _ (dC h)).2 i
  . rw[cL,gm h];show dl (vf [] i)<=D;rw[jA (by simp),fw];omega
 have hC:CP n vs.length 0 D (pD vs y):=by
  refine⟨λi hi=>dN,λi hi j=>?_,λw hw=>ind w λi hi=>by rw[<-hr];exact hw i hi,?_,λj hj=>by omega⟩
  . rcases cG j (vs.length+1)with h|h
    . unfold pD;rw[db h];split
      . exact hvd j i
      . exact hy.2 i
    . rw[jA (by unfold pD;rw[dN];exact h),fw];omega
  . obtain⟨z,hz⟩:=n7;exact⟨z,λi hi=>by rw[hr,hl];exact hz i hi⟩
 unfold w8;refine aU (Vo (by omega) (λv h=>(hv v h).1) (by omega) hy.1) (Tm.bind (TF (vs.map mB) (cS ..) hC hk hn hD) ?_);rintro _ ⟨G,rfl,hG⟩;dsimp only;exact aU (WA (vs.map mB) (cS ..) hG hk hn (by omega)) (aI rfl)
end Go.D
namespace Go.D
open Go Go.X
theorem iS.sub{n:Nat}{l l':List Constraint}(h:iS n l)(hl:l'.length<=l.length)(hs:∀c∈l',c∈l):iS n l':=
 ⟨h.hn,by have:=h.len;omega,λc hc=>h.right c (hs c hc),λc hc=>h.const c (hs c hc),λc hc=>h.mL c (hs c hc)⟩
end Go.D
namespace Go.D
open Go Go.X
theorem Jl{n:Nat}{c:Constraint}{x b:List Int}(h:gx c n):∀j,j<=c.Linear.bG.length->iU c (vec n λi=>vf x i+vf b i) j=iU c x j+iU c b j
 |0,_=>rfl
 |j+1,hj=>by
  have hj':j<c.Linear.bG.length:=hj;obtain⟨h1,h2,_⟩:=h.1 j hj';rw[iU,iU,iU,Jl h j (by omega),Mk hj'];have:(vec n λi=>vf x i+vf b i).getD c.Linear.bG[j].Var.toNat 0=x.getD c.Linear.bG[j].Var.toNat 0+b.getD c.Linear.bG[j].Var.toNat 0:=db (f:=λi=>vf x i+vf b i) (by omega);rw[this,pM];omega
end Go.D
namespace Go.D
open Go Go.X
theorem N3{l:List Int}(hl:l.length<=1073741824)(h:∀v∈l,fY v):Tm (λN=>wU N l) (·=mB l):=by
 unfold wU;refine aU (a:=mB l) (eE l.length (λk t=>t=(mB (l.take k),(k:Int))) rfl ?_) (aI rfl);rintro k hk _ rfl;dsimp only[Ip];refine bB (λhlt=>?_) (λhge=>aI ?_)
 . have hlt:k<l.length:=by omega
   have hv:=h _ (dC hlt);refine aJ (dt hlt) (Tm.bind (tF hv.1 hv.2) ?_);rintro b ⟨hb,hbl⟩;obtain rfl:=nc hb;refine aJ (eb (by rw[dF,fm];simp only[cN,dY];omega) (by decide)) (aI ⟨hlt,?_⟩);rw[dV (by omega),<-jD hlt];show(mB (l.take k)++[B l[k]],_)=(mB (l.take k++[l[k]]),_);unfold mB;rw[iC];rfl
 . show _=_;rw[fx (by omega)]
end Go.D
namespace Go.D
open Go Go.X
def fl(s:St)(j:Nat):List Nat:=(List.range j).filter λi=>decide (vf s.aM i≠1)
def tO(s:St)(j:Nat):List Int:=vec s.n λi=>mx s.u i j
def kV(s:St)(j:Nat):List (List Int):=(fl s j).map (tO s)
def gR(s:St)(i:Nat):Int:=if vf s.aM i=1 then vf s.value i else 0
theorem Lu{s:St}{j:Nat}:fl s (j+1)=fl s j++if vf s.aM j=1 then[]else[j]:=by
 unfold fl;rw[Ea,sQ];by_cases h:vf s.aM j=1<;>simp[h]
theorem EK{s:St}{j i:Nat}:i∈fl s j↔i<j/\vf s.aM i≠1:=by simp[fl]
theorem VN{s:St}{j:Nat}:(fl s j).Nodup:=Qd _ List.nodup_range
theorem Lo{s:St}{j:Nat}:(fl s j).length<=j:=bV (qT ..) (by simp)
section
variable {s:St}
def fk(s:St)(k:Nat):Nat:=(fl s s.n).getD k 0
theorem zi{k:Nat}(h:k<(fl s s.n).length):fk s k=(fl s s.n)[k]:=by unfold fk;rw[cL,cy h];rfl
theorem H9{k:Nat}(h:k<(fl s s.n).length):fk s k<s.n/\vf s.aM (fk s k)≠1:=by
 rw[zi h];exact EK.1 (dC h)
theorem Rz{k k':Nat}(h:k<(fl s s.n).length)(h':k'<(fl s s.n).length)(e:fk s k=fk s k'):k=k':=by
 rw[zi h,zi h']at e;have hd:=Ar.1 (VN (s:=s) (j:=s.n));rcases An k k' with g|g|g
 . exact bX e (hd k k' h h' g)
 . exact g
 . exact bX e.symm (hd k' k h' h g)
theorem Xl{j:Nat}(h:j<s.n)(hs:vf s.aM j≠1):∃k,k<(fl s s.n).length/\fk s k=j:=by
 obtain⟨k,hk,e⟩:=lL (EK.2 ⟨h,hs⟩:j∈fl s s.n);exact⟨k,hk,by rw[zi hk,e]⟩
theorem WO{k i:Nat}(h:k<(fl s s.n).length)(hi:i<s.n):vf ((kV s s.n).getD k []) i=mx s.u i (fk s k):=by
 have e:(kV s s.n).getD k []=tO s (fk s k):=by
  unfold kV;rw[cL,iA,cy h,zi h];rfl
 rw[e];exact db hi
def spread(s:St)(z:Nat->Int)(j:Nat):Int:=bK (λk=>if j=fk s k then 1 else 0) z (fl s s.n).length
theorem JL{z:Nat->Int}{k:Nat}(h:k<(fl s s.n).length):spread s z (fk s k)=z k:=by
 unfold spread;rw[mW (p:=k) h λj hj hjk=>aQ λe=>hjk (Rz h hj e).symm,bA rfl];omega
theorem Tv{z:Nat->Int}{j:Nat}(hs:vf s.aM j=1):spread s z j=0:=
 nZ λk hk=>aQ λe=>(H9 hk).2 (by rw[<-e];exact hs)
theorem Ma{z:Nat->Int}{i:Nat}(hi:i<s.n):bK (λk=>vf ((kV s s.n).getD k []) i) z (fl s s.n).length=ux s (spread s z) i:=by
 have h1:bK (λk=>vf ((kV s s.n).getD k []) i) z (fl s s.n).length=bK (λk=>bK (mx s.u i) (λj=>if j=fk s k then 1 else 0) s.n) z (fl s s.n).length:=
  ed (λk hk=>by rw[WO hk hi,o5 (H9 hk).1]) λ_ _=>rfl
 rw[h1];exact(mc (c:=mx s.u i) (U:=λj k=>if j=fk s k then 1 else 0) (y:=z)).symm
theorem coord{w:Nat->Nat->Int}(hw:Bj s.u s.n w){y:Nat->Int}{j:Nat}(hj:j<s.n):bK (w j) (ux s y) s.n=y j:=by
 unfold ux;rw[mc,ed (f':=λk=>if j=k then 1 else 0) (g:=y) (g':=y) (λk hk=>hw.2 j hj k hk) λ_ _=>rfl,kU,CN hj]
theorem point{w:Nat->Nat->Int}(hw:Bj s.u s.n w){x:Nat->Int}{i:Nat}(hi:i<s.n):ux s (λj=>bK (w j) x s.n) i=x i:=by
 unfold ux;rw[mc,ed (f':=λk=>if i=k then 1 else 0) (g:=x) (g':=x) (λk hk=>hw.1 i hi k hk) λ_ _=>rfl,kU,CN hi]
theorem Qw(hI:Inv s):∀w:Nat->Int,(∀i,i<s.n->bK (λk=>vf ((kV s s.n).getD k []) i) w (fl s s.n).length=0)->∀j,j<(fl s s.n).length->w j=0:=by
 obtain⟨v,hv⟩:=hI.j1;intro w hw j hj;rw[<-JL (z:=w) hj,<-coord hv (y:=spread s w) (H9 hj).1];rw[kU];exact nZ λi hi=>by rw[<-Ma hi];exact hw i hi
end
structure EqnS (n D:Nat)(e:List Constraint)(x:List Int)(vs:List (List Int)):Prop where
 xl:x.length=n
 xd:∀j,dl (vf x j)<=D
 xs:qw e x
 vl:vs.length<=n
 v:∀v∈vs,v.length=n/\∀j,dl (vf v j)<=D
 ker:∀v∈vs,∀c∈e,iU c v c.Linear.bG.length=0
 ind:∀w:Nat->Int,(∀i,i<n->bK (λk=>vf (vs.getD k []) i) w vs.length=0)->∀j,j<vs.length->w j=0
 n7:∀x':List Int,x'.length=n->qw e x'->∃z:Nat->Int,∀i,i<n->bK (λk=>vf (vs.getD k []) i) z vs.length=vf x' i-vf x i
inductive FV (n D:Nat)(e:List Constraint):List aC×List (List aC)×Bool->Prop where
 |none (p:k7) (h:Ref n (iK n e) p):FV n D e ([],[],false)
 |some (x:List Int) (vs:List (List Int)) (h:EqnS n D e x vs):FV n D e (mB x,vs.map mB,true)
theorem Xf{n:Nat}{l:List Constraint}(h:∀c∈l,c.eP=true):Ic (iK n l):=by
 intro q hq;obtain⟨c,hc,hq⟩:=uZ.1 hq;have e:cQ n c=[⟨cV n c,-c.Linear.Const⟩,⟨bW (cV n c),c.Linear.Const⟩]:=bA (h c hc);have m:∀q∈cQ n c,q∈iK n l:=λq h=>uZ.2 ⟨c,hc,h⟩;rw[e]at hq;rcases eJ.1 hq with rfl|hq
 . exact⟨⟨bW (cV n c),c.Linear.Const⟩,m _ (by rw[e];simp),rfl,by dsimp only;omega⟩
 . rw[df.1 hq];exact⟨⟨cV n c,-c.Linear.Const⟩,m _ (by rw[e];simp),(sE _).symm,by dsimp only;omega⟩
theorem Ih{l:List Constraint}{c:Constraint}(h:c∈fE l):c∈l/\c.eP=true:=by
 unfold fE at h;exact DO.1 h
theorem Ge{l:List Constraint}:(fE l).length<=l.length:=qT ..
section
variable [cH] {n:Nat} {e:List Constraint}
theorem RQ{s:St}{f:Nat}(hL:iS n e)(hEq:∀c∈e,c.eP=true)(h:xT (iK n e) n (f,s))(hi:s.aB=[]):EqnS n (2*uB f+4) e (vec n (ux s (gR s))) (kV s n):=by
 obtain⟨hn1,hst,hf,K,hG,hil,hkl,hK,hC,hF⟩:=h;dsimp only at hn1 hst hf hG hil hkl hK hC hF;subst hn1;have hKM:=cH.h;have hu:=tT f;have hI:=hG.inv;have hmx:∀i j,dl (mx s.u i j)<=uB f:=λi j=>by
  unfold mx;rcases cG i s.u.length with h|h
  . rw[cL,cy h];exact(hG.su.u.2 _ (dC h)).vf j
  . rw[cL,gm h];show dl (vf [] j)<=_;rw[jA (by simp),fw];omega
 have hval:∀j,dl (gR s j)<=uB f:=λj=>by
  unfold gR;split
  . exact hG.su.v.vf j
  . rw[fw];omega
 have hn4:=hL.hn;have hsat:∀y,Fx s y->qw e (vec s.n (ux s y)):=λy hy=>(sat_iff dN hL.right).1 λq hq=>by
  have:=hG.rf.R y ⟨hy,λx hx=>(by rw[hi]at hx;cases hx),λk hk=>(by rw[hst]at hk;cases hk)⟩ q hq;unfold jI;rwa[ed (f:=vf q.c) (f':=vf q.c) (g':=ux s y) (λ_ _=>rfl) λj hj=>db hj]
 have hfx0:Fx s (gR s):=λj hj hs=>bA hs;have hvl:∀v∈kV s s.n,∃j,j<s.n/\vf s.aM j≠1/\v=tO s j:=λv hv=>by
  obtain⟨j,hj,rfl⟩:=eh.1 hv;obtain⟨h1,h2⟩:=EK.1 hj;exact⟨j,h1,h2,rfl⟩
 have hcl:(kV s s.n).length=(fl s s.n).length:=cS ..;refine⟨dN,λj=>?_,hsat _ hfx0,by rw[hcl];exact Lo,λv hv=>?_,λv hv c hc=>?_,by rw[hcl];exact Qw hI,λx' xl' xs'=>?_⟩
 . rcases cG j s.n with h|h
   . rw[db h];have:=rP (f:=mx s.u j) (g:=gR s) (hmx j) hval s.n;show dl (bK _ _ _)<=_;omega
   . rw[jA (by rw[dN];exact h),fw];omega
 . obtain⟨j,h1,h2,rfl⟩:=hvl v hv;refine⟨dN,λi=>?_⟩;rcases cG i s.n with h|h
   . rw[show vf (tO s j) i=mx s.u i j from db h];have:=hmx i j;omega
   . rw[jA (by rw[show(tO s j).length=s.n from dN];exact h),fw];omega
 . obtain⟨j,h1,h2,rfl⟩:=hvl v hv;have hfx1:Fx s (cX (gR s) j 1):=λi hi' hs=>by
    unfold cX;rw[aQ λe=>h2 (by rw[<-e];exact hs)];exact bA hs
   have e1:vec s.n (ux s (cX (gR s) j 1))=vec s.n λi=>vf (vec s.n (ux s (gR s))) i+vf (tO s j) i:=sc λi hi'=>by
    rw[Fj h1,db hi',show vf (tO s j) i=mx s.u i j from db hi',show gR s j=0 from aQ h2,xB,xv]
   have c0:=(hsat _ hfx0 c hc).2 (hEq c hc);have c1:=(hsat _ hfx1 c hc).2 (hEq c hc);rw[e1]at c1;unfold rW at c0 c1;rw[Jl (hL.right c hc) _ (bQ _)]at c1;omega
 . obtain⟨w,hw⟩:=hI.j1;have hy1:∀i,i<s.n->ux s (λj=>bK (w j) (vf x') s.n) i=vf x' i:=λi hi'=>point hw hi';have hfx:=hF (λj=>bK (w j) (vf x') s.n) λq hq=>by
    have:=(sat_iff xl' hL.right).2 xs' q hq;unfold jI at this⊢;rwa[ed (f:=vf q.c) (f':=vf q.c) (g':=vf x') (λ_ _=>rfl) hy1]
   refine⟨λk=>bK (w (fk s k)) (vf x') s.n,λi hi'=>?_⟩;rw[hcl,Ma hi',db hi',<-hy1 i hi'];unfold ux;have h3:∀j,j<s.n->spread s (λk=>bK (w (fk s k)) (vf x') s.n) j+gR s j=bK (w j) (vf x') s.n:=λj hj=>by
    by_cases hs:vf s.aM j=1
    . have h5:bK (w j) (vf x') s.n=vf s.value j:=hfx j hj hs;rw[Tv hs,show gR s j=_ from bA hs,h5];omega
    . obtain⟨k,hk,rfl⟩:=Xl hj hs;rw[JL hk,show gR s (fk s k)=0 from aQ hs];omega
   rw[<-ed (f:=mx s.u i) (f':=mx s.u i) (λ_ _=>rfl) h3,kU (n:=s.n) (f:=mx s.u i) (g:=λj=>spread s _ j+gR s j)];have h4:=rZ (f:=spread s λk=>bK (w (fk s k)) (vf x') s.n) (h:=gR s) (g:=mx s.u i) (k:=1) s.n;simp only[Int.one_mul]at h4;rw[h4,kU,kU (f:=gR s)];omega
theorem R3{s:St}{K Ku:Nat}(h:j5 K Ku s)(hn:s.n=n):Tm (λN=>bO (yE N (n:Int) s.to.aM s.to.value s.to.u) N (List.replicate n (aC.mk false []),([]:List (List aC)),0)) (·=(mB (vec n (gR s)),(kV s n).map mB)):=by
 subst hn;have hn4:=h.n;have hv:∀{y:List Int} {j:Nat},j<s.n->y.length=s.n->dw (mB y) (j:Int) (B (vf s.value j))=some (mB (y.set j (vf s.value j))):=λhj hy=>by rw[eH rfl (by rw[dF,hy];exact hj),tK]
 refine eE s.n (λj t=>t=(mB (vec s.n λi=>if i<j then gR s i else 0),(kV s j).map mB,(j:Int))) (by rw[<-nh,vN,sc λi hi=>(aQ (D2 i)).symm];rfl) ?_;rintro j hj _ rfl;dsimp only[yE];refine bB (λhlt=>?_) (λhge=>aI ?_)
 . have hlt:j<s.n:=by omega
   have hsl:j<s.aM.length:=by rw[h.u.st];exact hlt
   have hcl:(kV s j).length<=j:=by unfold kV;rw[cS];exact Lo
   refine aU (a:=(mB (vec s.n λi=>if i<j+1 then gR s i else 0),(kV s (j+1)).map mB)) (aJ (xQ hsl) (bB (λh1=>?_) (λh1=>?_))) (aI ⟨hlt,by rw[dV (by omega)]⟩)
   . refine aJ (dX (by rw[h.u.v.1];exact hlt)) (aJ (dX (by rw[dN];exact hlt)) (aJ (hv hlt dN) (aI ?_)));have e:(vec s.n λi=>if i<j then gR s i else 0).set j (vf s.value j)=vec s.n λi=>if i<j+1 then gR s i else 0:=kg (by rw[gI,dN,dN]) λi hi=>by
      rw[gI,dN]at hi;rw[iX (by rw[dN];exact hlt),db hi,db hi];by_cases e:j=i
      . subst e;rw[bA rfl,bA (xp _)];exact(bA h1).symm
      . rw[aQ e];by_cases e2:i<j
        . rw[bA e2,bA (by omega)]
        . rw[aQ e2,aQ (by omega)]
     rw[e];congr 1;unfold kV;rw[Lu,bA h1,lH]
   . refine aJ (iu (n:=s.n) rfl (by omega) (by decide)) ?_;rw[<-nh];refine aU (Tm.rO (n:=s.n) (by omega) (λi=>mx s.u i j) (by simp) (fin:=id) ?_ ?_) ?_
     . intro k hk c hc hi;dsimp only[Dt];obtain⟨r,hr,hrl,hrv⟩:=G8 h hk;refine cR (by omega) (aJ hr (aJ (dX (l:=r) (by omega)) (aJ hi (aJ (eH rfl (by omega)) (aI ?_)))));rw[hrv]
     . intro c hc;dsimp only[Dt];exact cE (by omega) (aI rfl)
     . refine aJ (eb (by rw[cS];simp only[cN,dY];omega) (by decide)) (aI ?_);have e1:(vec s.n λi=>if i<j then gR s i else 0)=vec s.n λi=>if i<j+1 then gR s i else 0:=sc λi hi=>by
        by_cases e:i=j
        . subst e;rw[aQ (xk _),bA (xp _)];exact(aQ h1).symm
        . by_cases e2:i<j
          . rw[bA e2,bA (by omega)]
          . rw[aQ e2,aQ (by omega)]
       rw[e1];congr 1;unfold kV;rw[Lu,aQ h1,iC,iC];rfl
 . have:j=s.n:=by omega
   subst this;show(_,_)=_;rw[sc λi hi=>bA hi]
end
theorem S4{n:Nat}{l:List Constraint}(h:iS n l):Tm (λN=>zV N (n:Int) l) (FV n 1000000 (fE l)):=by
 have hlen:=h.len;have hL:iS n (fE l):=h.sub Ge λc hc=>(Ih hc).1;have hE:∀c∈fE l,c.eP=true:=λc hc=>(Ih hc).2;have hn:=h.hn;have hel:=hL.len;have hsl:=GS (n:=n) (l:=fE l)
 letI:cH:=⟨91002,by decide⟩
 have hKM:cH.k=91002:=rfl;unfold zV;refine aU (a:=l) (by unfold C5;exact aJ (eb (by simp only[dY];omega) (by decide)) (aI (jC _))) ?_;refine aU (Uw (by omega)) ?_;refine aU (a:=(iK n (fE l)).map AQ.to) ((J9 hL.okc (by omega)).mono λr hr=>hr.uniq (Ie hL.right)) ?_;refine aU (Pp (by omega) (by omega)) (Tm.bind (Rt hL.sys (by omega) (Xf hE)) ?_);rintro⟨ok,x⟩ ⟨s',hs',hcase⟩;dsimp only at hs' hcase⊢;subst hs';rcases hcase with⟨rfl,hinv⟩|⟨rfl,p,href⟩
 . refine cE (by simp) (Tm.bind (eLoop (s0:=nS n (iK n (fE l))) (s:=s') (f:=n) rfl hinv) ?_);rintro _ (⟨f',s2,rfl,hi2,hit⟩|⟨rfl,p,href⟩)
   . have hfin:=RQ hL hE hi2 hit;obtain⟨hn1,hst,hf,K,hG,hil,hkl,hK,hC,hF⟩:=hi2;dsimp only at hn1 hst hf hG hil hkl hK hC hF;have hu:=tT f';have hKK:K<=91002:=by omega
     have hb:j5 K (uB f') s2:=⟨by omega,by omega,by omega,hG.su,λq hq=>⟨hG.q q hq,hG.inv.kl q hq⟩,by omega⟩;have hval:∀j,dl (vf (vec n (gR s2)) j)<=uB f':=λj=>by
      rcases cG j n with h|h
      . rw[db h];unfold gR;split
        . exact hG.su.v.vf j
        . rw[fw];omega
      . rw[jA (by rw[dN];exact h),fw];omega
     show Tm (λN=>(fZ (α:=aC) 32 (aC.mk false []) (n:Int)).bind λx65=>(bO (yE N (n:Int) s2.to.aM s2.to.value s2.to.u) N (x65,([]:List (List aC)),0)).bind λss=>(mZ N (aS.mk (nS n (iK n (fE l))).to.n s2.to.aA s2.to.aV s2.to.u s2.to.aM s2.to.value s2.to.aB s2.to.aK) ss.1).bind λr472=>some (r472,ss.2,true)) _;refine aJ (iu (n:=n) rfl (by omega) (by decide)) (aU (R3 hb hn1) ?_);rw[iO (n:=(nS n (iK n (fE l))).to.n) (x:=s2.to) (by show(n:Int)=s2.n;rw[hn1])];refine aU (OJ hb (by rw[dN,hn1]) hval (by omega)) (aI ?_);have e:(vec s2.n λi=>ux s2 (vf (vec n (gR s2))) i)=vec n (ux s2 (gR s2)):=by
      rw[hn1];refine sc λi hi=>?_;unfold ux;rw[hn1];exact ed (λ_ _=>rfl) λj hj=>db hj
     rw[e];refine .some _ _ ⟨hfin.xl,λj=>bV (hfin.xd j) (by omega),hfin.xs,hfin.vl,λv hv=>⟨(hfin.v v hv).1,λj=>bV ((hfin.v v hv).2 j) (by omega)⟩,hfin.ker,hfin.ind,hfin.n7⟩
   . exact aI (.none p href)
 . exact cR rfl (aI (.none p href))
theorem Qo{l:List Constraint}(hl:l.length<=1000):Tm (λN=>zq N l) (·=fE l):=by
 unfold zq;refine aU (a:=fE l) (eE l.length (λk t=>t=(fE (l.take k),(k:Int))) rfl ?_) (aI rfl);rintro k hk _ rfl;dsimp only[Fs];refine bB (λhlt=>?_) (λhge=>aI ?_)
 . have hlt:k<l.length:=by omega
   have e2:fE (l.take (k+1))=fE (l.take k)++if l[k].eP=true then[l[k]]else[]:=by
    unfold fE;rw[<-jD hlt,sQ];congr 1;cases h:l[k].eP<;>simp[h]
   have hle:(fE (l.take k)).length<=k:=bV Ge (by rw[fm];omega);refine aJ (dt hlt) (bB (λh=>aJ (dt hlt) (aJ (eb (by simp only[cN,dY];omega) (by decide)) (aI ⟨hlt,?_⟩))) (λh=>aI ⟨hlt,?_⟩))
   . rw[dV (by omega),e2,bA h]
   . rw[dV (by omega),e2,aQ h,lH]
 . show _=_;rw[fx (by omega)]
theorem MP{c c':Constraint}{x:List Int}(h:c.Linear.bG=c'.Linear.bG):∀j,iU c x j=iU c' x j
 |0=>rfl
 |j+1=>by rw[iU,iU,MP h j,h]
theorem V0{n:Nat}{l:List Constraint}(h:iS n l){x:List Int}(hx:x.length=n)(hd:∀v∈x,dl v<=137438953472)(hk:∀c∈l,iU c x c.Linear.bG.length=0):Tm (λN=>zU N l (mB x)) (·=true):=by
 have hlen:=h.len;unfold zU;refine aU (a:=.inl ()) (Tm.each (body:=λN=>ye N l (mB x)) l (λ_=>True) (by omega) ?_ ?_) (by dsimp only;exact aI rfl)
 . intro i hi _;dsimp only[ye];have hc:=dC hi;have hs:=h.sum hx hd _ hc;refine cR (by omega) (aJ (dt hi) (Tm.bind (M8 (f:=⟨0,l[i].Linear.bG⟩) ⟨hs.len,by show fY 0;unfold fY;omega,hs.mL,hs.x⟩) ?_));rintro r ⟨r1,r2,r3⟩;have e:bv r=0:=by
    rw[r3,Hj (c:=⟨⟨0,l[i].Linear.bG⟩,true⟩),MP (c:=⟨⟨0,l[i].Linear.bG⟩,true⟩) (c':=l[i]) rfl];have:=hk _ hc;show 0+iU l[i] x l[i].Linear.bG.length=0;omega
   refine Tm.bind (mS r1 (by omega)) ?_;rintro _ rfl;exact cE (by rw[e];decide) (aI (.inl ⟨rfl,trivial⟩))
 . intro _;dsimp only[ye];exact cE (by omega) (aI ⟨_,rfl,rfl⟩)
theorem Th{p q:List Int}(hl:p.length<=1000)(hq:p.length<=q.length)(hp:∀j,dl (vf p j)<=cM)(hq':∀j,dl (vf q j)<=cM):Tm (λN=>zp N (mB p) (mB q)) (·=mB (vec p.length λj=>vf p j-vf q j)):=by
 unfold zp;refine aU (a:=mB (vec p.length λj=>vf p j-vf q j)) (eE p.length (λk t=>t=(mB (vec k λj=>vf p j-vf q j),(k:Int))) rfl ?_) (aI rfl);rintro k hk _ rfl;dsimp only[Ee];rw[dF];refine bB (λhlt=>?_) (λhge=>aI ?_)
 . have hlt:k<p.length:=by omega
   refine aJ (dX hlt) (aJ (dX (by omega)) (aU (N6 (hp k) (hq' k)) (aJ (eb (by rw[dF,dN];simp only[cN,dY];omega) (by decide)) (aI ⟨hlt,?_⟩))));rw[dV (by omega),Ey,El]
 . have:k=p.length:=by omega
   subst this;rfl
theorem Vk{n:Int}{l:List Constraint}{x:List Int}(hl:l.length<=9223372036854775807)
 (hc:∀c∈l,c.Linear.bG.length<=9223372036854775807/\fY c.Linear.Const/\∀k∈c.Linear.bG,fY k.N)(hxl:x.length<=9223372036854775807)(hx:∀v∈x,fY v):Tm (λN=>B8 N n l x) (·=true):=by
 have hLI:cM=1099511627776:=rfl;unfold B8;refine Tm.bind (Q:=λr=>r=false->Du n l 50/\(x.length:Int)=n) ?_ ?_
 . refine Tm.bind J6 ?_;rintro _ rfl;refine cE (by simp) (Tm.bind (TZ hl (λc h=>(hc c h).1) (by decide)) λr hr=>bB (λh=>aI λe=>(by cases e)) (λh=>aI λe=>⟨hr (by simpa using h),?_⟩));have:=xC e;omega
 . intro r hr;refine bB (λh=>Tm.bind J6 λr hr=>aI hr) (λh=>?_);obtain⟨hS,hxn⟩:=hr (by simpa using h);have h6:=hS.len;obtain⟨m,rfl,hL⟩:=hS.lok (by decide);have hxm:x.length=m:=by omega
   have hn:=hL.hn;have hLe:iS m (fE l):=hL.sub Ge λc hc=>(Ih hc).1;refine aU (Qo (by omega)) (aU (Jw (by omega) λc hc=>by have:=hL.cl hc;omega) (Tm.bind (S4 hL) ?_));intro r hr;cases hr with
   |none p hp=>
    refine cR rfl (Tm.bind (VO hLe) ?_);rintro⟨ok,right⟩ ⟨g1,g2⟩;dsimp only at g1 g2;subst g1;have:ok=false:=by
     cases ok with
     |false=>rfl
     |true=>exact bX (g2.1 rfl) (Ly hLe.right hp)
    subst this;exact cR rfl (cR rfl (cR rfl (aI rfl)))
   |some y vs hE=>
    have hvl:=hE.vl;have hyd:∀v∈y,dl v<=137438953472:=λv hv=>by
     obtain⟨j,_,rfl⟩:=gw hv;have:=hE.xd j;omega
    have hx2:∀j,dl (vf x j)<=2:=λj=>by
     rcases cG j x.length with h|h
     . have:=hx _ (gP h);unfold fY at this;exact Dy (by omega)
     . rw[jA h,fw];omega
    refine cE (by simp) ?_;dsimp only;refine aU (a:=false) (cE (by rw[dF,hE.xl];omega) (Tm.bind (Gf hLe hE.xl hyd) λr hr=>?_)) (cE (by simp) ?_)
    . obtain rfl:=hr.2 hE.xs;exact cE (by simp) (aI (sS (by rw[cS];omega)))
    . refine aU (a:=.inl ()) (Tm.each (body:=λN=>yU N (m:Int) (mB y,vs.map mB,true) (fE l)) (vs.map mB) (λ_=>True) (by rw[cS];omega) ?_ ?_) ?_
      . intro k hk _;have hk':k<vs.length:=by rwa[cS]at hk
        obtain⟨v1,v2⟩:=hE.v _ (dC hk');dsimp only[yU];refine cR (by omega) (aJ (dt hk) ?_);rw[k6];refine aU (a:=false) (cE (by rw[dF,v1];omega) (aU (V0 hLe v1 (λv hv=>?_) (hE.ker _ (dC hk'))) (aI rfl))) (cE (by simp) (aI (.inl ⟨rfl,trivial⟩)));obtain⟨j,_,rfl⟩:=gw hv;have:=v2 j;omega
      . intro _;dsimp only[yU];exact cE (by omega) (aI ⟨_,rfl,rfl⟩)
      . dsimp only;refine aU (N3 (by omega) hx) (Tm.bind (Gf hLe hxm λv hv=>?_) λr hr=>?_)
        . obtain⟨j,_,rfl⟩:=gw hv;have:=hx2 j;omega
        . refine bB (λh1=>?_) (λh1=>?_)
          . refine aJ (iu (n:=m) rfl (by omega) (by decide)) ?_;rw[<-nh];refine aU (Pq (D:=1000001) hn hvl (by omega) (λv hv=>⟨(hE.v v hv).1,λj=>by have:=(hE.v v hv).2 j;omega⟩) ⟨by simp,λj=>by rw[xg,fw];omega⟩ hE.ind ⟨λ_=>0,λi hi=>?_⟩) (aI rfl);rw[xg,kU];exact nZ λ_ _=>rfl
          . have hsx:=hr.1 (by simpa using h1);refine aU (N3 (by omega) hx) (aU (Th (by omega) (by rw[hE.xl];omega) (λj=>by have:=hx2 j;omega) (λj=>by have:=hE.xd j;omega)) ?_);rw[hxm];obtain⟨z,hz⟩:=hE.n7 x hxm hsx;refine aU (Pq (D:=1000001) hn hvl (by omega) (λv hv=>⟨(hE.v v hv).1,λj=>by have:=(hE.v v hv).2 j;omega⟩) ⟨dN,λj=>?_⟩ hE.ind ⟨z,λi hi=>by rw[db hi];exact hz i hi⟩) (aI rfl);rcases cG j m with h|h
            . rw[db h];have:=hx2 j;have:=hE.xd j;exact jX (K:=1000000) (by omega) (by omega)
            . rw[jA (by rw[dN];exact h),fw];omega
end Go.D
namespace Go.Proofs
open Go.Shelf
def Tryz.MK:Go.Shelf.Ren:=⟨λ|156=>122|165=>153|166=>154|169=>155|240=>176|241=>177|276=>185|277=>186|n=>n,λ|31=>158|9=>9|3=>3|4=>4|0=>0|20=>20|72=>196|76=>199|70=>193|37=>194|75=>198|127=>219|164=>230|5=>5|80=>201|n=>n,λ|n=>n⟩
theorem Tryz.OO:Go.Proofs.Lays.n156 Tryz.prog Tryz.MK:={
 mixed:=by kernel_rfl
 f156:=Tryz.func122.trans (dd some (by kernel_rfl))
 f165:=Tryz.func153.trans (dd some (by kernel_rfl))
 f166:=Tryz.func154.trans (dd some (by kernel_rfl))
 f169:=Tryz.func155.trans (dd some (by kernel_rfl))
 f240:=Tryz.func176.trans (dd some (by kernel_rfl))
 f241:=Tryz.func177.trans (dd some (by kernel_rfl))
 f276:=Tryz.func185.trans (dd some (by kernel_rfl))
 f277:=Tryz.func186.trans (dd some (by kernel_rfl))
 t0:=Tryz.underlying0
 a0:=Tryz.isAgg0
 z0:=Tryz.sizeOf0
 v0:=Tryz.zeroValue0
 t3:=Tryz.underlying3
 a3:=Tryz.isAgg3
 z3:=Tryz.sizeOf3
 v3:=Tryz.zeroValue3
 t4:=Tryz.underlying4
 a4:=Tryz.isAgg4
 z4:=Tryz.sizeOf4
 v4:=Tryz.zeroValue4
 t9:=Tryz.underlying9
 a9:=Tryz.isAgg9
 z9:=Tryz.sizeOf9
 v9:=Tryz.zeroValue9
 t20:=Tryz.underlying20
 a20:=Tryz.isAgg20
 z20:=Tryz.sizeOf20
 v20:=Tryz.zeroValue20
 t31:=Tryz.underlying158
 a31:=Tryz.isAgg158
 z31:=Tryz.sizeOf158
 v31:=Tryz.zeroValue158
 t37:=Tryz.underlying194
 a37:=Tryz.isAgg194
 z37:=Tryz.sizeOf194
 v37:=Tryz.zeroValue194
 t70:=Tryz.underlying193
 a70:=Tryz.isAgg193
 z70:=Tryz.sizeOf193
 v70:=Tryz.zeroValue193
 t72:=Tryz.underlying196
 a72:=Tryz.isAgg196
 z72:=Tryz.sizeOf196
 v72:=Tryz.zeroValue196
 t75:=Tryz.underlying198
 a75:=Tryz.isAgg198
 z75:=Tryz.sizeOf198
 v75:=Tryz.zeroValue198
 t76:=Tryz.underlying199
 a76:=Tryz.isAgg199
 z76:=Tryz.sizeOf199
 v76:=Tryz.zeroValue199
 t127:=Tryz.underlying219
 a127:=Tryz.isAgg219
 z127:=Tryz.sizeOf219
 v127:=Tryz.zeroValue219
 t164:=Tryz.underlying230
 a164:=Tryz.isAgg230
 z164:=Tryz.sizeOf230
 v164:=Tryz.zeroValue230}
theorem Tryz.JO:Builder.Extra Tryz.prog Tryz.MK:={
 sizeBuilder:=by kernel_rfl
 liesBuilder:=by kernel_rfl
 t5:=Tryz.underlying5
 a5:=Tryz.isAgg5
 z5:=Tryz.sizeOf5
 v5:=Tryz.zeroValue5
 infoByte:=by kernel_rfl
 cellsByte:=by kernel_rfl
 sizeByte:=by kernel_rfl
 neB5:=by decide}
open Go.RowKit in
theorem Tryz.strings_Join_none(a:Option Addr)(c:Nat)(sep:ByteArray)(w:World):
 Calls Tryz.prog 122 #[.slice a 0 c,.string sep] w λe w'=>e=.returned (.string ⟨#[]⟩)/\w'=w:=Any.strings_Join_none Tryz.OO Tryz.JO a c sep w
open Go.RowKit in
theorem Tryz.strings_Join(bk o c:Nat)(xs:List ByteArray)(sep:ByteArray)(w:World)(hcells:∀(j:Nat) x,xs[j]?=some x->w.cell? ⟨bk,o+j,none⟩=some (.string x))(hbk:bk<w.heap.size)(hN:xs.length<=140737488355328)(hcap:xs.length<=c)(hlen:(Lib.join (xs.map (·.data.toList)) sep.data.toList).length<=140737488355328):
 Calls Tryz.prog 122 #[.slice (some ⟨bk,o,none⟩) xs.length c,.string sep] w λe w'=>e=.returned (.string ⟨(Lib.join (xs.map (·.data.toList)) sep.data.toList).toArray⟩)/\Below w.heap.size w w':=Any.strings_Join Tryz.OO Tryz.JO bk o c xs sep w hcells hbk hN hcap hlen
def Tryz.Uu:Go.Shelf.Ren:=⟨λ|283=>178|n=>n,λ|3=>3|9=>9|4=>4|n=>n,λ|n=>n⟩
theorem Tryz.Rh:Go.Proofs.Lays.n283 Tryz.prog Tryz.Uu:={
 mixed:=by kernel_rfl
 f283:=Tryz.func178.trans (dd some (by kernel_rfl))
 t3:=Tryz.underlying3
 a3:=Tryz.isAgg3
 z3:=Tryz.sizeOf3
 v3:=Tryz.zeroValue3
 t4:=Tryz.underlying4
 a4:=Tryz.isAgg4
 z4:=Tryz.sizeOf4
 v4:=Tryz.zeroValue4
 t9:=Tryz.underlying9
 a9:=Tryz.isAgg9
 z9:=Tryz.sizeOf9
 v9:=Tryz.zeroValue9}
open Go.Lib in
theorem Tryz.internal_strconv_small(i:Nat)(h:i<100)(w:World):
 Calls Tryz.prog 178 #[.int .i64 i] w λe w'=>e=.returned (.string ⟨(Lib.decDigits i).toArray⟩)/\w'=w:=Any.internal_strconv_small Tryz.Rh i h w
def Tryz.Sp:Go.Shelf.Ren:=⟨λ|284=>179|129=>188|317=>187|318=>189|n=>n,λ|53=>87|3=>3|212=>234|0=>0|4=>4|46=>112|5=>5|9=>9|n=>n,λ|17=>0|n=>n⟩
theorem Tryz.VI:Go.Proofs.LaysM.n284 Tryz.prog Tryz.Sp:={
 mixed:=by kernel_rfl
 f129:=Tryz.func188.trans (dd some (by kernel_rfl))
 f284:=Tryz.func179.trans (dd some (by kernel_rfl))
 f317:=Tryz.func187.trans (dd some (by kernel_rfl))
 f318:=Tryz.func189.trans (dd some (by kernel_rfl))
 t0:=Tryz.underlying0
 a0:=Tryz.isAgg0
 z0:=Tryz.sizeOf0
 v0:=Tryz.zeroValue0
 t3:=Tryz.underlying3
 a3:=Tryz.isAgg3
 z3:=Tryz.sizeOf3
 v3:=Tryz.zeroValue3
 t4:=Tryz.underlying4
 a4:=Tryz.isAgg4
 z4:=Tryz.sizeOf4
 v4:=Tryz.zeroValue4
 t5:=Tryz.underlying5
 a5:=Tryz.isAgg5
 z5:=Tryz.sizeOf5
 v5:=Tryz.zeroValue5
 t9:=Tryz.underlying9
 a9:=Tryz.isAgg9
 z9:=Tryz.sizeOf9
 v9:=Tryz.zeroValue9
 t46:=Tryz.underlying112
 a46:=Tryz.isAgg112
 z46:=Tryz.sizeOf112
 v46:=Tryz.zeroValue112
 t53:=Tryz.underlying87
 a53:=Tryz.isAgg87
 z53:=Tryz.sizeOf87
 v53:=Tryz.zeroValue87
 t212:=Tryz.underlying234
 a212:=Tryz.isAgg234
 z212:=Tryz.sizeOf234
 v212:=Tryz.zeroValue234
 g17:=by kernel_rfl
 i0:=by kernel_rfl
 i3:=by kernel_rfl
 i4:=by kernel_rfl
 i5:=by kernel_rfl
 i9:=by kernel_rfl
 i46:=by kernel_rfl
 i53:=by kernel_rfl
 i212:=by kernel_rfl
 m17:=by kernel_rfl}
open Go.Lib in
theorem Tryz.internal_strconv_numDigits(u:Nat)(h1:1<=u)(h2:u<18446744073709551616)(w:World)(htab:Lib.TabIs Tryz.prog w "internal/strconv.uint64pow10" .u64 Lib.pow10Tab):
 Calls Tryz.prog 179 #[.int .u64 u] w λe w'=>e=.returned (.int .i64 (Lib.nDigits u))/\w'=w:=Any.internal_strconv_numDigits Tryz.VI u h1 h2 w htab
def Tryz.RK:Go.Shelf.Ren:=⟨λ|285=>180|n=>n,λ|37=>194|53=>87|3=>3|4=>4|51=>86|9=>9|5=>5|0=>0|n=>n,λ|n=>n⟩
theorem Tryz.RM:Go.Proofs.Lays.n285 Tryz.prog Tryz.RK:={
 mixed:=by kernel_rfl
 f285:=Tryz.func180.trans (dd some (by kernel_rfl))
 t0:=Tryz.underlying0
 a0:=Tryz.isAgg0
 z0:=Tryz.sizeOf0
 v0:=Tryz.zeroValue0
 t3:=Tryz.underlying3
 a3:=Tryz.isAgg3
 z3:=Tryz.sizeOf3
 v3:=Tryz.zeroValue3
 t4:=Tryz.underlying4
 a4:=Tryz.isAgg4
 z4:=Tryz.sizeOf4
 v4:=Tryz.zeroValue4
 t5:=Tryz.underlying5
 a5:=Tryz.isAgg5
 z5:=Tryz.sizeOf5
 v5:=Tryz.zeroValue5
 t9:=Tryz.underlying9
 a9:=Tryz.isAgg9
 z9:=Tryz.sizeOf9
 v9:=Tryz.zeroValue9
 t37:=Tryz.underlying194
 a37:=Tryz.isAgg194
 z37:=Tryz.sizeOf194
 v37:=Tryz.zeroValue194
 t51:=Tryz.underlying86
 a51:=Tryz.isAgg86
 z51:=Tryz.sizeOf86
 v51:=Tryz.zeroValue86
 t53:=Tryz.underlying87
 a53:=Tryz.isAgg87
 z53:=Tryz.sizeOf87
 v53:=Tryz.zeroValue87}
open Go.RowKit Go.Sort Go.Lib in
theorem Tryz.internal_strconv_formatBase10(dP off cap:Nat)(u:Nat)(d:Array UInt8)(w:World)(hH:Holds (λ(b:UInt8)=>Value.int .u8 (b.toNat:Int)) w dP off d)(hu:u<10^d.size)(hu64:u<18446744073709551616)(hsz:d.size<4611686018427387904):
 Calls Tryz.prog 180 #[.slice (some ⟨dP,off,none⟩) d.size cap,.int .u64 u] w λe w'=>
  e=.returned (.tuple #[])/\∃(n v':Nat) (dk:Array UInt8),w'=(putRow (λ(b:UInt8)=>Value.int .u8 (b.toNat:Int)) w dP off dk).drewN n/\FmtInv d.size u 0 v' dk:=Any.internal_strconv_formatBase10 Tryz.RM dP off cap u d w hH hu hu64 hsz
def Tryz.Mj:Go.Shelf.Ren:=⟨λ|105=>151|212=>173|99=>174|165=>153|166=>154|170=>175|169=>155|263=>182|264=>183|206=>184|240=>176|241=>177|276=>185|277=>186|n=>n,λ|9=>9|3=>3|4=>4|20=>20|0=>0|46=>112|109=>215|5=>5|72=>196|76=>199|51=>86|146=>226|53=>87|148=>228|70=>193|37=>194|75=>198|127=>219|164=>230|80=>201|n=>n,λ|n=>n⟩
theorem Tryz.SJ:Go.Proofs.Lays.n105 Tryz.prog Tryz.Mj:={
 mixed:=by kernel_rfl
 f99:=Tryz.func174.trans (dd some (by kernel_rfl))
 f105:=Tryz.func151.trans (dd some (by kernel_rfl))
 f165:=Tryz.func153.trans (dd some (by kernel_rfl))
 f166:=Tryz.func154.trans (dd some (by kernel_rfl))
 f169:=Tryz.func155.trans (dd some (by kernel_rfl))
 f170:=Tryz.func175.trans (dd some (by kernel_rfl))
 f206:=Tryz.func184.trans (dd some (by kernel_rfl))
 f212:=Tryz.func173.trans (dd some (by kernel_rfl))
 f240:=Tryz.func176.trans (dd some (by kernel_rfl))
 f241:=Tryz.func177.trans (dd some (by kernel_rfl))
 f263:=Tryz.func182.trans (dd some (by kernel_rfl))
 f264:=Tryz.func183.trans (dd some (by kernel_rfl))
 f276:=Tryz.func185.trans (dd some (by kernel_rfl))
 f277:=Tryz.func186.trans (dd some (by kernel_rfl))
 t0:=Tryz.underlying0
 a0:=Tryz.isAgg0
 z0:=Tryz.sizeOf0
 v0:=Tryz.zeroValue0
 t3:=Tryz.underlying3
 a3:=Tryz.isAgg3
 z3:=Tryz.sizeOf3
 v3:=Tryz.zeroValue3
 t4:=Tryz.underlying4
 a4:=Tryz.isAgg4
 z4:=Tryz.sizeOf4
 v4:=Tryz.zeroValue4
 t5:=Tryz.underlying5
 a5:=Tryz.isAgg5
 z5:=Tryz.sizeOf5
 v5:=Tryz.zeroValue5
 t9:=Tryz.underlying9
 a9:=Tryz.isAgg9
 z9:=Tryz.sizeOf9
 v9:=Tryz.zeroValue9
 t20:=Tryz.underlying20
 a20:=Tryz.isAgg20
 z20:=Tryz.sizeOf20
 v20:=Tryz.zeroValue20
 t37:=Tryz.underlying194
 a37:=Tryz.isAgg194
 z37:=Tryz.sizeOf194
 v37:=Tryz.zeroValue194
 t46:=Tryz.underlying112
 a46:=Tryz.isAgg112
 z46:=Tryz.sizeOf112
 v46:=Tryz.zeroValue112
 t51:=Tryz.underlying86
 a51:=Tryz.isAgg86
 z51:=Tryz.sizeOf86
 v51:=Tryz.zeroValue86
 t53:=Tryz.underlying87
 a53:=Tryz.isAgg87
 z53:=Tryz.sizeOf87
 v53:=Tryz.zeroValue87
 t70:=Tryz.underlying193
 a70:=Tryz.isAgg193
 z70:=Tryz.sizeOf193
 v70:=Tryz.zeroValue193
 t72:=Tryz.underlying196
 a72:=Tryz.isAgg196
 z72:=Tryz.sizeOf196
 v72:=Tryz.zeroValue196
 t75:=Tryz.underlying198
 a75:=Tryz.isAgg198
 z75:=Tryz.sizeOf198
 v75:=Tryz.zeroValue198
 t76:=Tryz.underlying199
 a76:=Tryz.isAgg199
 z76:=Tryz.sizeOf199
 v76:=Tryz.zeroValue199
 t109:=Tryz.underlying215
 a109:=Tryz.isAgg215
 z109:=Tryz.sizeOf215
 v109:=Tryz.zeroValue215
 t127:=Tryz.underlying219
 a127:=Tryz.isAgg219
 z127:=Tryz.sizeOf219
 v127:=Tryz.zeroValue219
 t146:=Tryz.underlying226
 a146:=Tryz.isAgg226
 z146:=Tryz.sizeOf226
 v146:=Tryz.zeroValue226
 t148:=Tryz.underlying228
 a148:=Tryz.isAgg228
 z148:=Tryz.sizeOf228
 v148:=Tryz.zeroValue228
 t164:=Tryz.underlying230
 a164:=Tryz.isAgg230
 z164:=Tryz.sizeOf230
 v164:=Tryz.zeroValue230}
theorem Tryz.SX:Builder.Extra Tryz.prog Tryz.Mj:={
 sizeBuilder:=by kernel_rfl
 liesBuilder:=by kernel_rfl
 t5:=Tryz.underlying5
 a5:=Tryz.isAgg5
 z5:=Tryz.sizeOf5
 v5:=Tryz.zeroValue5
 infoByte:=by kernel_rfl
 cellsByte:=by kernel_rfl
 sizeByte:=by kernel_rfl
 neB5:=by decide}
open Go.RowKit Go.Lib in
theorem Tryz.strings_Repeat(s:ByteArray)(c:Nat)(w:World)(hc:c<=9223372036854775807)(hlen:s.size*c<=140737488355328):
 Calls Tryz.prog 151 #[.string s,.int .i64 c] w λe w'=>e=.returned (.string ⟨(Lib.repeatL s.data.toList c).toArray⟩)/\Below w.heap.size w w':=Any.strings_Repeat Tryz.SJ Tryz.SX s c w hc hlen
def Tryz.VC:Go.Shelf.Ren:=⟨λ|17=>152|n=>n,λ|24=>158|9=>9|3=>3|4=>4|0=>0|n=>n,λ|n=>n⟩
theorem Tryz.KG:Go.Proofs.Lays2.n17 Tryz.prog Tryz.VC:={
 mixed:=by kernel_rfl
 f17:=Tryz.func152.trans (dd some (by kernel_rfl))
 t0:=Tryz.underlying0
 a0:=Tryz.isAgg0
 z0:=Tryz.sizeOf0
 v0:=Tryz.zeroValue0
 t3:=Tryz.underlying3
 a3:=Tryz.isAgg3
 z3:=Tryz.sizeOf3
 v3:=Tryz.zeroValue3
 t4:=Tryz.underlying4
 a4:=Tryz.isAgg4
 z4:=Tryz.sizeOf4
 v4:=Tryz.zeroValue4
 t9:=Tryz.underlying9
 a9:=Tryz.isAgg9
 z9:=Tryz.sizeOf9
 v9:=Tryz.zeroValue9
 t24:=Tryz.underlying158
 a24:=Tryz.isAgg158
 z24:=Tryz.sizeOf158
 v24:=Tryz.zeroValue158}
open Go.RowKit Go.Lib Go.Sort in
theorem Tryz.slices_Reverse_string(dP off cap:Nat)(zs:List (List UInt8))(w:World)(hH:Holds encStr w dP off zs.toArray)(hsz:zs.length<=9223372036854775807):
 Calls Tryz.prog 152 #[.slice (some ⟨dP,off,none⟩) zs.length cap] w λe w'=>e=.returned (.tuple #[])/\∃n,w'=putRow encStr (Sort.ahead w n) dP off zs.reverse.toArray:=Any.slices_Reverse_string Tryz.KG dP off cap zs w hH hsz
open Go.RowKit Go.Lib Go.Sort in
theorem Tryz.slices_Reverse_string_empty(a:Option Addr)(cap:Nat)(w:World):
 Calls Tryz.prog 152 #[.slice a 0 cap] w λe w'=>e=.returned (.tuple #[])/\w'=w:=Any.slices_Reverse_string_empty Tryz.KG a cap w
end Go.Proofs
namespace Go.Proofs.YtipdkfmhfakbnaaGreatDoor.F
open Go Go.Shelf Go.RowKit Go.Sort Go.Lib Go.Proofs
set_option maxHeartbeats 6400000 in
set_option maxRecDepth 100000 in
theorem fmtU(u:Nat)(hu64:u<18446744073709551616)(w:World)
 (htab:Lib.TabIs Tryz.prog w "internal/strconv.uint64pow10" .u64 Lib.pow10Tab):
 Calls Tryz.prog 172 #[.int .u64 u,.int .i64 10] w λe w'=>e=.returned (.string ⟨(Lib.decDigits u).toArray⟩)/\∃k os,w'=grow (w.drewN k) os:=by
 by_cases hs:u<100
 . go_enter Tryz.func172,Tryz.ntmps172
   go_wp2_with (refine(Tryz.internal_strconv_small u hs _).mono ?_;rintro e w' ⟨rfl,rfl⟩)
   go_ret
   exact⟨rfl,0,#[],by simp[World.drewN_zero]⟩
 . have hu1:1<=u:=by omega
   have hnd20:Lib.nDigits u<=20:=by have:=Lib.numDigits_eq u hu1 hu64;split at this<;>omega
   have hal:Tryz.prog.arrayLen 221=24:=by simp[Program.arrayLen,Tryz.underlying221]
   have hsl1:∀W,(Instr.sliceAt 221 (.pointer (some ⟨w.heap.size,0,none⟩)) none (some (.int .i64 (Lib.nDigits u:Int))) none).run Tryz.prog W=.ok (.slice (some ⟨w.heap.size,0,none⟩) (Lib.nDigits u) 24) W:=λW=>by
    rw[run_sliceAt_array_h W 221 ⟨w.heap.size,0,none⟩ (by simp[Program.arrayLen,Program.elem,Tryz.underlying221]) .i64 (Lib.nDigits u:Int) (by omega) (by rw[hal];omega)]
    go_simp
   have hH0:=Lib.holds_zero0 w 221 (Lib.nDigits u) (by omega);have hfmt:=Tryz.internal_strconv_formatBase10 w.heap.size 0 24 u (Array.replicate (Lib.nDigits u) 0) (w.alloc (.cells Lib.zeros24 221)) hH0 (by rw[Ja];exact Lib.lt_pow_nDigits u) hu64 (by rw[Ja];omega);rw[Ja]at hfmt;have HH0:=Lib.hid hH0;clear hH0 hal
   go_enter Tryz.func172,Tryz.ntmps172
   go_wp2_with (first
    |(refine(Tryz.internal_strconv_numDigits u hu1 hu64 _ (Lib.tabIs_alloc htab _)).mono ?_;rintro e w' ⟨rfl,rfl⟩))
   refine hfmt.mono ?_;rintro e w' ⟨rfl,k,v',dk,rfl,hF⟩;have hcv:(convert 194 9 (.slice (some ⟨w.heap.size,0,none⟩) (Lib.nDigits u) 24)).run Tryz.prog ((putRow (λ(b:UInt8)=>Value.int .u8 (b.toNat:Int)) (w.alloc (.cells Lib.zeros24 221)) w.heap.size 0 dk).drewN k)=.ok (.string ⟨(Lib.decDigits u).toArray⟩) ((putRow (λ(b:UInt8)=>Value.int .u8 (b.toNat:Int)) (w.alloc (.cells Lib.zeros24 221)) w.heap.size 0 dk).drewN k):=by
    have h:=run_convert_bytes_back (P:=Tryz.prog) ((putRow (λ(b:UInt8)=>Value.int .u8 (b.toNat:Int)) (w.alloc (.cells Lib.zeros24 221)) w.heap.size 0 dk).drewN k) 194 9 5 ⟨w.heap.size,0,none⟩ 24 (Lib.decDigits u) Tryz.underlying194 Tryz.underlying5 Tryz.underlying9 (λj hj=>by
     rw[Lib.row_is_numeral hF j hj,Lib.add_plain,World.cell?_drewN];exact cell?_putRow (λ(b:UInt8)=>Value.int .u8 (b.toNat:Int)) _ w.heap.size 0 _ dk HH0.out (by rw[hF.size,Ja]) j (by rw[hF.size];rw[Lib.decDigits_length]at hj;exact hj))
    rw[Lib.decDigits_length]at h;exact h
   go_wp2
   go_ret
   obtain⟨os,eo⟩:=Lib.fin_at w (.cells Lib.zeros24 221) dk k 0;exact⟨rfl,k,os,eo⟩
theorem Rk(u:Nat)(hu64:u<18446744073709551616)(w:World)
 (htab:Lib.TabIs Tryz.prog w "internal/strconv.uint64pow10" .u64 Lib.pow10Tab):
 Calls Tryz.prog 150 #[.int .u64 u,.int .i64 10] w λe w'=>e=.returned (.string ⟨(Lib.decDigits u).toArray⟩)/\∃k os,w'=grow (w.drewN k) os:=by
 go_enter Tryz.func150,Tryz.ntmps150
 go_wp2_with (refine(fmtU u hu64 _ htab).mono ?_;rintro e w' ⟨rfl,k,os,rfl⟩)
 go_ret
 exact⟨rfl,k,os,rfl⟩
end Go.Proofs.YtipdkfmhfakbnaaGreatDoor.F
set_option maxRecDepth 100000
namespace Go.X
open Go Go.RowKit Go.Sort Go.Lib Go.Proofs
theorem cz.strs{H:Hp}:∀{cs:List Value} {xs:List (List UInt8)},cz iy H cs xs->cs=xs.map (λx=>Value.string (s8 x))
 |_,[],h=>h
 |_,x::xs,⟨a,b,h1,h2,h3⟩=>by rw[h1,show a=[.string (s8 x)] from h2,h3.strs];rfl
theorem cz.Mz{H:Hp}:∀(xs:List (List UInt8)),cz iy H (xs.map (λx=>Value.string (s8 x))) xs
 |[]=>rfl
 |x::xs=>⟨[.string (s8 x)],_,rfl,rfl,cz.Mz xs⟩
theorem WS(w:World)(k:Nat)(os:Array Obj):Ext w (grow (w.drewN k) os):=
 ⟨rfl,rfl,rfl,by simp[grow,World.drewN],λg hg=>Lib.heap_grow_old w k os g hg⟩
theorem Su{xs ys:List (List UInt8)}{sp:List Value}(hl:ys.length=xs.length):
 putCells encStr 0 ys.toArray ((xs.map (λx=>Value.string (s8 x))++sp).toArray)=(ys.map (λx=>Value.string (s8 x))++sp).toArray:=by
 apply Array.ext_getElem?;intro k;simp only[putCells,Array.getElem?_mapIdx,xi,fI,true_and,ff,Nat.sub_zero,List.size_toArray];rcases cG k ys.length with h|h
 . rw[kW (by simp;omega),kW (by simpa using h)];have h2:k<xs.length:=by omega
   simp only[iA,cy h2,cy h,pL,bA h,uT];rw[getElem!_pos _ k (by simpa using h)];simp[encStr,s8]
 . rw[pJ (by simp;omega),pJ (by simpa using h)];simp only[cS,hl];cases hs:sp[k-xs.length]?with
   |none=>rfl
   |some v=>simp only[pL];rw[aQ (by omega)]
end Go.X
namespace Go.Proofs.YtipdkfmhfakbnaaGreatDoor.FS
open Go Go.RowKit Go.Sort Go.Lib Go.Proofs Go.X Go.D Go.Q Go.Proofs.YtipdkfmhfakbnaaGreatDoor.TB
theorem en150:Go.X.Enters Tryz.prog 150:=⟨Tryz.f150,Tryz.func150,by kernel_rfl,by kernel_rfl⟩
theorem en151:Go.X.Enters Tryz.prog 151:=⟨Tryz.f151,Tryz.func151,by kernel_rfl,by kernel_rfl⟩
theorem en122:Go.X.Enters Tryz.prog 122:=⟨Tryz.f122,Tryz.func122,by kernel_rfl,by kernel_rfl⟩
theorem en152:Go.X.Enters Tryz.prog 152:=⟨Tryz.f152,Tryz.func152,by kernel_rfl,by kernel_rfl⟩
theorem R8(N:Nat)(i b:Int)(r:List UInt8)(h:za N i b=some r):Cn Tryz.prog 150 [sI .u64 i,sI .i64 b] [] [sT r]:=by
 refine Xu en150 λν H w l ht hl=>?_;obtain⟨a,_,rfl,⟨h1,h2⟩,a2,_,rfl,⟨h3,h4⟩,rfl⟩:=hl;subst h1 h3;unfold za at h;split at h
 . rename_i hc;obtain⟨h0,h1,rfl⟩:=hc;obtain⟨u,rfl⟩:=sM h0;cases h;refine(F.Rk u (by omega) w (Qj ht)).mono ?_;rintro e w' ⟨rfl,k,os,rfl⟩;exact⟨[_],rfl,WS w k os,λν' H'=>⟨_,[],rfl,⟨rfl,rfl⟩,rfl⟩⟩
 . cases h
theorem XK(N:Nat)(s:List UInt8)(c:Int)(r:List UInt8)(h:zB N s c=some r):Cn Tryz.prog 151 [sT s,sI .i64 c] [] [sT r]:=by
 refine Ql en151 λν H w l hl=>?_;obtain⟨a,_,rfl,⟨h1,h2⟩,a2,_,rfl,⟨h3,h4⟩,rfl⟩:=hl;subst h1 h3;unfold zB at h;split at h
 . rename_i hc;obtain⟨h0,h1,h2⟩:=hc;obtain⟨u,rfl⟩:=sM h0;cases h;refine(Tryz.strings_Repeat (s8 s) u w (by omega) (by rw[yp];exact Int.ofNat_le.1 (by rw[ID];exact h2))).mono ?_;rintro e w' ⟨rfl,hB⟩;exact⟨[_],rfl,hB,λν' H'=>⟨_,[],rfl,⟨rfl,rfl⟩,rfl⟩⟩
 . cases h
theorem O3(N:Nat)(xs:List (List UInt8))(s r:List UInt8)(h:rJ N xs s=some r):Cn Tryz.prog 122 [sR iy false xs,sT s] [] [sT r]:=by
 refine TK en122 λν H w l hv hl=>?_;obtain⟨v,_,rfl,hs,a2,_,rfl,⟨h3,h4⟩,rfl⟩:=hl;subst h3;unfold rJ at h;split at h
 . rename_i hc;obtain⟨h0,h1⟩:=hc;cases h;have hx:∀l:List (List UInt8),(l.map s8).map (·.data.toList)=l:=λl=>by rw[nF];exact(Ap λx _=>by simp[s8]).trans (List.map_id l)
   have hj0:Calls Tryz.prog 122 #[v,.string (s8 s)] w λe w'=>e=.returned (.string (s8 (Lib.join xs s)))/\Ext w w':=by
    have hs:Rs iy (H false) v xs:=hs;rcases hs with⟨⟨oa,rfl⟩,rfl⟩|⟨b,o,cap,rfl,hcap,hxs⟩
    . refine(Tryz.strings_Join_none oa 0 (s8 s) w).mono ?_;rintro e w' ⟨rfl,rfl⟩;exact⟨by simp[Lib.join,s8],Ext.refl _⟩
    . have hcell:∀(j:Nat) x,(xs.map s8)[j]?=some x->w.cell? ⟨b,o+j,none⟩=some (.string x):=by
       intro j x hj;rw[iA]at hj;cases hx1:xs[j]?with
       |none=>rw[hx1]at hj;cases hj
       |some y=>
        rw[hx1]at hj;cases hj;obtain⟨vs,-,hA,hv'⟩:=hxs j y hx1;have hv':vs=[.string (s8 y)]:=hv';have h3:=hA.get 0 (v:=.string (s8 y)) (by rw[hv'];rfl);have h4:=zM (A:=[]) (yf (hv false) h3);rw[show o+j*iy.sz+0=o+j from by show o+j*1+0=o+j;omega]at h4;exact h4
      cases xs with
      |nil=>
       refine(Tryz.strings_Join_none (some ⟨b,o,none⟩) cap (s8 s) w).mono ?_;rintro e w' ⟨rfl,rfl⟩;exact⟨by simp[Lib.join,s8],Ext.refl _⟩
      |cons y ys=>
       have hb:b<w.heap.size:=by
        have h5:=hcell 0 (s8 y) rfl;rcases cG b w.heap.size with h6|h6
        . exact h6
        . simp[World.cell?,DK h6]at h5
       have h7:=Tryz.strings_Join b o cap ((y::ys).map s8) (s8 s) w hcell hb (by simpa using h0) (by simpa using hcap) (by rw[hx];exact h1);rw[hx,cS]at h7;exact h7
   exact hj0.mono λe w' ⟨he,hE⟩=>⟨[_],he,hE,λν' H'=>⟨_,[],rfl,⟨rfl,rfl⟩,rfl⟩⟩
 . cases h
theorem UE(N:Nat)(xs r:List (List UInt8))(h:yb N xs=some r):Cx Tryz.prog 152 [sO 0] [.row iy true xs] [(0,some (.row iy true r))] []:=by
  obtain⟨hs,rfl⟩:=Vp h;refine⟨en152,λX w H ν l hν hS hl=>?_⟩;obtain⟨v,_,rfl,⟨b,c,n,p1,rfl⟩,rfl⟩:=hl;obtain⟨b',c',n',k,q1,q2,q3⟩:=hS.dD 0 _ rfl;rw[p1]at q1;cases q1;obtain⟨rfl,e0,cs,sp,rfl,e3,e4⟩:=q3;have hcs:=e3.strs;have fin:∀w',Go.X.Loc [b] [] w w' [b] [.cells ([]++(xs.reverse.map (λx=>Value.string (s8 x))++sp))]->zl X w H ν 1 [(0,some (.row iy true xs.reverse))] [] [] w':=by
    intro w' hL;obtain⟨g1,g2⟩:=hS.mod (ob:=.row iy true xs.reverse) rfl rfl p1 hL (λH' hH=>⟨by simp,e0,xs.reverse.map (λx=>Value.string (s8 x)),sp,rfl,cz.Mz _,by rw[<-e4,hcs];simp⟩);refine⟨ν,λ_ _=>rfl,?_,rfl⟩;have:aW [(0,some (Ob.row iy true xs.reverse))]=bS [(0,some (Ob.row iy true xs.reverse))] (aW (eZ 0 [Ob.row iy true xs])):=by
      funext t;show(bif Nat.beq t 0 then _ else none)=(bif Nat.beq t 0 then _ else(bif Nat.beq t 0 then _ else none));cases Nat.beq t 0<;>rfl
    rw[this];exact g1
  cases b with
  |none=>
    have h0:[]++(cs++sp)=[]:=q2;have hcs0:cs=[]:=by simp at h0;exact h0.1
    have hx0:xs=[]:=by rw[hcs0]at hcs;cases xs with|nil=>rfl|cons _ _=>cases hcs
    subst hx0;refine(Tryz.slices_Reverse_string_empty none 0 w).mono ?_;rintro e w' ⟨rfl,rfl⟩;refine⟨[],rfl,fin _ ?_⟩;have:=jT q2;rw[hcs0]at this;exact this
  |some b=>
    have hH:Holds encStr w b 0 xs.toArray:=by
      intro j hj;have hj':j<xs.length:=by simpa using hj
      have hcell:([]++(cs++sp))[0+j]?=some (Value.string (s8 xs[j])):=by
        rw[jC,hcs,ff,kW (by simpa using hj'),iA,cy hj'];rfl
      refine⟨?_,?_⟩
      . rw[tp q2 hcell,getElem!_pos _ j hj];rfl
      . obtain⟨t,lo,hi,h1,h2,h3⟩:=q2
        have := h3 (0 + j) (by rcases cG (0 + j) ([] ++ (cs ++ sp)).length with h | h; · exact h
                               . rw[gm h]at hcell;cases hcell)
        simp[World.frozen?,h1];omega
    refine(Tryz.slices_Reverse_string b 0 c xs w hH hs).mono ?_;rintro e w' ⟨rfl,n,rfl⟩;refine⟨[],rfl,fin _ ?_⟩;have hL:=jT q2;obtain⟨t,lo,hi,h1,h2,h3⟩:=q2;have hlen:(xs.reverse.map (λx=>Value.string (s8 x))++sp).length=(cs++sp).length:=by rw[hcs];simp
    exact(hL.put (w':=putRow encStr (Sort.ahead w n) b 0 xs.reverse.toArray) 0 rfl (c':=.cells ([]++(xs.reverse.map (λx=>Value.string (s8 x))++sp)))
      ⟨t,lo,hi,by
        simp only[putRow,mapBlock,Sort.ahead,PC,if_true,h1,pL,onCells,jC];rw[hcs,Su (by simp)],h2,λj hj=>h3 j (by rw[jC]at hj⊢;rw[<-hlen];exact hj)⟩
      (λk hk=>by simp[putRow,mapBlock,Sort.ahead,PC,Ne.symm hk]) (by simp[putRow,mapBlock,Sort.ahead]) rfl rfl rfl).1
end Go.Proofs.YtipdkfmhfakbnaaGreatDoor.FS
namespace Go.X
open Go Go.RowKit
def oQ(rd:Option Nat):Fence:={fn:=λ_=>True,depth:=none,alive:=false,round:=rd}
theorem KR{rd:Option Nat}{m:Nat}{P:Program}{o:Oper}{a:Act}{w:World}{K:Act->World->Prop}{Q:Exit->Act->World->Prop}{R:Value->World->Prop}
 (hd:∀c,o.op≠.defer c)(h:aF P o.op o.type (ev (dh a)) w R)(hk:∀v w',R v w'->K (a.put o.dst v) w'):o.wpIn (oQ rd) m P a w K Q:=by
 refine⟨λ_ _=>trivial,?_⟩;rw[Oper.semAt_eq _ _ _ hd];unfold aF at h;rw[FN,<-tq];generalize(execOp (ev (dh a)) (dI o.op o.type)).run P w=r at*;cases r with
 |ok n w'=>
  cases n<;>simp only[upon,Oper.uponIn]at h⊢<;>first|exact hk _ _ h|exact h.elim|skip
  . exact⟨λhh=>(by cases hh),CallsIn.mono (callsIn_wide.2 h:CallsIn Fence.wide (m-1) P _ _ _ _) λe w'' he=>by cases e<;>first|exact hk _ _ he|exact he.elim⟩
  . refine⟨λhh=>(by cases hh),λc cs _=>?_⟩;obtain⟨v,w'',r1,r2⟩:=h c cs;exact⟨v,w'',hk _ _ r1,stepsIn_wide.2 r2⟩
 |halt x w'=>cases x<;>simp only[upon]at h
def Cw(rd:Option Nat)(ds:List Deferred)(P:Program)(n:Nat)(c:Code)(Q:Exit->Env->World->Prop)(e:Env)(w:World):Prop:= ∀(m:Nat) (a:Act),a.tmps.size=n->a.defers=ds->dh a=e->c.wpIn (oQ rd) m P (λx a' w'=>a'.tmps.size=n/\a'.defers=ds/\Q x (dh a') w') a w
section
variable {rd:Option Nat} {ds:List Deferred} {P:Program} {n:Nat} {Q Q':Exit->Env->World->Prop} {e:Env} {w:World}
theorem Cw.mono{c:Code}(h:Cw rd ds P n c Q e w)(hq:∀x e w,Q x e w->Q' x e w):Cw rd ds P n c Q' e w:=
 λm a h1 h2 h3=>wpIn_mono (h m a h1 h2 h3) λx a' w' g=>⟨g.1,g.2.1,hq _ _ _ g.2.2⟩
theorem Cw.skip(h:Q .normal e w):Cw rd ds P n .skip Q e w:=λm a h1 h2 h3=>wpIn_skip ⟨h1,h2,h3▸h⟩
theorem Cw.ret(h:Q .ret e w):Cw rd ds P n .ret Q e w:=λm a h1 h2 h3=>wpIn_ret ⟨h1,h2,h3▸h⟩
def Ft(K:Env->World->Prop)(Q:Exit->Env->World->Prop):Exit->Env->World->Prop
 |.normal=>K
 |x=>Q x
theorem Cw.seq{x y:Code}{K:Env->World->Prop}(h:Cw rd ds P n x (Ft K Q) e w)(h2:∀e w,K e w->Cw rd ds P n y Q e w):Cw rd ds P n (.seq x y) Q e w:=by
 intro m a g1 g2 g3;refine wpIn_seq (wpIn_mono (h m a g1 g2 g3) ?_);rintro x a' w' ⟨k1,k2,k3⟩;cases x with
 |normal=>exact h2 _ _ k3 m a' k1 k2 rfl
 |_=>exact⟨k1,k2,k3⟩
theorem Cw.cond{c:Operand}{x y:Code}{b:Bool}(hc:ev e c=.bool b)(h:Cw rd ds P n (bif b then x else y) Q e w):Cw rd ds P n (.cond c x y) Q e w:=by
 intro m a g1 g2 g3;have:=h m a g1 g2 g3;cases b
 . exact wpIn_cond_false (by rw[<-tq,g3];exact hc) this
 . exact wpIn_cond_true (by rw[<-tq,g3];exact hc) this
theorem Cw.block{id:Nat}{c:Code}(h:Cw rd ds P n c Q e w)(hx:∀j e w,¬Q (.exit j) e w):Cw rd ds P n (.block id c) Q e w:=by
 intro m a g1 g2 g3;refine wpIn_block (wpIn_mono (h m a g1 g2 g3) ?_);rintro x a' w' ⟨k1,k2,k3⟩;cases x with
 |exit j=>exact bX k3 (hx j _ _)
 |_=>exact⟨k1,k2,k3⟩
def vc:List Oper->Bool
 |[]=>true
 |o::r=>(match o.op with|.defer _=>false|_=>true)&&vc r
theorem Kj{l:List Oper}(h:vc l=true):∀o,o∈l->∀c,o.op≠.defer c:=by
 induction l with
 |nil=>intro o ho;cases ho
 |cons x r ih=>
  simp only[vc,gz]at h;intro o ho c;cases ho with
  |head=>have h1:=h.1;intro hc;rw[hc]at h1;cases h1
  |tail _ hm=>exact ih h.2 o hm c
theorem UU{all:List Oper}(hall:∀o,o∈all->∀d,o.dst=some d->d<n)(hnd:∀o,o∈all->∀c,o.op≠.defer c){m:Nat}{K:Env->World->Prop}{Q':Exit->Act->World->Prop}
 (hK:∀a w,a.tmps.size=n->a.defers=ds->K (dh a) w->Q' .normal a w):
 ∀(l:List Oper),(∀o,o∈l->o∈all)->∀(a:Act) (w:World),a.tmps.size=n->a.defers=ds->Rl P all l K (dh a) w->wpListIn (oQ rd) m P all.toArray Q' l a w:=by
 intro l
 induction l with
 |nil=>intro _ a w h1 h2 h;exact hK a w h1 h2 h
 |cons o r ih=>
  intro hsub a w h1 h2 h;have hin:=hsub o cU;have hd:∀d,o.dst=some d->d<n:=hall o hin;have hall':∀o,o∈all->∀d,o.dst=some d->d<a.tmps.size:=by rw[h1];exact hall
  refine wpListIn_step λK' hK'=>?_;rw[Ec hall' o];simp only[Rl]at h;cases hw:jw all o (dh a)with
  |true=>
   rw[hw]at h;rw[bA rfl];refine KR (hnd o hin) h λv w' hv=>hK' _ _ ?_;refine ih (λo ho=>hsub o (cP _ ho)) _ _ (by rw[qD];exact h1) (by rw[sr];exact h2) ?_;rw[vB a h1 hd];exact hv
  |false=>
   rw[hw]at h;rw[aQ (by simp)];refine⟨λ_ _=>trivial,hK' _ _ ?_⟩;refine ih (λo ho=>hsub o (cP _ ho)) _ _ (by rw[qD];exact h1) (by rw[sr];exact h2) ?_;rw[vB a h1 hd];exact h
theorem Cw.region{id:Nat}{l:List Oper}{K:Env->World->Prop}(h:Rl P l l K e w)(hK:∀e w,K e w->Q .normal e w)(hok:nm n l=true:=by rfl)(hnd:vc l=true:=by rfl):Cw rd ds P n (.region id l.toArray false) Q e w:=by
 intro m a g1 g2 g3;subst g3;exact wpIn_region_lit (UU (Da hok) (Kj hnd) (K:=K) (λa' w' k1 k2 k3=>⟨k1,k2,hK _ _ k3⟩) l (λ_ h=>h) a w g1 g2 h)
theorem Cw.NQ{id:Nat}{c:Code}(h:Cw rd ds P n c (λx=>match x with|.exit j=>if j=id then Q .normal else Q (.exit j)|x=>Q x) e w):Cw rd ds P n (.block id c) Q e w:=by
 intro m a g1 g2 g3;refine wpIn_block (wpIn_mono (h m a g1 g2 g3) ?_);rintro x a' w' ⟨k1,k2,k3⟩;cases x with
 |exit j=>
  simp only[Exit.inBlock];by_cases hj:j=id
  . rw[bA hj];simp only[bA hj]at k3;exact⟨k1,k2,k3⟩
  . rw[aQ hj];simp only[aQ hj]at k3;exact⟨k1,k2,k3⟩
 |_=>exact⟨k1,k2,k3⟩
theorem Cw.exit{id:Nat}(h:Q (.exit id) e w):Cw rd ds P n (.exit id) Q e w:=λm a h1 h2 h3=>wpIn_exit ⟨h1,h2,h3▸h⟩
theorem Cw.loop{c:Code}(I:Nat->Env->World->Prop)(k:Nat)(h0:I k e w)(round:∀k e w,I k e w->Cw rd ds P n c (Ft (λe w=>∃j,j<k/\I j e w) Q) e w):Cw rd ds P n (.loop c) Q e w:=by
 intro m a g1 g2 g3;have key:∀M k,k<=M->∀a w,a.tmps.size=n->a.defers=ds->I k (dh a) w->Code.roundsIn (oQ rd) m P c (λx a' w'=>a'.tmps.size=n/\a'.defers=ds/\Q x (dh a') w') (M+1) a w:=by
  intro M
  induction M with
  |zero=>
   intro k hk a w h1 h2 hI;refine wpIn_mono (round k _ _ hI m a h1 h2 rfl) ?_;rintro x a' w' ⟨k1,k2,k3⟩;cases x with
   |normal=>obtain⟨j,hj,_⟩:=k3;omega
   |_=>exact⟨k1,k2,k3⟩
  |succ M ih=>
   intro k hk a w h1 h2 hI;refine wpIn_mono (round k _ _ hI m a h1 h2 rfl) ?_;rintro x a' w' ⟨k1,k2,k3⟩;cases x with
   |normal=>obtain⟨j,hj,h⟩:=k3;exact ih j (by omega) a' w' k1 k2 h
   |_=>exact⟨k1,k2,k3⟩
 exact wpIn_loop_rounds (k+1) (key k k (bQ _) a w g1 g2 (g3▸h0))
theorem oV{all r:List Oper}{o:Oper}{m:Nat}{Q':Exit->Act->World->Prop}{a:Act}(h1:a.tmps.size=n)(h2:a.defers=ds)
 (h:aF P o.op o.type (ev (dh a)) w λv w'=>∀a':Act,a'.tmps.size=n->a'.defers=ds->dh a'=ku (dh a) o.dst v->wpListIn (oQ rd) m P all.toArray Q' r a' w')(hg:o.guard=none:=by rfl)(hd:nm n [o]=true:=by rfl)(hn:vc [o]=true:=by rfl):wpListIn (oQ rd) m P all.toArray Q' (o::r) a w:=
 wpListIn_plain hg λK hK=>KR (Kj hn o cU) h λv w' hv=>hK _ _ (hv _ (by rw[qD];exact h1) (by rw[sr];exact h2) (vB a h1 (Da hd o cU) v))
theorem Rw{o:Oper}{m l:Nat}{a:Act}{g:Operand}{args:List Operand}{ats:Array TypeId}{az:List Value}{R:Ending->World->Prop}{K:Act->World->Prop}{Q':Exit->Act->World->Prop}
 (ho:o.op=.call {callee:=.value g,args:=args.toArray,argTypes:=ats})(hf:dh a=e)(hv:ev e g=.func (.yield l) #[] #[]) (ha:args.map (ev e)=az) (hy:YieldAt (oQ rd) (m-1) P l az.toArray w R)
 (hR:∀x w',R x w'->∃v,x=.returned v/\K (a.put o.dst v) w'):o.wpIn (oQ rd) m P a w K Q':=by
 obtain⟨fn,tmps,assign,body,h1,h2⟩:=hy;refine⟨λ_ _=>trivial,?_⟩;rw[Oper.semAt_eq _ _ _ (by rw[ho];intro c h;cases h),FN,<-tq,hf,ho];have hr:(execOp (ev e) (dI (.call {callee:=.value g,args:=args.toArray,argTypes:=ats}) o.type)).run P w=.ok (.round l fn tmps assign body) w:=by
  simp only[dI,execOp,resolve,hv];simp[Deferred.ofValue,invoke,ha,h1]
 rw[hr];refine⟨λhh=>(by cases hh),RoundIn.mono h2 λx w' hx=>?_⟩;obtain⟨v,rfl,hk⟩:=hR x w' hx;exact hk
theorem Vd{k k' l:Nat}{az:Array Value}{R:Ending->World->Prop}(h:YieldAt Fence.wide k P l az w R):YieldAt (oQ none) k' P l az w R:=by
 obtain⟨fn,tmps,assign,body,h1,h2,h3⟩:=h;exact⟨fn,tmps,assign,body,h1,h2,λc cs _=>h3 c cs (room_wide _)⟩
theorem NI{l:List Value}:dh {tmps:=l.toArray++Array.replicate (n-l.toArray.size) undef,defers:=ds}=lY l:=by
 funext i;simp only[dh,lY,PB,cL];by_cases hi:i<l.length
 . rw[XO (by simpa using hi)];simp
 . rw[XP (by simpa using hi),gm (by omega)];by_cases hj:i-l.toArray.size<n-l.toArray.size
   . rw[Iw (by simpa using hj)];simp
   . rw[DK (by simpa using hj)]
theorem Q9{f:FuncId}{fn:Func}{c:Code}{l:List Value}{m:Nat}{R:Ending->World->Prop}(hf:P.funcs[f]?=some fn)(hb:fn.body=some c)(hn:fn.ntmps=n)(hl:l.length<=n)
 (h:Cw none [] P n c (λx e w'=>(x=.normal\/x=.ret)/\∀tmps:Array Value,(∀i,tmps.getD i undef=e i)->∃v,(results fn tmps).run P w'=.ok v w'/\R (.returned v) w') (lY l) w):CallsIn Fence.wide m P f l.toArray w R:=by
 subst hn;refine callsIn_of_wp hf hb trivial (wpIn_mono (h m _ (by simp;omega) rfl NI) ?_);rintro x a' w' ⟨h1,h2,h3,h4⟩;obtain⟨v,hv,hR⟩:=h4 a'.tmps (λ_=>rfl);rcases h3 with rfl|rfl<;>exact⟨h2,v,hv,hR⟩
end
end Go.X
namespace Go.Q
open Go Go.RowKit Go.X
variable [fy]
def yg:Ob->Bool
 |.row .. =>true
 |.box .. =>true
 |.aN .. =>true
 |_=>false
theorem Kf{ob:Ob}(h:yg ob=true){ν:Nu}{H:Bool->Hp}{c n:Nat}{k:dE}(hr:ob.R ν H c n k):∃l,k=.cells l:=by
 cases ob with
 |row r κ xs=>obtain⟨_,_,cs,sp,rfl,_⟩:=hr;exact⟨_,rfl⟩
 |box l=>obtain⟨vs,rfl,_⟩:=hr;exact⟨_,rfl⟩
 |aN r κ xs=>obtain⟨_,⟨_,cs,sp,rfl,_⟩|⟨_,rfl⟩⟩:=hr<;>exact⟨_,rfl⟩
 |map _ _ _ _=>cases h
 |deep _ _ _ _=>cases h
 |hd _ _ _ _ _ _=>cases h
theorem Il{ob:Ob}(h:yg ob=true):ob.tid=none:=by cases ob<;>first|rfl|cases h
theorem de.on{X:Nat->Prop}{w0 w w':World}{H0:Bool->Hp}{ν:Nu}{oF:OF}(hS:de X w0 H0 ν oF w)(hp:∀i ob,oF i=some ob->yg ob=true)
 (h1:w'.os=w.os)(h2:w'.tape=w.tape)(h3:w'.output=w.output)(h4:w.heap.size<=w'.heap.size)(h5:∀k,k<w0.heap.size->¬X k->w'.heap[k]?=w.heap[k]?)(h6:∀(k:Nat) (o:Obj),l6 (w.heap[k]?)=some o->w'.heap[k]?=some o):
 de X w0 H0 ν oF w'/\∀κ,Le (HF X w0 H0 ν oF w κ) (HF X w0 H0 ν oF w' κ):=by
 have le:∀κ,Le (HF X w0 H0 ν oF w κ) (HF X w0 H0 ν oF w' κ):=λκ b o h=>by
  rcases tM h with⟨g1,g2,g3⟩|⟨g1,g2,g3⟩
  . rw[pf g1 g2];exact g3
  . refine mq g1 g2 ?_;rw[h6 b o g3];have:=nR g3;rw[this]at g3;exact g3
 refine⟨⟨h1.trans hS.os,h2.trans hS.tape,h3.trans hS.output,bV hS.size h4,λk hk hx=>(h5 k hk hx).trans (hS.keep k hk hx),hS.h0,hS.oy,hS.qG,λi ob h=>?_,hS.fresh,hS.iq,λi ob h=>⟨λt ht=>?_,(hS.parts i ob h).2⟩⟩,le⟩
 . obtain⟨b,c,n,k,q1,q2,q3⟩:=hS.dD i ob h;obtain⟨l,rfl⟩:=Kf (hp i ob h) q3;refine⟨b,c,n,_,q1,?_,q3.mono (fu.refl ν) le λj b c n hj _=>bX hj (by rw[Il (hp i ob h)];simp)⟩;cases b with
   |none=>exact q2
   |some b=>
    obtain⟨t,lo,hi,k1,k2,k3⟩:=q2;exact⟨t,lo,hi,h6 b _ (by rw[k1];rfl),k2,k3⟩
 . rw[vX (Il (hp i ob h))]at ht;cases ht
end Go.Q
namespace Go.X
open Go Go.RowKit
def Aw(P:Program)(n:Nat)(c:Code)(QQ:Exit->Act->World->Prop)(e:Env)(w:World):Prop:=∀a:Act,a.tmps.size=n->a.defers=[]->dh a=e->c.wpIn Fence.wide 5 P QQ a w
section
variable {P:Program} {n:Nat} {QQ:Exit->Act->World->Prop} {e:Env} {w:World}
theorem Aw.FA{x y:Code}{k:List It}(h:cO P n (.code x::k) (λ_ _=>False) e w)(hx:∀ex e w,ex≠Exit.normal->¬jU P n k (λ_ _=>False) ex e w)(h2:∀e w,cO P n k (λ_ _=>False) e w->Aw P n y QQ e w):Aw P n (.seq x y) QQ e w:=by
 intro a g1 g2 g3;refine wpIn_seq (wpIn_mono (wpIn_wide.2 (h a g1 g2 g3)) ?_);rintro x a' w' ⟨k1,k2,k3⟩;cases x with
 |normal=>exact h2 _ _ k3 a' k1 k2 rfl
 |_=>exact bX k3 (hx _ _ _ (by simp))
theorem Aw.seq3{x1 x2 x3 y:Code}{J:Env->World->Prop}(h:cO P n [.code x1,.code x2,.code x3,.back J] (λ_ _=>False) e w)(h2:∀e w,J e w->Aw P n y QQ e w):Aw P n (.seq x1 (.seq x2 (.seq x3 y))) QQ e w:=
 Aw.FA h (λx e w hx h=>by cases x<;>first|exact hx rfl|exact h) λ_ _ g=>Aw.FA g (λx e w hx h=>by cases x<;>first|exact hx rfl|exact h) λ_ _ g=>Aw.FA g (λx e w hx h=>by cases x<;>first|exact hx rfl|exact h) h2
def tg(D:Nat):Deferred:={target:=.collected D,args:=#[]}
theorem UQ{f:FuncId}{fn:Func}{c:Code}{l:List Value}{R:Ending->World->Prop}(hf:P.funcs[f]?=some fn)(hb:fn.body=some c)(hn:fn.ntmps=n)(hl:l.length<=n)
 (h:Aw P n c (λx a' w'=>(x=.normal\/x=.ret)/\∃D,a'.defers=[tg D]/\w'.heap[D]?=some (.deferred (some []))/\∃v,(results fn a'.tmps).run P (w'.putObj D (.deferred none))=.ok v (w'.putObj D (.deferred none))/\R (.returned v) (w'.putObj D (.deferred none))) (lY l) w):
 Calls P f l.toArray w R:=by
 subst hn;refine(callsIn_wide (n:=5)).1 (callsIn_of_wp_marks hf hb trivial (wpIn_mono (h _ (by simp;omega) rfl NI) ?_));rintro x a' w' ⟨h1,D,h2,h3,v,hv,hR⟩;rcases h1 with rfl|rfl<;>(show LeavesInM _ _ _ _ _ _ a'.defers _ _;rw[h2];exact⟨by simp,.inl ⟨D,_,rfl,run_takeDeferred h3,v,hv,hR⟩⟩)
theorem UL{fn:Func}{rl:List ResultVar}{vs:List Value}{tmps:Array Value}(hr:fn.results=rl.toArray)(he:∀i,tmps.getD i undef=e i)(h1:tj P e w rl vs):(results fn tmps).run P w=.ok (jW vs) w:=by
 unfold results;rw[hr];simp only[PF,Sem.run_bind,Sem.run_map];rw[A6 he _ (λ_=>rfl) (λ_ _=>rfl) h1];simp only[Result.andThen_ok];cases vs with
 |nil=>rfl
 |cons v vs=>cases vs<;>simp[jW]
end
theorem JN{W W':World}(hc:∀(k:Nat) (o:Obj),Go.Q.l6 (W.heap[k]?)=some o->W'.heap[k]?=some o){b o:Nat}{vs:List Value}(h:At (view [] W) b o vs):At (view [] W') b o vs:=by
 intro i hi;have h1:=h i hi;rw[cy hi]at h1⊢;unfold mw at h1⊢;cases hb:view [] W b with
 |none=>rw[hb]at h1;cases h1
 |some ob=>
  rw[hb]at h1;cases ob with
  |cells cs t fr=>
   have:=hc b _ (show Go.Q.l6 (W.heap[b]?)=some (.cells cs t fr) by rw[A7 hb];rfl);rw[wZ this (by simp)];exact h1
  |_=>cases h1
end Go.X
namespace Go.Q
open Go Go.RowKit Go.X
variable [fy]
theorem vU{P:Program}{tb:List (dZ P)}{F:Fx}{L:SS}(L':SS)(ren:List Nat){dD:List (Nat×Option Ob)}{cv:List (Nat×Option Sv)}(hI:L'=⟨ren.length,dD,cv⟩:=by rfl)(h1:mn (aW L.bL) ren dD=some dD:=by rfl)(h2:gE ren=true:=by rfl)(h3:pE L ren cv=some cv:=by rfl)(h4:py F.m ren=true:=by rfl):
 wX tb F (λe w=>St F L' e w) L:=⟨λe w hs=>by rw[hI];exact hs.qi ren h1 h2 h3 h4⟩
theorem zd{P:Program}{tb:List (dZ P)}{F:Fx}{ops:List Oper}{L:SS}{J:Env->World->Prop}{rd:Option Nat}{ds:List Deferred}{i:Nat}{Q:Exit->Env->World->Prop}{e:Env}{w:World}
 (h:Gr tb F ops ops [.back J] L)(hs:St F L e w)(hJ:∀e w,J e w->Q .normal e w)(hok:nm F.n ops=true:=by rfl)(hnd:vc ops=true:=by rfl):Cw rd ds P F.n (.region i ops.toArray false) Q e w:=
 Cw.region ((Gr.ok h).ok e w hs) hJ hok hnd
theorem QO{ν ν':Nu}{oF oF':OF}(hp:∀i ob,oF' i=some ob->yg ob=true/\∃ob0,oF i=some ob0)(hν:∀k,ν' k=ν k){b:Nat}(h:Ow ν' oF' b):Ow ν oF b:=by
 obtain⟨i,ob,h1,h2⟩:=h;obtain⟨h3,ob0,h4⟩:=hp i ob h1;refine⟨i,ob0,h4,.inl ?_⟩;have:=(rF (Il h3)).1 h2;unfold dP at this⊢;rw[<-hν i];exact this
end Go.Q

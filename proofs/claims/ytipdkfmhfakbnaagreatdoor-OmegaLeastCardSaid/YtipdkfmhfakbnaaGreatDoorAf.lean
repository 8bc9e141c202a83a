/- Plain theorems and definitions of this seat, several texts in one. -/
import Derived.Test.YtipdkfmhfakbnaaGreatDoorAe
import Derived.Test.YtipdkfmhfakbnaaGreatDoorAd
import Derived.KernelRfl
set_option linter.unusedVariables false
set_option linter.unusedSimpArgs false
set_option linter.unusedSectionVars false
set_option maxHeartbeats 1000000
namespace Go.D
open Go Go.X
theorem Gh{α:Type}{a c:α->Int}:∀{U:List α},(∀x∈U,0<a x)->∃z:Int,∀x∈U,a x*z<=c x
 |[],_=>⟨0,λx hx=>by cases hx⟩
 |u::U,h=>by
  obtain⟨z,hz⟩:=Gh (c:=c) (U:=U) λx hx=>h x (cO _ hx);have hu:=h u cX;refine⟨min z ((c u).fdiv (a u)),λx hx=>?_⟩;rcases ej.1 hx with rfl|hx
  . have h1:=mb (a:=c x) hu;have h2:=ff (Int.min_le_right z ((c x).fdiv (a x))) (dY hu);rw[fD (a x) ((c x).fdiv (a x))]at h2;omega
  . have h1:=hz x hx;have h2:=ff (Int.min_le_left z ((c u).fdiv (a u))) (dY (h x (cO _ hx)));omega
theorem JH{α:Type}{b d:α->Int}:∀{W:List α},W≠[]->(∀x∈W,0<b x)->∃z:Int,(∀x∈W,d x<=b x*z)/\∃x∈W,b x*z<=d x+b x-1
 |[],h0,_=>bV rfl h0
 |w::W,_,h=>by
  have hw:=h w cX;have h1:=mb (a:=-d w) hw;generalize hq:(-d w).fdiv (b w)=q at h1;have e1:b w*-q=-(q*b w):=by rw[lJ,fD]
  by_cases hW:W=[]
  . subst hW;exact⟨-q,λx hx=>by rw[cG.1 hx];omega,w,cX,by omega⟩
  . obtain⟨z,hz,x,hx,hxz⟩:=JH (d:=d) hW λx hx=>h x (cO _ hx);rcases uh (-q) z with hc|hc
    . refine⟨z,λy hy=>?_,x,cO _ hx,hxz⟩;rcases ej.1 hy with rfl|hy
      . have:=ff hc (dY hw);omega
      . exact hz y hy
    . refine⟨-q,λy hy=>?_,w,cX,by omega⟩;rcases ej.1 hy with rfl|hy
      . omega
      . have:=ff hc (dY (h y (cO _ hy)));have:=hz y hy;omega
theorem TH{α:Type}{U W:List α}{a c b d:α->Int}(ha:∀x∈U,0<a x)(hb:∀w∈W,0<b w)(h:∀x∈U,∀w∈W,(a x-1)*(b w-1)<=b w*c x-a x*d w):
 ∃z:Int,(∀x∈U,a x*z<=c x)/\∀w∈W,d w<=b w*z:=by
 by_cases hW:W=[]
 . subst hW;obtain⟨z,hz⟩:=Gh (c:=c) ha;exact⟨z,hz,λw hw=>by cases hw⟩
 . obtain⟨z,hz,w,hw,hwz⟩:=JH (d:=d) hW hb;refine⟨z,λx hx=>?_,hz⟩;have h1:=h x hx w hw;have hap:=ha x hx;have hbp:=hb w hw;have h2:=ff hwz (dY hap);have e1:a x*(b w*z)=b w*(a x*z):=by grind
   have e2:a x*(d w+b w-1)=a x*d w+a x*b w-a x:=by grind
   have e3:(a x-1)*(b w-1)=a x*b w-a x-b w+1:=by grind
   have h3:b w*(a x*z)<b w*(c x+1):=by rw[wM,wN];omega
   have:=Hy h3 (dY hbp);omega
def fN(s:St)(v:Nat)(dP:Bool)(ats:List Nat):St:={s with aN:=s.aN.set v 2,aB:=s.aB.filter (λx=>!decide (vf x.g v≠0)),aK:=s.aK++[⟨v,ats,dP⟩]}
def fI(s:St)(v:Nat):List Nat:=(cM v s.aB++dL v s.aB).map AI.pos
theorem UN(s:St)(v:Nat)(dP:Bool):eV s v dP=fN s v dP (fI s v):=rfl
theorem qD{s:St}{v:Nat}{t:Bool}{ats:List Nat}{x:AI}:x∈(fN s v t ats).aB↔x∈s.aB/\vf x.g v=0:=by
 show x∈s.aB.filter _↔_;simp[o7]
def xp(s:St)(v:Nat)(ats:List Nat):Prop:=∀p∈ats,p<s.aA.length/\(∀j,j<s.n->vf s.aN j≠0->cu s.u s.n (aH s.aA p).c j=0)/\cu s.u s.n (aH s.aA p).c v≠0
theorem Kd{s:St}{v:Nat}(hI:Inv s)(hv:v<s.n):xp s v (fI s v):=by
 intro p hp;obtain⟨x,hx,rfl⟩:=dR.1 hp;have hx':x∈s.aB/\vf x.g v≠0:=by
  rcases fe.1 hx with h|h
  . have:=kM.1 h;exact⟨this.1,by omega⟩
  . have:=iF.1 h;exact⟨this.1,by omega⟩
 refine⟨(hI.it x hx'.1).1,λj hj hst=>?_,?_⟩
 . rw[<-hI.dH x hx'.1 j hj];exact hI.nf x hx'.1 j hj hst
 . rw[<-hI.dH x hx'.1 v hv];exact hx'.2
section
variable {s:St} {v:Nat} {t:Bool} {ats:List Nat}
theorem qH(hI:Inv s)(hv:v<s.n)(j:Nat):vf (fN s v t ats).aN j=if v=j then 2 else vf s.aN j:=jZ (by rw[hI.gw];exact hv)
theorem Inv.fN(hI:Inv s)(hv:v<s.n)(hst:vf s.aN v=0)(ha:xp s v ats):Inv (fN s v t ats)where
 ul:=hI.ul
 gw:=by show(s.aN.set v 2).length=_;rw[iK];exact hI.gw
 vl:=hI.vl
 kl:=hI.kl
 it x hx:=hI.it x (qD.1 hx).1
 dH x hx:=hI.dH x (qD.1 hx).1
 nf x hx j hj h:=by
  rw[qH hI hv]at h;by_cases e:v=j
  . subst e;exact(qD.1 hx).2
  . rw[aY e]at h;exact hI.nf x (qD.1 hx).1 j hj h
 gM x hx:=hI.gM x (qD.1 hx).1
 kP:=List.Pairwise.filter _ hI.kP
 kA:=hI.kA
 stat j hj:=by
  rw[qH hI hv];split
  . exact .inr (.inr rfl)
  . exact hI.stat j hj
 sv e he:=by
  rcases fe.1 he with he|he
  . obtain⟨e1,e2,e3⟩:=hI.sv e he;refine⟨e1,?_,e3⟩;rw[qH hI hv];split
    . rfl
    . exact e2
  . rw[cG.1 he];exact⟨hv,by rw[qH hI hv,bD rfl],λp hp=>(ha p hp).1⟩
 s2 j hj h:=by
  rw[qH hI hv]at h;by_cases e:v=j
  . exact⟨_,o8 _ (cG.2 rfl),e⟩
  . rw[aY e]at h;obtain⟨e',he',hv'⟩:=hI.s2 j hj h;exact⟨e',rP _ he',hv'⟩
 sd:=by
  refine List.pairwise_append.2 ⟨hI.sd,List.pairwise_singleton _ _,λa ha' b hb=>?_⟩;rw[cG.1 hb];obtain⟨a1,a2,_⟩:=hI.sv a ha';refine⟨λe=>?_,λp hp=>(ha p hp).2.1 a.v a1 (by omega)⟩;have e:a.v=v:=e;rw[e,hst]at a2;omega
theorem Mc{n:Nat}{x y:AI}:(comb n v x y).length=n:=eZ
theorem BJ{n j:Nat}{x y:AI}(hj:j<n):vf (comb n v x y) j=-vf y.g v*vf x.g j+vf x.g v*vf y.g j:=dF hj
theorem vD{a b:Int}{A B:Nat}(ha:a.natAbs<=A)(hb:b.natAbs<=B):(a*b).natAbs<=A*B:=by rw[zw];exact j7 ha hb
theorem Lg{Kk C:Nat}(hI:Inv s)(hs:gJ Kk s)(hv:v<s.n)(hC:∀x∈s.aB,∀j,j<s.n->(vf x.g j).natAbs<=C)(hCb:C<=4294967296):
 ∀a∈dt s v,(mc Kk (fN s v t ats) a/\xF (4*(C*C)) a)/\nu Kk (fN s v t ats) a:=by
 intro a ha;obtain⟨x,hx,y,hy,rfl⟩:=Ir.1 ha;obtain⟨hxm,hxv⟩:=kM.1 hx;obtain⟨hym,hyv⟩:=iF.1 hy;obtain⟨x1,x2⟩:=hI.it x hxm;obtain⟨y1,y2⟩:=hI.it y hym;have hC2:C*C<=4294967296*4294967296:=j7 hCb hCb;have hb:∀j,j<s.n->(vf (comb s.n v x y) j).natAbs<=2*(C*C):=λj hj=>by
  rw[BJ hj];have h1:=vD (a:=-vf y.g v) (b:=vf x.g j) (A:=C) (B:=C) (by rw[wT];exact hC y hym v hv) (hC x hxm j hj);have h2:=vD (hC x hxm v hv) (hC y hym j hj);omega
 have hgb:GB (4*(C*C)) (comb s.n v x y):=λw hw=>by
  obtain⟨j,hj,rfl⟩:=gC hw;rw[Mc]at hj;have:=hb j hj;omega
 have hd4:∀w∈comb s.n v x y,dl w<=4:=λw hw=>AD (C4 (hgb w hw) (by omega));have hU:∀{z:AI} {m:Int},z∈s.aB->0<=m->m.natAbs<=C->mO s.n Kk s.aA ⟨z.pos,m⟩:=λ{z m} hz hm hmC=>by
  have h1:=(hI.it z hz).1;have h2:=hs.k _ (fg h1);exact⟨h1,hm,AD (show m.natAbs<_ by omega),h2.1,h2.2⟩
 have hP:gT Kk (fN s v t ats) (comb s.n v x y) [⟨x.pos,-vf y.g v⟩,⟨y.pos,vf x.g v⟩]:=⟨Mc,λw hw=>bU (hd4 w hw) (by decide),by simp,by simp,λu hu=>by
  rcases ej.1 hu with rfl|hu
  . exact hU hxm (by omega) (by rw[wT];exact hC y hym v hv)
  . rw[cG.1 hu];exact hU hym (by omega) (hC x hxm v hv)⟩
 refine⟨⟨hP,hgb⟩,hP,⟨λj hj=>?_,λj hj h=>?_⟩,?_⟩
 . have hj:j<s.n:=hj;rw[BJ hj];show _=cu s.u s.n (vec s.n (eG s.aA _)) j;have e:cu s.u s.n (vec s.n (eG s.aA [⟨x.pos,-vf y.g v⟩,⟨y.pos,vf x.g v⟩])) j=cu s.u s.n (vec s.n λi=>-vf y.g v*vf (aH s.aA x.pos).c i) j+vf x.g v*cu s.u s.n (aH s.aA y.pos).c j:=Bp λr hr=>by
    rw[dF hr,dF hr];show-vf y.g v*vf (aH s.aA x.pos).c r+(vf x.g v*vf (aH s.aA y.pos).c r+0)=_;omega
   have e2:cu s.u s.n (vec s.n λi=>-vf y.g v*vf (aH s.aA x.pos).c i) j=-vf y.g v*cu s.u s.n (aH s.aA x.pos).c j:=CL λr hr=>dF hr;rw[e,e2,<-hI.dH x hxm j hj,<-hI.dH y hym j hj]
 . have hj:j<s.n:=hj;rw[qH hI hv]at h;rw[BJ hj];by_cases e:v=j
   . subst e;rw[lH,fD (vf x.g v)];omega
   . rw[aY e]at h;rw[hI.nf x hxm j hj h,hI.nf y hym j hj h];simp
 . unfold dv;split
   . exact bU jL (by decide)
   . exact vu hd4
def zS(s:St)(v:Nat)(y:Nat->Int):Prop:=∀x∈cM v s.aB,∀w∈dL v s.aB,-vf w.g v*bK (vf x.g) y s.n+vf x.g v*bK (vf w.g) y s.n≤-vf w.g v*(aH s.aA x.pos).b+vf x.g v*(aH s.aA w.pos).b
theorem Ou{n:Nat}{x w:AI}{y:Nat->Int}:bK (vf (comb n v x w)) y n=-vf w.g v*bK (vf x.g) y n+vf x.g v*bK (vf w.g) y n:=by
 rw[eF (f':=λj=>-vf w.g v*vf x.g j+vf x.g v*vf w.g j) (g':=y) (λj hj=>BJ hj) λ_ _=>rfl,rC,qi]
theorem Jq{Kk M:Nat}{c:St}(hA:xV Kk M (fN s v t ats) (dt s v) true c){y:Nat->Int}(hy:∀z∈c.aB,IH c y z):(∀z∈s.aB,vf z.g v=0->IH s y z)/\zS s v y:=by
 obtain⟨h1,h2⟩:=hA.imp rfl y hy;refine⟨λz hz h0=>h1 z (qD.2 ⟨hz,h0⟩),λx hx w hw=>?_⟩;have:bK (vf (comb s.n v x w)) y s.n≤-vf w.g v*(aH s.aA x.pos).b+(vf x.g v*(aH s.aA w.pos).b+0):=h2 (nQ s.n v x w) (Ir.2 ⟨x,hx,w,hw,rfl⟩);rw[Ou]at this;omega
theorem Pe{s0 c:St}{Kk M:Nat}(hI0:Inv s0)(hI:Inv s)(hk:Kept s0 s)(hv:v<s.n)(hst:vf s.aN v=0)
 (hcov:∀y,(∀x∈s.aB,vf x.g v=0->IH s y x)->(∀p∈ats,hx s (ux s y) p)->∀x∈s0.aB,IH s0 y x)
 (hats:xp s v ats)(hA:xV Kk M (fN s v t ats) (dt s v) true c):ik s0 c:=by
 obtain⟨e1,he1⟩:=hk.kn;obtain⟨e2,he2⟩:=hA.kept.kn;have he2:c.aA=s.aA++e2:=he2;have hn:c.n=s.n:=hA.kept.n;have hn0:s.n=s0.n:=hk.n;have hu:c.u=s.u:=hA.kept.u;have hux:∀y i,ux c y i=ux s y i:=λy i=>by unfold ux;rw[hu,hn]
 have hux0:∀y i,ux s y i=ux s0 y i:=λy i=>by unfold ux;rw[hk.u,hk.n]
 have hstat:∀j,vf c.aN j=if v=j then 2 else vf s.aN j:=λj=>by rw[hA.kept.aN];exact qH hI hv j
 have hstk:c.aK=s0.aK++[⟨v,ats,t⟩]:=by rw[hA.kept.ed,<-hk.ed];rfl
 refine⟨hn.trans hn0,⟨e1++e2,by rw[he2,he1,jy]⟩,⟨_,hstk⟩,λj hj hs=>?_,λy=>⟨y,λi _=>(hux y i).trans (hux0 y i),λ_ _ _=>rfl,λk hkl ⟨h1,h2,h3⟩=>?_⟩⟩
 . have hvj:v≠j:=λe=>hs (by rw[<-e,<-hk.aN];exact hst);exact⟨by rw[hstat,aY hvj,hk.aN],λ_=>by rw[hA.kept.value];show vf s.value j=_;rw[hk.value],λi _=>by rw[hu,hk.u]⟩
 . obtain⟨g1,_⟩:=Jq hA h2;have hats2:∀p∈ats,hx s (ux s y) p:=λp hp=>by
    have h4:=h3 ⟨v,ats,t⟩ (by rw[hstk,C3 hkl];simp) p hp;exact(so hn he2 (hats p hp).1 λi _=>hux y i).1 h4
   refine⟨λj hj hs=>?_,hcov y g1 hats2,λe' he' p hp=>?_⟩
   . have hvj:v≠j:=λe=>by rw[<-e,<-hk.aN,hst]at hs;omega
     have:=h1 j (by rw[hn,hn0];exact hj) (by rw[hstat,aY hvj,hk.aN];exact hs);rw[this,hA.kept.value];show vf s.value j=_;rw[hk.value]
   . have h4:=h3 e' (by rw[hstk,C3 hkl];exact rP _ he') p hp;exact(so (hn.trans hn0) (e:=e1++e2) (by rw[he2,he1,jy]) ((hI0.sv e' (Hm he')).2.2 p hp) λi _=>(hux y i).trans (hux0 y i)).1 h4
theorem Uj{c:St}{Kk M k:Nat}(hI:Inv s)(hv:v<s.n)(hats:xp s v ats)(hA:xV Kk M (fN s v t ats) (dt s v) true c)(hz:∀y,zS s v y->∃z,∀p∈ats,hx s (ux s (cS y v z)) p):
 ∀y,Hs c y k->∃z,∀p∈ats,hx c (ux c (cS y v z)) p:=by
 intro y ⟨_,h2,_⟩;obtain⟨z,hz⟩:=hz y (Jq hA h2).2;obtain⟨e2,he2⟩:=hA.kept.kn;have hn:c.n=s.n:=hA.kept.n;refine⟨z,λp hp=>(so hn he2 (hats p hp).1 λi _=>?_).2 (hz p hp)⟩;unfold ux;rw[hA.kept.u,hn];rfl
theorem DB{x:AI}{y:Nat->Int}{z:Int}(hv:v<s.n):IH s (cS y v z) x↔vf x.g v*z<=(aH s.aA x.pos).b-bK (vf x.g) y s.n+vf x.g v*y v:=by
 unfold IH;rw[tM hv,Int.mul_sub];omega
theorem Lx{y:Nat->Int}(hv:v<s.n)(Wb:AI->Int)
 (h:∀x∈cM v s.aB,∀w∈dL v s.aB,(vf x.g v-1)*(-vf w.g v-1)<=(-vf w.g v*(aH s.aA x.pos).b+vf x.g v*Wb w)-(-vf w.g v*bK (vf x.g) y s.n+vf x.g v*bK (vf w.g) y s.n)):
 ∃z,(∀x∈cM v s.aB,IH s (cS y v z) x)/\∀w∈dL v s.aB,vf w.g v*z<=Wb w-bK (vf w.g) y s.n+vf w.g v*y v:=by
 obtain⟨z,h1,h2⟩:=TH (U:=cM v s.aB) (W:=dL v s.aB) (a:=λx=>vf x.g v) (b:=λw=>-vf w.g v) (c:=λx=>(aH s.aA x.pos).b-bK (vf x.g) y s.n+vf x.g v*y v) (d:=λw=>-(Wb w-bK (vf w.g) y s.n+vf w.g v*y v))
  (λx hx=>(kM.1 hx).2) (λw hw=>by have:=(iF.1 hw).2;omega) (λx hx w hw=>by
   have:=h x hx w hw;generalize vf x.g v=a at*;generalize vf w.g v=b at*;generalize(aH s.aA x.pos).b=B at*;generalize bK (vf x.g) y s.n=X at*;generalize bK (vf w.g) y s.n=Y at*;grind)
 refine⟨z,λx hx=>(DB hv).2 (h1 x hx),λw hw=>?_⟩;have:=h2 w hw;rw[lH]at this;omega
end
open Go Go.X
def Bl(N:Nat)(s:aS)(x1:(List aC)):((List aC)×Int)->Option (aJ ((List aC)×Int) (List aC))
 |(b,a)=>(if(a:Int)<(List.length x1:Int)then ((((idx s.aN a).bind λc=>(if(c:Int)=1 then (idx s.value a).bind λd=>(idx b a).bind λg=>(dM b a d).bind λe=>some e else some b)):Option (List aC))).bind λss=>match ss with
    |f=>some (aJ.next (f,(iw (a+1)))) else some (aJ.done b))
def oE(N:Nat)(s:aS):Nat->List aC->Bool
 |0,_=>true
 |k+1,y=>s.aK.all λe=>match oB N s e y with
  |none=>false
  |some (n,ok)=>if ok then(match dM y e.v n with
   |none=>false
   |some y=>oE N s k y)else true
def iD(N:Nat)(s:aS):List dW->List aC->Option (Sum (List aC) Int)
 |[],y=>some (.inl y)
 |e::r,y=>(oB N s e y).bind λ(n,ok)=>if ok then(dM y e.v n).bind (iD N s r)else some (.inr e.v)
def tN(N:Nat)(s:aS):Option cz:=(gF (α:=aC) 32 (aC.mk false ([]:(List Int))) s.n).bind λx1=>(bS (Bl N s x1) N (x1,0)).bind λy=>if s.aK.length<=9223372036854775807/\oE N s s.aK.length y=true then (iD N s s.aK.reverse y).bind λ
  |.inr v=>some (cz.mk 2 [] (Proof.mk [] [] (aC.mk false []) []) v)
  |.inl y=>(qJ N s y).bind λx=>some (cz.mk 0 x (Proof.mk [] [] (aC.mk false []) []) 0) else none
def sE(N:Nat)(run:aS->Option cz)(self:aS->bB->aC->aC->Option cz)(s:aS)(low:bB)(k:aC)(most:aC):Option cz:=(iY N k most).bind λr1=>(if(r1:Int)=0 then (qy N s).bind λr7=>(run r7).bind λr8=>some r8 else (idx s.aA low.pos).bind λx9=>(ns N x9.bE).bind λf=>(jA N x9.dO).bind λi=>(nt N s (bG.mk f i)).bind λc=>(ns N low.g).bind λj=>(l6 N c (bB.mk (iw ((List.length c.aA:Int)-1)) j)).bind λb=>(run (aS.mk c.n b.aA b.aU b.u b.aN b.value b.aB b.aK)).bind λd=>(if(d.kind:Int)≠1 then some d else (gj N 1).bind λl=>(jk N x9.dO l).bind λm=>(nt N s (bG.mk x9.bE m)).bind λa=>(wg N a.aB low.pos (iw ((List.length a.aA:Int)-1))).bind λo=>(gj N 1).bind λp=>(js N k p).bind λv=>(self (aS.mk a.n a.aA a.aU a.u a.aN a.value o a.aK) (bB.mk (iw ((List.length a.aA:Int)-1)) low.g) v most).bind λe=>(if(e.kind:Int)≠1 then some e else (rA N s f i d e).bind λy=>some y)))
def qF:Nat->(aS->Option cz)->aS->bB->aC->aC->Option cz
 |0=>λ_ _ _ _ _=>none
 |N+1=>λrun=>sE N run (qF N run)
def wa(N:Nat)(run:aS->Option cz)(self:aS->Int->(List bB)->(List Int)->Option cz)(v:Int)(r1:((List bB)×(List bB))):(List bB)->Option (aJ (List bB) (List bB))
 |a=>((((if((List.length a:Int):Int)>0 then (idx a 0).bind λb=>(pB N v b r1.1).bind λc=>(gV N c).bind λd=>some (decide ((d:Int)<0)) else some false)):Option Bool)).bind λss=>match ss with
   |e=>(if e=true then (cut a 1 (List.length a:Int)).bind λf=>some (aJ.next f) else some (aJ.done a))
def pD(N:Nat)(run:aS->Option cz)(self:aS->Int->(List bB)->(List Int)->Option cz)(s:aS)(v:Int)(lows:(List bB))(vat3:(List Int)):Option cz:=(tH N s v).bind λr1=>(bS (wa N run self v r1) N lows).bind λss=>match ss with
  |d=>(if((List.length d:Int):Int)=0 then (qy N s).bind λi=>(oS N i v false).bind λa=>(idx a.2.aK (iw ((List.length a.2.aK:Int)-1))).bind λo=>(dM a.2.aK (iw ((List.length a.2.aK:Int)-1)) (dW.mk o.v vat3 o.dP)).bind λp=>(if(!a.1)=true then (jT N (aS.mk i.n a.2.aA a.2.aU a.2.u a.2.aN a.2.value a.2.aB p)).bind λa1=>some a1 else (run (aS.mk i.n a.2.aA a.2.aU a.2.u a.2.aN a.2.value a.2.aB p)).bind λa2=>some a2) else (idx d 0).bind λe=>(idx d 0).bind λa3=>(pB N v a3 r1.1).bind λj=>(idx s.aA e.pos).bind λf=>(ns N f.bE).bind λy=>(jk N f.dO j).bind λa4=>(gj N 1).bind λa5=>(jk N a4 a5).bind λa6=>(nt N s (bG.mk f.bE a6)).bind λb=>(wg N b.aB e.pos (iw ((List.length b.aA:Int)-1))).bind λa7=>(cut d 1 (List.length d:Int)).bind λa8=>(self (aS.mk b.n b.aA b.aU b.u b.aN b.value a7 b.aK) v a8 vat3).bind λk=>(if(k.kind:Int)≠1 then some k else (jk N j f.dO).bind λa0=>(nt N s (bG.mk y a0)).bind λl=>(ns N e.g).bind λa9=>(l6 N l (bB.mk (iw ((List.length l.aA:Int)-1)) a9)).bind λc=>(qF N run (aS.mk l.n c.aA c.aU c.u c.aN c.value c.aB c.aK) e (aC.mk false ([]:(List Int))) j).bind λm=>(if(m.kind:Int)≠1 then some m else (rA N s y a0 m k).bind λaa=>some aa)))
def nK:Nat->(aS->Option cz)->aS->Int->(List bB)->(List Int)->Option cz
 |0=>λ_ _ _ _ _=>none
 |N+1=>λrun=>pD N run (nK N run)
def zg(N:Nat)(run:aS->Option cz)(s:aS)(c:gZ):Option cz:=(js N c.low c.high).bind λr1=>(gj N 2).bind λr2=>(kS N r1 r2).bind λr3=>(idx s.aA c.up.pos).bind λx4=>(nt N s (bG.mk x4.bE r3.1)).bind λr5=>(l6 N r5 (bB.mk (iw ((List.length r5.aA:Int)-1)) c.up.g)).bind λr6=>(run (aS.mk r5.n r6.aA r6.aU r6.u r6.aN r6.value r6.aB r6.aK)).bind λr7=>(if(r7.kind:Int)≠1 then some r7 else (ns N x4.bE).bind λe=>(jA N r3.1).bind λf=>(gj N 1).bind λi=>(jk N f i).bind λj=>(nt N s (bG.mk e j)).bind λb=>(ns N c.up.g).bind λk=>(l6 N b (bB.mk (iw ((List.length b.aA:Int)-1)) k)).bind λa=>(run (aS.mk b.n a.aA a.aU a.u a.aN a.value a.aB a.aK)).bind λd=>(if(d.kind:Int)≠1 then some d else (rA N s x4.bE r3.1 r7 d).bind λl=>some l))
def Ds(N:Nat)(run:aS->Option cz)(b:(List bB)):((List Int)×Int)->Option (aJ ((List Int)×Int) (List Int))
 |(c,a)=>(if(a:Int)<(List.length b:Int)then (idx b a).bind λd=>(cZ 8 c [d.pos]).bind λe=>some (aJ.next (e,(iw (a+1)))) else some (aJ.done c))
def uX(N:Nat)(run:aS->Option cz)(s:aS)(v:Int):Option cz:=(xk N s).bind λr1=>((((if r1.2=true then (jk N r1.1.high r1.1.low).bind λe=>((((gj N 64).bind λf=>(iY N e f).bind λg=>(if(g:Int)<=0 then (xh N s v).bind λi=>(iY N e i).bind λj=>some (decide ((j:Int)<0)) else some false)):Option Bool)).bind λss=>match ss with
   |k=>(if k=true then (zg N run s r1.1).bind λl=>some (Sum.inr l) else some (Sum.inl ())) else some (Sum.inl ()))):Option (Sum Unit cz))).bind λss=>match ss with
  |(Sum.inl _)=>(qy N s).bind λb=>(oS N b v true).bind λa=>(if(!a.1)=true then (jT N (aS.mk b.n a.2.aA a.2.aU a.2.u a.2.aN a.2.value a.2.aB a.2.aK)).bind λm=>some m else (run (aS.mk b.n a.2.aA a.2.aU a.2.u a.2.aN a.2.value a.2.aB a.2.aK)).bind λc=>((((if(c.kind:Int)≠2 then some true else some (decide ((c.v:Int)≠v)))):Option Bool)).bind λss=>match ss with
     |o=>(if o=true then some c else (tH N s v).bind λd=>(vz N [d.1,d.2]).bind λp=>(bS (Ds N run p) N (([]:(List Int)),0)).bind λss=>match ss with
        |y=>(nK N run s v d.2 y).bind λa0=>some a0))
  |(Sum.inr z)=>some z
def uo(N:Nat)(self:aS->Option cz)(s:aS):((List bG)×(List Step)×(List (List aC))×(List Int)×(List aC)×(List bB)×(List dW))->Option (aJ ((List bG)×(List Step)×(List (List aC))×(List Int)×(List aC)×(List bB)×(List dW)) cz)
 |(e,f,g,i,j,k,l)=>(vd N (aS.mk s.n e f g i j k l)).bind λa=>(if(!a.2.2.2.1)=true then (jT N (aS.mk s.n a.2.2.2.2.aA a.2.2.2.2.aU a.2.2.2.2.u a.2.2.2.2.aN a.2.2.2.2.value a.2.2.2.2.aB a.2.2.2.2.aK)).bind λm=>some (aJ.done m) else (if a.2.2.1=true then (tJ N (aS.mk s.n a.2.2.2.2.aA a.2.2.2.2.aU a.2.2.2.2.u a.2.2.2.2.aN a.2.2.2.2.value a.2.2.2.2.aB a.2.2.2.2.aK) a.1 a.2.1).bind λb=>(if(!b.1)=true then (jT N (aS.mk s.n b.2.aA b.2.aU b.2.u b.2.aN b.2.value b.2.aB b.2.aK)).bind λo=>some (aJ.done o) else some (aJ.next (b.2.aA,b.2.aU,b.2.u,b.2.aN,b.2.value,b.2.aB,b.2.aK))) else (uG N (aS.mk s.n a.2.2.2.2.aA a.2.2.2.2.aU a.2.2.2.2.u a.2.2.2.2.aN a.2.2.2.2.value a.2.2.2.2.aB a.2.2.2.2.aK)).bind λd=>(if(!d.2)=true then (tN N (aS.mk s.n a.2.2.2.2.aA a.2.2.2.2.aU a.2.2.2.2.u a.2.2.2.2.aN a.2.2.2.2.value a.2.2.2.2.aB a.2.2.2.2.aK)).bind λp=>some (aJ.done p) else (wo N (aS.mk s.n a.2.2.2.2.aA a.2.2.2.2.aU a.2.2.2.2.u a.2.2.2.2.aN a.2.2.2.2.value a.2.2.2.2.aB a.2.2.2.2.aK) d.1).bind λv=>(if(!v)=true then (uX N self (aS.mk s.n a.2.2.2.2.aA a.2.2.2.2.aU a.2.2.2.2.u a.2.2.2.2.aN a.2.2.2.2.value a.2.2.2.2.aB a.2.2.2.2.aK) d.1).bind λy=>some (aJ.done y) else (oS N (aS.mk s.n a.2.2.2.2.aA a.2.2.2.2.aU a.2.2.2.2.u a.2.2.2.2.aN a.2.2.2.2.value a.2.2.2.2.aB a.2.2.2.2.aK) d.1 false).bind λc=>(if(!c.1)=true then (jT N (aS.mk s.n c.2.aA c.2.aU c.2.u c.2.aN c.2.value c.2.aB c.2.aK)).bind λa0=>some (aJ.done a0) else some (aJ.next (c.2.aA,c.2.aU,c.2.u,c.2.aN,c.2.value,c.2.aB,c.2.aK)))))))
def xW(N:Nat)(self:aS->Option cz)(s:aS):Option cz:=(bS (uo N self s) N (s.aA,s.aU,s.u,s.aN,s.value,s.aB,s.aK)).bind λss=>match ss with
  |z=>some z
def kg:Nat->aS->Option cz
 |0=>λ_=>none
 |N+1=>xW N (kg N)
def p5(N:Nat)(n:Int)(system:(List bG)):Option cz:=(w5 N n system).bind λr1=>(uH N r1).bind λr2=>(if(!r2.1)=true then (jT N (aS.mk r1.n r2.2.aA r2.2.aU r2.2.u r2.2.aN r2.2.value r2.2.aB r2.2.aK)).bind λr7=>some r7 else (kg N (aS.mk r1.n r2.2.aA r2.2.aU r2.2.u r2.2.aN r2.2.value r2.2.aB r2.2.aK)).bind λr8=>some r8)
def rI(N:Nat)(n:Int)(l:(List Constraint)):Option ((List aC)×Proof×Bool):=(uT N l n).bind λr1=>(p5 N n r1).bind λr2=>(if(r2.kind:Int)=0 then some (r2.x,(Proof.mk ([]:(List Step)) ([]:(List aC)) (aC.mk false ([]:(List Int))) ([]:(List Proof))),true) else some (([]:(List aC)),r2.proof,false))
def EP(N:Nat)(system:(List bG)):((List bG)×Int)->Option (aJ ((List bG)×Int) (List bG))
 |(b,a)=>(if(a:Int)<(List.length system:Int)then (idx system a).bind λc=>(cZ 56 b [(bG.mk c.bE (aC.mk false ([]:(List Int))))]).bind λd=>some (aJ.next (d,(iw (a+1)))) else some (aJ.done b))
def yu(N:Nat)(n:Int)(system:(List bG))(v:Int):Option Bool:=(bS (EP N system) N (([]:(List bG)),0)).bind λss=>match ss with
  |a=>(gj N (-1)).bind λb=>(wA N n v 1 b).bind λc=>(cZ 56 a [c]).bind λd=>(p5 N n d).bind λe=>some (decide ((e.kind:Int)=0))
def zY(N:Nat)(n:Int)(v:Int)(g:aC)(r1:(List bG)):(aC×aC×Bool×aC)->Option (aJ (aC×aC×Bool×aC) (aC×Bool))
 |(a,c,d,b)=>((((jk N a b).bind λi=>((((if d=true then (js N c a).bind λj=>(gj N 2).bind λk=>(kS N j k).bind λl=>(jk N a c).bind λm=>(iY N m g).bind λo=>(if(o:Int)<=0 then some (Sum.inr (a,true)) else some (Sum.inl l.1)) else some (Sum.inl i))):Option (Sum aC (aC×Bool)))).bind λss=>match ss with
   |(Sum.inl e)=>(CQ N r1).bind λp=>(wA N n v 1 e).bind λs=>(cZ 56 p [s]).bind λu=>(p5 N n u).bind λf=>(if(f.kind:Int)=0 then (idx f.x v).bind λy=>(js N b b).bind λa0=>some (Sum.inl (y,c,d,a0)) else some (Sum.inl (a,e,true,b)))
   |(Sum.inr z)=>some (Sum.inr z)):Option (Sum (aC×aC×Bool×aC) (aC×Bool)))).bind λss=>match ss with
   |(Sum.inl (a1,a2,a3,a4))=>some (aJ.next (a1,a2,a3,a4))
   |(Sum.inr z)=>some (aJ.done z)
def wC(N:Nat)(n:Int)(l:(List Constraint))(v:Int):Option (aC×Bool):=(uT N l n).bind λr1=>(p5 N n r1).bind λr2=>((((if(r2.kind:Int)≠0 then some true else (yu N n r1 v).bind λb=>some b)):Option Bool)).bind λss=>match ss with
  |x6=>(if x6=true then some ((aC.mk false ([]:(List Int))),false) else (gj N 1).bind λa=>(idx r2.x v).bind λc=>(bS (zY N n v a r1) N (c,(aC.mk false ([]:(List Int))),false,a)).bind λss=>match ss with
     |z=>some z)
end Go.D
namespace Go.D
open Go Go.X
structure kE (K Ku:Nat)(s:St):Prop where
 n:s.n<=4
 hK:K<=536870912
 oI:Ku<=17179869184
 u:SU Ku s
 k:∀q∈s.aA,fW K q/\q.c.length=s.n
 kl:s.aA.length<=1073741824
theorem sP{f g:Nat->Int}{A B:Nat}(hf:∀j,dl (f j)<=A)(hg:∀j,dl (g j)<=B):∀n,dl (bK f g n)<=A+B+n
 |0=>by show dl 0<=_;rw[iq];omega
 |n+1=>by
  have h1:=sP hf hg n;have h2:=kD (f n) (g n);have:=hf n;have:=hg n;exact oz (K:=A+B+n) h1 (by omega)
section
variable {K Ku:Nat} {s:St}
theorem kE.mx(h:kE K Ku s)(i j:Nat):dl (mx s.u i j)<=Ku:=by
 unfold D.mx;rcases cH i s.u.length with hi|hi
 . rw[cN,cy hi];exact(h.u.u.2 _ (dJ hi)).vf j
 . rw[cN,gr hi];show dl (vf [] j)<=_;rw[lO (by simp),iq];omega
theorem kE.q(h:kE K Ku s)(p j:Nat):dl (vf (aH s.aA p).c j)<=K:=by
 rcases cH p s.aA.length with hp|hp
 . exact(h.k _ (fg hp)).1.vf j
 . unfold aH;rw[cN,gr hp];show dl (vf [] j)<=_;rw[lO (by simp),iq];omega
theorem kE.cu(h:kE K Ku s)(p j:Nat):dl (cu s.u s.n (aH s.aA p).c j)<=K+Ku+4:=by
 have:=sP (f:=vf (aH s.aA p).c) (g:=λi=>D.mx s.u i j) (h.q p) (λi=>h.mx i j) s.n;have:=h.n;show dl (bK _ _ _)<=_;omega
theorem KZ(h:kE K Ku s){i:Nat}(hi:i<s.n):∃r:List Int,idx s.to.u (i:Int)=some (mB r)/\r.length=s.n/\∀j,vf r j=mx s.u i j:=by
 have hl:i<s.u.length:=by rw[h.u.u.1];exact hi
 refine⟨s.u[i],?_,(h.u.u.2 _ (dJ hl)).1,λj=>?_⟩
 . show idx (s.u.map mB) _=_;rw[dA (by simpa using hl),lG]
 . unfold mx;rw[cN,cy hl];rfl
theorem K3(h:kE K Ku s){p j:Nat}(hp:p<s.aA.length)(hj:j<s.n):Tm (λN=>wh N s.to (p:Int) (j:Int)) (·=B (cu s.u s.n (aH s.aA p).c j)):=by
 have hL:dh=1099511627776:=rfl;have hK:=h.hK;have oI:=h.oI;have hn:=h.n;have hql:=(h.k _ (fg hp)).2;unfold wh;refine aL (nJ hp) ?_;refine aV (a:=B (cu s.u s.n (aH s.aA p).c j)) (e9 s.n (λk t=>t=(B (bK (vf (aH s.aA p).c) (λi=>mx s.u i j) k),(k:Int))) (by show(_,_)=_;rw[show bK _ _ 0=0 from rfl,B0];rfl) ?_) (aI rfl);rintro k hk _ rfl;dsimp only[DA];have hcl:(aH s.aA p).to.bE.length=s.n:=(dT _).trans hql;rw[hcl];refine bA (λhlt=>?_) (λhge=>aI ?_)
 . have hlt:k<s.n:=by omega
   obtain⟨r,hr,hrl,hrv⟩:=KZ h hlt;have d1:=h.q p k;have d2:=h.mx k j;have d3:=sP (f:=vf (aH s.aA p).c) (g:=λi=>mx s.u i j) (h.q p) (λi=>h.mx i j) k;have d4:=kD (vf (aH s.aA p).c k) (mx s.u k j);refine aL (eD (l:=(aH s.aA p).c) (by omega)) (aL hr (aL (eD (l:=r) (by omega)) ?_));rw[hrv];exact aV (ox (by omega) (by omega)) (aV (mf (by omega) (by omega)) (aI ⟨hlt,by rw[eK (by omega)];rfl⟩))
 . have:k=s.n:=by omega
   subst this;rfl
def rst(s:St)(v:Nat)(y:Nat->Int)(p:Nat):Int:=(aH s.aA p).b-bK (cu s.u s.n (aH s.aA p).c) (cS y v 0) s.n
theorem Qq{y:Nat->Int}{v:Nat}{z w:Int}:cS (cS y v z) v w=cS y v w:=by
 funext j;unfold cS;split<;>rfl
theorem Tb{v p:Nat}{y:Nat->Int}{z:Int}(hv:v<s.n):hx s (ux s (cS y v z)) p↔cu s.u s.n (aH s.aA p).c v*z<=rst s v y p:=by
 unfold hx rst;rw[zC];have h:=tM (f:=cu s.u s.n (aH s.aA p).c) (y:=cS y v 0) (z:=z) hv;rw[Qq]at h;rw[h];have:cS y v 0 v=0:=by unfold cS;rw[bD rfl]
 rw[this,Df];omega
theorem MV{y:Nat->Int}{v D:Nat}(hy:∀j,dl (y j)<=D)(j:Nat):dl (cS y v 0 j)<=D:=by
 unfold cS;split
 . rw[iq];omega
 . exact hy j
theorem Q2(h:kE K Ku s){v p D:Nat}{y:Nat->Int}(hp:p<s.aA.length)(hy:∀j,dl (y j)<=D):dl (rst s v y p)<=K+Ku+D+9:=by
 have hn:=h.n;have h1:=sP (f:=cu s.u s.n (aH s.aA p).c) (g:=cS y v 0) (λj=>h.cu p j) (MV hy) s.n;have h2:=(h.k _ (fg hp)).1.2;exact jW (K:=K+Ku+D+8) (by omega) (by omega)
theorem SM(h:kE K Ku s){e:dW}{v p D:Nat}{y:List Int}(hev:e.v=(v:Int))(hp:p<s.aA.length)(hyl:y.length=s.n)(hy:∀j,dl (vf y j)<=D)(hD:D<=549755813888):
 Tm (λN=>bS (CG N s.to e (mB y) (p:Int)) N (B (aH s.aA p).b,0)) (·=B (rst s v (vf y) p)):=by
 have hL:dh=1099511627776:=rfl;have hK:=h.hK;have oI:=h.oI;have hn:=h.n;refine(e9 s.n (λk t=>t=(B ((aH s.aA p).b-bK (cu s.u s.n (aH s.aA p).c) (cS (vf y) v 0) k),(k:Int))) (by rw[show bK (cu s.u s.n (aH s.aA p).c) (cS (vf y) v 0) 0=0 from rfl,Df];rfl) ?_);rintro k hk _ rfl;dsimp only[CG];rw[dT,hyl];refine bA (λhlt=>?_) (λhge=>aI ?_)
 . have hlt:k<s.n:=by omega
   have d1:=h.cu p k;have d2:=hy k;have d3:=sP (f:=cu s.u s.n (aH s.aA p).c) (g:=cS (vf y) v 0) (λj=>h.cu p j) (MV hy) k;have d4:=(h.k _ (fg hp)).1.2;have d5:=kD (cu s.u s.n (aH s.aA p).c k) (vf y k);have d6:=jW (K:=K+Ku+D+8) (a:=(aH s.aA p).b) (b:=bK (cu s.u s.n (aH s.aA p).c) (cS (vf y) v 0) k) (by omega) (by omega);refine aV (a:=B ((aH s.aA p).b-bK (cu s.u s.n (aH s.aA p).c) (cS (vf y) v 0) (k+1))) (bA (λhc=>?_) (λhc=>aI ?_)) (aI ⟨hlt,by rw[eK (by omega)]⟩)
   . rw[hev]at hc;have hkv:k≠v:=by omega
     refine aV (K3 h hp hlt) (aL (eD (l:=y) (by omega)) (aV (ox (by omega) (by omega)) (aV (ld (by omega) (by omega)) (aI ?_))));congr 1;show _=_-(bK _ _ k+_*cS (vf y) v 0 k);rw[show cS (vf y) v 0 k=vf y k by unfold cS;rw[aY hkv]];omega
   . rw[hev]at hc;have hkv:k=v:=by omega
     congr 1;show _=_-(bK _ _ k+_*cS (vf y) v 0 k);rw[show cS (vf y) v 0 k=0 by unfold cS;rw[bD hkv]];omega
 . have:k=s.n:=by omega
   subst this;rfl
theorem My{a c z:Int}(hc:0<c):z<=a.fdiv c↔c*z<=a:=by
 have h1:=mb (a:=a) hc;constructor
 . intro h;have:=ff h (dY hc);rw[fD c (a.fdiv c)]at this;omega
 . intro h;refine Int.le_of_lt_add_one (Hy (a:=c) ?_ (dY hc));rw[wM,wN,fD c (a.fdiv c)];omega
theorem Rc{a c z:Int}(hc:c<0):-(a.fdiv (-c))<=z↔c*z<=a:=by
 have:=My (a:=a) (c:=-c) (z:=-z) (by omega);rw[Og]at this;rw[<-this];omega
structure pQ (s:St)(e:AE):Prop where
 il:e.aB.length<=1073741824
 v:e.v<s.n
 p:∀p∈e.aB,p<s.aA.length/\cu s.u s.n (aH s.aA p).c e.v≠0
theorem Jk(h:kE K Ku s){e:AE}(he:pQ s e){D:Nat}{y:List Int}(hyl:y.length=s.n)(hy:∀j,dl (vf y j)<=D)(hD:D<=549755813888):
    Tm (λN=>oB N s.to e.to (mB y)) (λr=>∃z,r.1=B z/\dl z<=K+Ku+D+9/\(r.2=true->∀p∈e.aB,hx s (ux s (cS (vf y) e.v z)) p)/\(r.2=false->¬∃z,∀p∈e.aB,hx s (ux s (cS (vf y) e.v z)) p)):=by
  have hL:dh=1099511627776:=rfl;have hK:=h.hK;have oI:=h.oI;have hn:=h.n;have hev:=he.v;generalize hcf:(λp=>cu s.u s.n (aH s.aA p).c e.v)=c;have hc':∀p,cu s.u s.n (aH s.aA p).c e.v=c p:=λp=>by rw[<-hcf]
  generalize hrf:rst s e.v (vf y)=rs;have hxr:∀p z,hx s (ux s (cS (vf y) e.v z)) p↔c p*z<=rs p:=λp z=>by rw[Tb hev,hc',hrf]
  have hil:e.to.aB.length=e.aB.length:=cT ..;unfold oB;refine Tm.bind (Q:=λt=>∃(lo hi:Int) (hl hh:Bool),t=(B lo,B hi,hl,hh)/\dl lo<=K+Ku+D+9/\dl hi<=K+Ku+D+9/\
      (hl=true->∀z,lo<=z↔∀p∈e.aB,c p<0->c p*z<=rs p)/\(hl=false->∀p∈e.aB,¬c p<0)/\(hh=true->∀z,z<=hi↔∀p∈e.aB,0<c p->c p*z<=rs p)/\(hh=false->∀p∈e.aB,¬0<c p))
    (e9 e.aB.length (λk t=>∃(lo hi:Int) (hl hh:Bool),t=(B lo,B hi,hl,hh,(k:Int))/\dl lo<=K+Ku+D+9/\dl hi<=K+Ku+D+9/\
      (hl=true->∀z,lo<=z↔∀p∈e.aB.take k,c p<0->c p*z<=rs p)/\(hl=false->∀p∈e.aB.take k,¬c p<0)/\(hh=true->∀z,z<=hi↔∀p∈e.aB.take k,0<c p->c p*z<=rs p)/\(hh=false->∀p∈e.aB.take k,¬0<c p))
      ⟨0,0,false,false,by rw[B0];rfl,by rw[iq];omega,by rw[iq];omega,λe=>(by cases e),λ_ p hp=>(by cases hp),λe=>(by cases e),λ_ p hp=>(by cases hp)⟩ ?_) ?_
  . rintro k hk _ ⟨lo,hi,hl,hh,rfl,dlo,dhi,l1,l2,h1,h2⟩;dsimp only[DD];rw[hil];refine bA (λhlt=>?_) (λhge=>aI ?_)
    . have hlt:k<e.aB.length:=by omega
      obtain⟨q1,q2⟩:=he.p _ (dJ hlt);have htk:=j9 hlt;rw[<-htk];generalize hp0:e.aB[k]=p at*;have hrd:=Q2 h (v:=e.v) q1 hy;rw[hrf]at hrd;rw[hc']at q2;have hcd:dl (c p)<=K+Ku+4:=by rw[<-hc'];exact h.cu p e.v
      have hcoef:=K3 h q1 hev;rw[hc']at hcoef;have hrest:=SM h (e:=e.to) (v:=e.v) rfl q1 hyl hy hD;rw[hrf]at hrest;have hidx:idx e.to.aB (k:Int)=some (p:Int):=by
        show idx (e.aB.map Int.ofNat) _=_;rw[dA (by simpa using hlt),lG];rw[hp0];rfl
      refine Tm.bind (Q:=λt=>∃(lo' hi':Int) (hl' hh':Bool),t=(B lo',B hi',hl',hh')/\dl lo'<=K+Ku+D+9/\dl hi'<=K+Ku+D+9/\((c p<0/\hi'=hi/\hh'=hh/\hl'=true/\((hl=true/\lo'=max lo (-((rs p).fdiv (-c p))))\/(hl=false/\lo'=-((rs p).fdiv (-c p)))))\/(0<c p/\lo'=lo/\hl'=hl/\hh'=true/\((hh=true/\hi'=min hi ((rs p).fdiv (c p)))\/(hh=false/\hi'=(rs p).fdiv (c p))))))
        (aL hidx (aL (nJ q1) (aV hrest (aV hcoef (aV (jK (by omega)) ?_))))) ?_
      . refine bA (λhs=>?_) (λhs=>?_)
        . have hpos:0<c p:=by unfold bT at hs;(repeat' split at hs)<;>omega
          refine Tm.bind (pP (a:=rs p) (b:=c p) (by omega) (by omega)) ?_;rintro⟨q,qr,qo⟩ hq;dsimp only at hq⊢;subst hq;have hfd:=rU (rs p) (c p);refine Tm.bind (Q:=λb=>b=decide (hh=false\/(rs p).fdiv (c p)<hi)) (bA (λh3=>aI ?_) (λh3=>?_)) ?_
          . have:hh=false:=by simpa using h3
            simp[this]
          . have:hh=true:=by simpa using h3
            refine aV (ko (by omega) (by omega)) (aI ?_);subst this;simp[oN]
          . rintro _ rfl;refine bA (λh3=>aI ⟨lo,(rs p).fdiv (c p),hl,true,rfl,dlo,by omega,.inr ⟨hpos,rfl,rfl,rfl,?_⟩⟩) (λh3=>aI ⟨lo,hi,hl,hh,rfl,dlo,dhi,.inr ⟨hpos,rfl,rfl,?_,?_⟩⟩)
            . rcases iL h3 with h4|h4
              . exact .inr ⟨h4,rfl⟩
              . cases hh with
                |false=>exact .inr ⟨rfl,rfl⟩
                |true=>exact .inl ⟨rfl,by omega⟩
            . cases hh with
              |false=>exact bV (iM (.inl rfl)) h3
              |true=>rfl
            . cases hh with
              |false=>exact bV (iM (.inl rfl)) h3
              |true=>
                have:¬(rs p).fdiv (c p)<hi:=λe=>h3 (iM (.inr e));exact .inl ⟨rfl,by omega⟩
        . have hneg:c p<0:=by unfold bT at hs;(repeat' split at hs)<;>omega
          refine aV (ou (by omega)) (Tm.bind (pP (a:=rs p) (b:=-c p) (by omega) (by rw[gx];omega)) ?_);rintro⟨q,qr,qo⟩ hq;dsimp only at hq⊢;subst hq;have hfd:=rU (rs p) (-c p);refine aV (ou (by omega)) ?_;have hfd2:dl (-((rs p).fdiv (-c p)))<=K+Ku+D+9:=by rw[gx];omega
          refine Tm.bind (Q:=λb=>b=decide (hl=false\/lo< -((rs p).fdiv (-c p)))) (bA (λh3=>aI ?_) (λh3=>?_)) ?_
          . have:hl=false:=by simpa using h3
            simp[this]
          . have:hl=true:=by simpa using h3
            refine aV (ko (by omega) (by omega)) (aI ?_);subst this;have e:bT (-((rs p).fdiv (-c p))) lo>0↔lo< -((rs p).fdiv (-c p)):=by unfold bT;(repeat' split)<;>omega
            simp[e]
          . rintro _ rfl;refine bA (λh3=>aI ⟨-((rs p).fdiv (-c p)),hi,true,hh,rfl,by omega,dhi,.inl ⟨hneg,rfl,rfl,rfl,?_⟩⟩) (λh3=>aI ⟨lo,hi,hl,hh,rfl,dlo,dhi,.inl ⟨hneg,rfl,rfl,?_,?_⟩⟩)
            . rcases iL h3 with h4|h4
              . exact .inr ⟨h4,rfl⟩
              . cases hl with
                |false=>exact .inr ⟨rfl,rfl⟩
                |true=>exact .inl ⟨rfl,by omega⟩
            . cases hl with
              |false=>exact bV (iM (.inl rfl)) h3
              |true=>rfl
            . cases hl with
              |false=>exact bV (iM (.inl rfl)) h3
              |true=>
                have:¬lo< -((rs p).fdiv (-c p)):=λe=>h3 (iM (.inr e));exact .inl ⟨rfl,by omega⟩
      . rintro _ ⟨lo',hi',hl',hh',rfl,d1,d2,hcase⟩;refine aI ⟨hlt,lo',hi',hl',hh',by rw[eK (by have:=he.il;omega)],d1,d2,?_⟩;have happ:∀{P:Nat->Prop},(∀q∈e.aB.take k++[p],P q)↔(∀q∈e.aB.take k,P q)/\P p:=λ{P}=>by
          simp only[fe,cG];exact⟨λh=>⟨λq hq=>h q (.inl hq),h p (.inr rfl)⟩,λh q hq=>hq.elim (h.1 q) λe=>e▸h.2⟩
        rcases hcase with⟨hneg,rfl,rfl,rfl,hlo⟩|⟨hpos,rfl,rfl,rfl,hhi⟩
        . refine⟨λ_ z=>?_,λe=>(by cases e),λe z=>?_,λe=>happ.2 ⟨h2 e,by omega⟩⟩
          . rw[happ];have hg:=Rc (a:=rs p) (z:=z) hneg;rcases hlo with⟨g1,g2⟩|⟨g1,g2⟩
            . have:=l1 g1 z;constructor
              . intro g;exact⟨this.1 (by omega),λ_=>hg.1 (by omega)⟩
              . intro g;have:=this.2 g.1;have:=hg.2 (g.2 hneg);omega
            . constructor
              . intro g;exact⟨λq hq hq0=>bV hq0 (l2 g1 q hq),λ_=>hg.1 (by omega)⟩
              . intro g;have:=hg.2 (g.2 hneg);omega
          . rw[happ,h1 e z];exact⟨λg=>⟨g,λg'=>by omega⟩,λg=>g.1⟩
        . refine⟨λe z=>?_,λe=>happ.2 ⟨l2 e,by omega⟩,λ_ z=>?_,λe=>(by cases e)⟩
          . rw[happ,l1 e z];exact⟨λg=>⟨g,λg'=>by omega⟩,λg=>g.1⟩
          . rw[happ];have hg:=My (a:=rs p) (z:=z) hpos;rcases hhi with⟨g1,g2⟩|⟨g1,g2⟩
            . have:=h1 g1 z;constructor
              . intro g;exact⟨this.1 (by omega),λ_=>hg.1 (by omega)⟩
              . intro g;have:=this.2 g.1;have:=hg.2 (g.2 hpos);omega
            . constructor
              . intro g;exact⟨λq hq hq0=>bV hq0 (h2 g1 q hq),λ_=>hg.1 (by omega)⟩
              . intro g;have:=hg.2 (g.2 hpos);omega
    . rw[fC (by omega)]at l1 l2 h1 h2;exact⟨lo,hi,hl,hh,rfl,dlo,dhi,l1,l2,h1,h2⟩
  . rintro _ ⟨lo,hi,hl,hh,rfl,dlo,dhi,l1,l2,h1,h2⟩;have hall:∀z,(∀p∈e.aB,hx s (ux s (cS (vf y) e.v z)) p)↔(∀p∈e.aB,c p<0->c p*z<=rs p)/\∀p∈e.aB,0<c p->c p*z<=rs p:=λz=>by
      constructor
      . exact λg=>⟨λp hp _=>(hxr p z).1 (g p hp),λp hp _=>(hxr p z).1 (g p hp)⟩
      . rintro⟨g1,g2⟩ p hp;have hne:=(he.p p hp).2;rw[hc']at hne;rcases rS hne with g|g
        . exact(hxr p z).2 (g1 p hp g)
        . exact(hxr p z).2 (g2 p hp g)
    dsimp only;refine bA (λg=>aI ⟨hi,rfl,dhi,λ_=>(hall hi).2 ⟨λp hp hp0=>bV hp0 (l2 (by simpa using g) p hp),?_⟩,λe=>(by cases e)⟩) (λg=>?_)
    . cases hh with
      |true=>exact(h1 rfl hi).1 (lF _)
      |false=>exact λp hp hp0=>bV hp0 (h2 rfl p hp)
    . have hl1:hl=true:=by simpa using g
      refine bA (λg2=>aI ⟨lo,rfl,dlo,λ_=>(hall lo).2 ⟨(l1 hl1 lo).1 (lF _),λp hp hp0=>bV hp0 (h2 (by simpa using g2) p hp)⟩,λe=>(by cases e)⟩) (λg2=>?_);have hh1:hh=true:=by simpa using g2
      refine aV (ko (by omega) (by omega)) (aI ⟨lo,rfl,dlo,λg3=>(hall lo).2 ⟨(l1 hl1 lo).1 (lF _),(h1 hh1 lo).1 (xE.1 (iL g3))⟩,λg3=>?_⟩);rintro⟨z,hz⟩;obtain⟨z1,z2⟩:=(hall z).1 hz;have:=(l1 hl1 z).2 z1;have:=(h1 hh1 z).2 z2;exact ui g3 (xE.2 (by omega))
end
end Go.D
namespace Go.D
open Go Go.X
section
variable {K Ku:Nat} {s:St}
theorem Dt{c:List aC}{k:Nat}{b:aC}(h:idx c (k:Int)=some b)(hk:k<c.length):c.set k b=c:=by
 rw[dA hk]at h;obtain rfl:=jh h;exact List.set_getElem_self hk
theorem Uu(h:kE K Ku s){D:Nat}{y:List Int}(hyl:y.length=s.n)(hy:∀j,dl (vf y j)<=D)(hD:D<=549755813888):
 Tm (λN=>qJ N s.to (mB y)) (·=mB (vec s.n λi=>ux s (vf y) i)):=by
 have hL:dh=1099511627776:=rfl;have hK:=h.hK;have oI:=h.oI;have hn:=h.n;unfold qJ;refine aL (iy (n:=s.n) rfl (by omega) (by decide)) ?_;rw[<-og];refine aV (Tm.tC (n:=s.n) (by omega) (λi=>ux s (vf y) i) (by simp) (fin:=id) ?_ ?_) (aI rfl)
 . intro k hk c hc hi;dsimp only[zL];rw[show vf (List.replicate s.n (0:Int)) k=0 by rw[wZ,dF hk]]at hi;refine cR (by rw[dT,lE];omega) ?_;obtain⟨r,hr,hrl,hrv⟩:=KZ h hk;refine aV (a:=c.set k (B (ux s (vf y) k))) (e9 s.n (λj t=>t=(c.set k (B (bK (mx s.u k) (vf y) j)),(j:Int))) (by show(_,_)=_;rw[show bK (mx s.u k) (vf y) 0=0 from rfl,Dt hi (by omega)];rfl) ?_) (aI rfl);rintro j hj _ rfl;dsimp only[G1];rw[dT,hyl];refine bA (λhlt=>?_) (λhge=>aI ?_)
   . have hlt:j<s.n:=by omega
     have d1:=h.mx k j;have d2:=hy j;have d3:=sP (f:=mx s.u k) (g:=vf y) (λj=>h.mx k j) hy j;have d4:=kD (mx s.u k j) (vf y j);have hci:∀b:aC,idx (c.set k b) (k:Int)=some b:=λb=>lk (by rw[zl (by omega)]);refine aL (hci _) (aL hr (aL (eD (l:=r) (by omega)) (aL (eD (l:=y) (by omega)) ?_)));rw[hrv];refine aV (ox (by omega) (by omega)) (aV (mf (by omega) (by omega)) (aL (hci _) (aL (eE rfl (by rw[iK];omega)) (aI ⟨hlt,?_⟩))));rw[List.set_set,eK (by omega)];rfl
   . have:j=s.n:=by omega
     subst this;rfl
 . intro c hc;dsimp only[zL];exact cD (by rw[dT,lE];omega) (aI rfl)
theorem RQ{y:List Int}{v:Nat}{z:Int}(hv:v<y.length):vf (y.set v z)=cS (vf y) v z:=by
 funext j;rw[jZ hv];unfold cS;by_cases e:v=j
 . rw[bD e,bD e.symm]
 . rw[aY e,aY λh=>e h.symm]
theorem JA{α:Type}{P:Nat->α->Prop}:∀{l:List α},(∀e∈l,∃N0,∀N,N0<=N->P N e)->∃N0,∀N,N0<=N->∀e∈l,P N e
 |[],_=>⟨0,λ_ _ e he=>by cases he⟩
 |a::l,h=>by
  obtain⟨N1,h1⟩:=h a cX;obtain⟨N2,h2⟩:=JA (P:=P) (l:=l) λe he=>h e (cO _ he);refine⟨max N1 N2,λN hN e he=>?_⟩;rcases ej.1 he with rfl|he
  . exact h1 N (by omega)
  . exact h2 N (by omega) e he
theorem Nc{y:List Int}{e:AE}{z:Int}(hv:e.v<y.length):dM (mB y) e.to.v (B z)=some (mB (y.set e.v z)):=by
 rw[show e.to.v=(e.v:Int) from rfl,eE (n:=e.v) rfl (by rw[dT];exact hv),sV]
theorem J6{y:List Int}{v D D':Nat}{z:Int}(hv:v<y.length)(hy:∀j,dl (vf y j)<=D)(hz:dl z<=D')(h:D<=D')(j:Nat):dl (vf (y.set v z) j)<=D':=by
 rw[jZ hv];split
 . exact hz
 . exact bU (hy j) h
theorem Mu(h:kE K Ku s)(hE:∀e∈s.aK,pQ s e):∀(k D:Nat) (y:List Int),y.length=s.n->(∀j,dl (vf y j)<=D)->D+k*(K+Ku+9)<=549755813888->∃N0,∀N,N0<=N->oE N s.to k (mB y)=true
 |0,D,y,_,_,_=>⟨0,λ_ _=>rfl⟩
 |k+1,D,y,hyl,hy,hD=>by
  rw[ig]at hD;have key:=JA (P:=λN (e:AE)=>(match oB N s.to e.to (mB y)with|none=>false|some (n,ok)=>if ok then(match dM (mB y) e.to.v n with|none=>false|some y=>oE N s.to k y)else true)=true) (l:=s.aK) λe he=>by
   obtain⟨⟨zb,ok⟩,N1,⟨z,hz,hzd,-,-⟩,hN⟩:=Jk h (hE e he) hyl hy (by omega);dsimp only at hz;subst hz;have hv:e.v<y.length:=by rw[hyl];exact(hE e he).v
   obtain⟨N2,h2⟩:=Mu h hE k (K+Ku+D+9) (y.set e.v z) (by rw[iK];exact hyl) (J6 hv hy hzd (by omega)) (by omega);refine⟨max N1 N2,λN hNN=>?_⟩;rw[show oB N s.to e.to (mB y)=some (B z,ok) from hN N (by omega)];dsimp only;cases ok with
   |false=>rfl
   |true=>
    rw[bD rfl,Nc hv];exact h2 N (by omega)
  obtain⟨N0,h0⟩:=key;refine⟨N0,λN hN=>?_⟩;show(s.aK.map AE.to).all _=true;rw[tY];intro x hx;obtain⟨e,he,rfl⟩:=dR.1 hx;exact h0 N hN e he
theorem QX{c:List Int}{v:Nat}{y:Nat->Int}{z:Int}(hv:v<s.n)(h:cu s.u s.n c v=0):bK (vf c) (ux s (cS y v z)) s.n=bK (vf c) (ux s y) s.n:=by
 rw[zC,zC,tM hv,h];simp
theorem Rm(hI:Inv s)(hi:s.aB=[]){k:Nat}{e:AE}(hk:s.aK[k]?=some e){y:Nat->Int}{z:Int}(hy:Hs s y (k+1))(hz:∀p∈e.aB,hx s (ux s (cS y e.v z)) p):Hs s (cS y e.v z) k:=by
 obtain⟨h1,h2,h3⟩:=hy;have hm:=nR hk;obtain⟨e1,e2,e3⟩:=hI.sv e hm;have hkl:k<s.aK.length:=(ep.1 hk).1;have hek:s.aK[k]=e:=(ep.1 hk).2;refine⟨λj hj hst=>?_,λx hx=>(by rw[hi]at hx;cases hx),λe' he' p hp=>?_⟩
 . have:j≠e.v:=λh=>by rw[h,e2]at hst;omega
   unfold cS;rw[aY this];exact h1 j hj hst
 . rw[fJ hkl,hek]at he';rcases ej.1 he' with rfl|he'
   . exact hz p hp
   . have h4:=h3 e' he' p hp;have h5:cu s.u s.n (aH s.aA p).c e.v=0:=by
      have h6:=Oh.1 hI.sd;obtain⟨m,hm',rfl⟩:=nU he';rw[Ho]at hp;rw[wL]at hm';have:=(h6 k (k+1+m) hkl (by omega) (by omega)).2 p hp;rw[hek]at this;exact this
     unfold hx at h4⊢;rw[QX e1 h5];exact h4
theorem JW(h:kE K Ku s)(hI:Inv s)(hi:s.aB=[])(hE:∀e∈s.aK,pQ s e)(hF:∀k e,s.aK[k]?=some e->e.dP=false->∀y,Hs s y (k+1)->∃z,∀p∈e.aB,hx s (ux s (cS y e.v z)) p):
 ∀(k D:Nat) (y:List Int),k<=s.aK.length->y.length=s.n->(∀j,dl (vf y j)<=D)->D+k*(K+Ku+9)<=549755813888->Hs s (vf y) k->
  Tm (λN=>iD N s.to ((s.aK.take k).map AE.to).reverse (mB y)) (λr=>(∃y':List Int,r=.inl (mB y')/\y'.length=s.n/\(∀j,dl (vf y' j)<=D+k*(K+Ku+9))/\Hs s (vf y') 0)\/∃e∈s.aK,e.dP=true/\r=.inr (e.v:Int))
 |0,D,y,_,hyl,hy,_,hh=>aI (.inl ⟨y,rfl,hyl,λj=>by have:=hy j;omega,hh⟩)
 |k+1,D,y,hk,hyl,hy,hD,hh=>by
  rw[ig]at hD;have hkl:k<s.aK.length:=hk;obtain⟨e,he⟩:∃e,s.aK[k]?=some e:=⟨_,cy hkl⟩;have hm:=nR he;have hek:s.aK[k]=e:=(ep.1 he).2;have hv:e.v<y.length:=by rw[hyl];exact(hE e hm).v
  have e1:((s.aK.take (k+1)).map AE.to).reverse=e.to::((s.aK.take k).map AE.to).reverse:=by
   rw[<-j9 hkl,hek,jP,Oa];rfl
  rw[e1];show Tm (λN=>(oB N s.to e.to (mB y)).bind _) _;refine Tm.bind (Jk h (hE e hm) hyl hy (by omega)) ?_;rintro⟨zb,ok⟩ ⟨z,hz,hzd,g1,g2⟩;dsimp only at hz g1 g2⊢;subst hz;refine bA (λh1=>?_) (λh1=>aI (.inr ⟨e,hm,?_,rfl⟩))
  . refine aL (Nc hv) ?_;refine(JW h hI hi hE hF k (K+Ku+D+9) (y.set e.v z) (by omega) (by rw[iK];exact hyl) (J6 hv hy hzd (by omega)) (by omega) ?_).mono ?_
    . rw[RQ hv];exact Rm hI hi he hh (g1 h1)
    . rintro r (⟨y',a1,a2,a3,a4⟩|a)
      . exact .inl ⟨y',a1,a2,λj=>by have:=a3 j;rw[ig];omega,a4⟩
      . exact .inr a
  . cases ht:e.dP with
    |true=>rfl
    |false=>exact bV (hF k e he ht (vf y) hh) (g2 (by simpa using h1))
theorem EC(hI:Inv s):s.aK.length<=s.n:=by
 have hn:(s.aK.map AE.v).Nodup:=by
  unfold List.Nodup;rw[HG];exact hI.sd.imp λh=>h.1
 have:=V4 (l₂:=List.range s.n) hn (λv hv=>by
  obtain⟨e,he,rfl⟩:=dR.1 hv;exact tZ.2 (hI.sv e he).1)
 simpa using this
abbrev qR:Proof:=Proof.mk [] [] (aC.mk false []) []
theorem Vz(h:kE K Ku s)(hI:Inv s)(hi:s.aB=[])(hE:∀e∈s.aK,pQ s e)(hF:∀k e,s.aK[k]?=some e->e.dP=false->∀y,Hs s y (k+1)->∃z,∀p∈e.aB,hx s (ux s (cS y e.v z)) p):
    Tm (λN=>tN N s.to) (λr=>(∃x:List Int,r=cz.mk 0 (mB x) qR 0/\x.length=s.n/\(∀v∈x,dl v<=4*K+6*Ku+40)/\∃y,Hs s y 0/\∀i,i<s.n->vf x i=ux s y i)\/∃e∈s.aK,e.dP=true/\r=cz.mk 2 [] qR (e.v:Int)):=by
  have hL:dh=1099511627776:=rfl;have hK:=h.hK;have oI:=h.oI;have hn:=h.n;have hst:=EC hI;unfold tN;refine aL (iy (n:=s.n) rfl (by omega) (by decide)) ?_;rw[<-og];refine aV (a:=mB (vec s.n λj=>if vf s.aN j=1 then vf s.value j else 0)) ((Tm.tC (n:=s.n) (by omega) (λj=>if vf s.aN j=1 then vf s.value j else 0) (by simp) (fin:=id) ?_ ?_)) ?_
  . intro k hk c hc hi';rw[show vf (List.replicate s.n (0:Int)) k=0 by rw[wZ,dF hk]]at hi';dsimp only[Bl];refine cR (by rw[dT,lE];omega) (aV (a:=c.set k (B (if vf s.aN k=1 then vf s.value k else 0))) (aL (Bd (l:=s.aN) (by rw[hI.gw];exact hk)) (bA (λh1=>?_) (λh1=>aI ?_))) (aI rfl))
    . refine aL (eD (l:=s.value) (by rw[hI.vl];exact hk)) (aL hi' (aL (eE rfl (by omega)) (aI ?_)));rw[bD h1]
    . rw[aY h1,Dt hi' (by omega)]
  . intro c hc;dsimp only[Bl];exact cD (by rw[dT,lE];omega) (aI rfl)
  generalize hy0:(vec s.n λj=>if vf s.aN j=1 then vf s.value j else 0)=y0;have y0l:y0.length=s.n:=by rw[<-hy0];exact eZ
  have y0d:∀j,dl (vf y0 j)<=Ku:=λj=>by
    rcases cH j s.n with hj|hj
    . rw[<-hy0,dF hj];split
      . exact h.u.v.vf j
      . rw[iq];omega
    . rw[lO (by omega),iq];omega
  have hsl:s.to.aK.length=s.aK.length:=cT ..;have hmul:s.aK.length*(K+Ku+9)<=4*(K+Ku+9):=o5 _ (by omega);have hh:Hs s (vf y0) s.aK.length:=⟨λj hj hs=>by rw[<-hy0,dF hj,bD hs],λx hx=>(by rw[hi]at hx;cases hx),λe he=>(by rw[Dd]at he;cases he)⟩;obtain⟨N1,hN1⟩:=Mu h hE s.aK.length Ku y0 y0l y0d (by omega);have hback:=JW h hI hi hE hF s.aK.length Ku y0 (bO _) y0l y0d (by omega) hh;rw[uf]at hback;have key:Tm (λN=>(iD N s.to s.to.aK.reverse (mB y0)).bind λ
      |.inr v=>some (cz.mk 2 [] (Proof.mk [] [] (aC.mk false []) []) v)
      |.inl y=>(qJ N s.to y).bind λx=>some (cz.mk 0 x (Proof.mk [] [] (aC.mk false []) []) 0)) (λr=>(∃x:List Int,r=cz.mk 0 (mB x) qR 0/\x.length=s.n/\(∀v∈x,dl v<=4*K+6*Ku+40)/\∃y,Hs s y 0/\∀i,i<s.n->vf x i=ux s y i)\/∃e∈s.aK,e.dP=true/\r=cz.mk 2 [] qR (e.v:Int)):=by
    refine Tm.bind (show Tm (λN=>iD N s.to s.to.aK.reverse (mB y0)) _ from hback) ?_;rintro _ (⟨y,rfl,yl,yd,yh⟩|⟨e,he,ht,rfl⟩)
    . dsimp only;refine aV (Uu h yl yd (by omega)) (aI (.inl ⟨_,rfl,eZ,λv hv=>?_,vf y,yh,λi hi'=>dF hi'⟩));obtain⟨i,hi',rfl⟩:=gC hv;rw[eZ]at hi';rw[dF hi'];have:=sP (f:=mx s.u i) (g:=vf y) (λj=>h.mx i j) yd s.n;show dl (bK _ _ _)<=_;omega
    . exact aI (.inr ⟨e,he,ht,rfl⟩)
  obtain⟨a,N2,ha,hN2⟩:=key;refine⟨a,max N1 N2,ha,λN hN=>?_⟩;show(if s.to.aK.length<=9223372036854775807/\oE N s.to s.to.aK.length (mB y0)=true then _ else none)=_;rw[hsl,bD ⟨by omega,hN1 N (by omega)⟩];exact hN2 N (by omega)
end
open Go Go.X
def qd(N:Nat)(x:Int)(y:Int)(c:Int)(equal:Bool):Option Constraint:= some (Constraint.mk (Linear.mk c [(iE.mk 0 x),(iE.mk 1 y)]) equal)
def GQ(N:Nat)(l:(List Constraint)):((List Constraint)×Int)->Option (aJ ((List Constraint)×Int) (List Constraint))
 |(c,a)=>(if(a:Int)<(List.length l:Int)then (idx l a).bind λb=>(cZ 16 ([]:(List iE)) b.Linear.bE).bind λd=>(cZ 40 c [(Constraint.mk (Linear.mk b.Linear.Const d) b.jg)]).bind λe=>some (aJ.next (e,(iw (a+1)))) else some (aJ.done c))
def nD(N:Nat)(l:(List Constraint)):Option (List Constraint):=(bS (GQ N l) N (([]:(List Constraint)),0)).bind λss=>match ss with
  |a=>some a
def oR(N:Nat)(n:Int)(l:(List Constraint)):Option (Bool×Bool):=(nD N l).bind λr1=>(rI N n r1).bind λr2=>(if r2.2.2=true then (if((List.length r2.1:Int):Int)=n then (uv N l r2.1).bind λr9=>some (true,r9) else some (true,false)) else (if((List.length r2.1:Int):Int)=0 then (sh N n l r2.2.1).bind λa=>some (false,a) else some (false,false)))
def vX(N:Nat):Option Bool:=(qd N 3 (-5) (-1) true).bind λr1=>(qd N 1 0 (-10) false).bind λr2=>(qd N (-1) 0 3 false).bind λr3=>(rI N 2 [r1,r2,r3]).bind λr4=>(wC N 2 [r1,r2,r3] 0).bind λr5=>(qd N 4 (-3) 2 false).bind λr6=>(qd N (-4) 3 (-1) false).bind λr7=>(rI N 2 [r6,r7]).bind λr8=>(qd N 2 (-2) (-1) true).bind λr9=>(rI N 2 [r9]).bind λa=>(if r4.2.2=true then (if((List.length r4.1:Int):Int)=2 then (idx r4.1 0).bind λb=>(jX N 7).bind λc=>(qh N b c).bind λd=>(if d=true then (idx r4.1 1).bind λe=>(jX N 4).bind λf=>(qh N e f).bind λg=>(if g=true then (if r5.2=true then (jX N 7).bind λi=>(qh N r5.1 i).bind λj=>(if j=true then (if(!r8.2.2)=true then (sh N 2 [r6,r7] r8.2.1).bind λk=>(if k=true then (if(!a.2.2)=true then (qd N 2 (-2) (-1) true).bind λl=>(sh N 2 [l] a.2.1).bind λm=>some m else some false) else some false) else some false) else some false) else some false) else some false) else some false) else some false) else some false)
def CS(N:Nat)(n:Int)(l:(List Constraint))(v:Int):Option Bool:=((((vX N).bind λg=>(if(!g)=true then some true else (xb N n l 7).bind λi=>(if(!i)=true then some true else (if(v:Int)<0 then some true else some (decide ((v:Int)≥n)))))):Option Bool)).bind λss=>match ss with
  |x7=>(if x7=true then (vX N).bind λj=>some j else (nD N l).bind λk=>(wC N n k v).bind λb=>(if(!b.2)=true then (oR N n l).bind λc=>((((if(!c.2)=true then some true else (jX N 0).bind λm=>(qh N b.1 m).bind λo=>some (!o))):Option Bool)).bind λss=>match ss with
      |p=>(if p=true then some false else (if(!c.1)=true then some true else (nD N l).bind λs=>(sG N v (-10000000)).bind λu=>(cZ 40 s [u]).bind λy=>(oR N n y).bind λd=>(if d.1=true then some d.2 else some false))) else (xz N b.1).bind λa=>((((if(!a.2)=true then some true else (if(a.1:Int)>1152921504606846976 then some true else some (decide ((a.1:Int)<(-1152921504606846976)))))):Option Bool)).bind λss=>match ss with
      |a0=>(if a0=true then some true else (nD N l).bind λa1=>(oIs N v a.1).bind λa2=>(cZ 40 a1 [a2]).bind λa3=>(oR N n a3).bind λe=>(nD N l).bind λa4=>(sG N v (iw (a.1-1))).bind λa5=>(cZ 40 a4 [a5]).bind λa6=>(oR N n a6).bind λf=>(if e.1=true then (if e.2=true then (if(!f.1)=true then some f.2 else some false) else some false) else some false))))
end Go.D
set_option maxRecDepth 1000000
set_option maxHeartbeats 4000000
namespace Go.D
theorem OQ(N:Nat):vX (N+100)=some true:=by kernel_rfl
open Go Go.X
theorem J5:Tm (λN=>vX N) (λr=>r=true):=⟨true,100,rfl,λN hN=>by rw[show N=(N-100)+100 by omega];exact OQ _⟩
def DY(l:List Constraint)(n:Int):Prop:=(∀c∈l,fM c n)/\0<=n/\n<=512
theorem UA{n:Int}{l:List Constraint}(hl:l.length<=9223372036854775807)(hc:∀c∈l,c.Linear.bE.length<=9223372036854775807):
 Tm (λN=>xN N n l) (λr=>r=true↔DY l n):=by
 unfold xN;refine Tm.bind (Tm.each (body:=λN=>xH N l n) l (λc=>fM c n) (Q:=λr=>(r=.inr false/\¬DY l n)\/(r=.inl ()/\∀c∈l,fM c n)) hl ?_ ?_) ?_
 . intro k hk _;dsimp only[xH];refine cR (by omega) (aL (dA hk) (Tm.bind (EY (hc _ (dJ hk))) λr hr=>bA (λh=>aW (.inr ⟨_,rfl,.inl ⟨rfl,λha=>?_⟩⟩)) (λh=>aW (.inl ⟨rfl,hr.1 (by simpa using h)⟩))));have:=hr.2 (ha.1 _ (dJ hk));simp[this]at h
 . intro h;dsimp only[xH];exact cD (by omega) (aW ⟨_,rfl,.inr ⟨rfl,h⟩⟩)
 . rintro _ (⟨rfl,h⟩|⟨rfl,h⟩)
   . exact aW ⟨λe=>(by cases e),λe=>bV e h⟩
   . refine bA (λh1=>aW ?_) (λh1=>aW ?_)
     . simp only[decide_eq_true_eq];exact⟨λh2=>⟨h,h1,h2⟩,λh2=>h2.2.2⟩
     . exact⟨λe=>(by cases e),λe=>bV e.2.1 h1⟩
def pH(f:Linear)(x:List aC):Nat->Int
 |0=>f.Const
 |k+1=>pH f x k+(f.bE.getD k ⟨0,0⟩).N*bv (x.getD (f.bE.getD k ⟨0,0⟩).Var.toNat fj)
def rm(c:Constraint)(x:List aC):Bool:=decide (0<pH c.Linear x c.Linear.bE.length)||(decide (pH c.Linear x c.Linear.bE.length<0)&&c.jg)
theorem getDk{l:List iE}{n:Nat}(h:n<l.length):l.getD n ⟨0,0⟩=l[n]:=by rw[cN,cy h];rfl
structure D7 (f:Linear)(x:List aC):Prop where
 len:f.bE.length<=1073741824
 const:fY f.Const
 lM:∀k∈f.bE,fY k.N/\0<=k.Var/\k.Var<x.length
 x:∀b∈x,jY 137438953472 b
theorem FH{a:Int}:bT a 0>0↔0<a:=by unfold bT;(repeat' split)<;>omega
theorem Vq{f:Linear}{x:List aC}(h:D7 f x):Tm (λN=>xa N f x) (λr=>bF aE r.aQ/\r.aQ.length<=274877906944/\bv r=pH f x f.bE.length):=by
 unfold xa;refine Tm.bind (px h.const.1 h.const.2) ?_;rintro b ⟨hb,hbl⟩;refine Tm.bind (Q:=λr=>bF aE r.aQ/\r.aQ.length<=274877906944/\bv r=pH f x f.bE.length) (e9 f.bE.length (λk s=>s.2=(k:Int)/\bF aE s.1.aQ/\s.1.aQ.length<=137438953476+k/\bv s.1=pH f x k) ⟨rfl,hb.dg.bP,by dsimp only;omega,hb.bv⟩ ?_) λr hr=>aI hr;rintro k hk ⟨s,i⟩ ⟨rfl,h1,h2,h3⟩;dsimp only at h1 h2 h3;dsimp only[FM];have hL:=h.len;refine bA (λhlt=>?_) (λhge=>aI ?_)
 . have hlt:k<f.bE.length:=by omega
   obtain⟨g1,g2,g3⟩:=h.lM _ (dJ hlt);refine aL (dA hlt) (Tm.bind (px g1.1 g1.2) ?_);rintro e ⟨he,hel⟩;have hv:(f.bE[k].Var).toNat<x.length:=by omega
   obtain⟨x1,x2⟩:=h.x _ (dJ hv);refine aL (dA hlt) (aL (gW (n:=(f.bE[k].Var).toNat) (by omega) hv) (Tm.bind (F6 he.dg.bP x1 (by omega) (by omega)) ?_));rintro p ⟨hp,hpl⟩;refine Tm.bind (ye h1 hp.dg.bP (by omega) (by omega)) ?_;rintro q ⟨hq,hql⟩;refine aI ⟨hlt,eK (by omega),hq.dg.bP,by dsimp only;omega,?_⟩;dsimp only;rw[hq.bv,hp.bv,he.bv,h3,pH,getDk hlt,sy hv]
 . have:k=f.bE.length:=by omega
   subst this;exact⟨h1,by omega,h3⟩
theorem Rz{l:List Constraint}{x:List aC}(hl:l.length<=9223372036854775807)(h:∀c∈l,D7 c.Linear x):Tm (λN=>uv N l x) (·=l.all (λc=>!rm c x)):=by
 unfold uv;refine aV (Tm.allL (b:=λN=>xP N l x) l (λc=>!rm c x) hl ?_ ?_) ?_
 . intro k hk;dsimp only[xP];refine cR (by omega) (aL (dA hk) (Tm.bind (Vq (h _ (dJ hk))) ?_));rintro r ⟨h1,h2,h3⟩;refine Tm.bind (mr h1 (by omega)) ?_;rintro _ rfl;rw[h3];refine Tm.bind (Q:=(·=rm l[k] x)) (bA (λhp=>aI ?_) (λhp=>bA (λhq=>aL (dA hk) (aI ?_)) (λhq=>aI ?_))) ?_
   . rw[FH]at hp;simp[rm,hp]
   . rw[B3]at hq;simp[rm,hq];omega
   . rw[FH]at hp;rw[B3]at hq;simp[rm,hp,hq]
   rintro _ rfl;refine bA (λh=>aI ?_) (λh=>aI ?_)
   . simp[h]
   . simp[h]
 . dsimp only[xP];exact cD (by omega) (aI rfl)
 . cases l.all (λc=>!rm c x)with
   |true=>exact aI rfl
   |false=>exact aI rfl
end Go.D
set_option maxHeartbeats 1000000
namespace Go.D
open Go Go.X
section
variable {K:Nat} {s:St}
structure pE (s:St):Prop where
 n:s.n<=4
 ul:s.u.length=s.n
 gw:s.aN.length=s.n
 vl:s.value.length=s.n
 il:s.aB.length<=1073741824
 kl:s.aA.length<=1073741824
theorem Inv.cp(h:Inv s)(hn:s.n<=4)(hil:s.aB.length<=1073741824)(hkl:s.aA.length<=1073741824):pE s:=⟨hn,h.ul.1,h.gw,h.vl,hil,hkl⟩
theorem Bi(h:pE s):Tm (λN=>qy N s.to) (·=s.to):=by
 have:=h.n;have:=h.ul;have:=h.gw;have:=h.vl;have:=h.il;unfold qy;refine aV (a:=s.to.aA) (aI rfl) (aV (a:=s.to.aU) (aI rfl) ?_);refine aV (a:=s.to.u) ?_ (aV (a:=s.to.aN) ?_ (aV (a:=s.to.value) (BF (l:=s.value) (by omega)) (aV (a:=s.to.aB) ?_ (aV (a:=s.to.aK) (aI rfl) (aI rfl)))))
 . unfold zU;exact aL (eb (by show(_+(s.u.map mB).length)*_<=_;rw[cT];simp only[dZ];omega) (by decide)) (aI (jz _))
 . unfold By;exact aL (eb (by show(_+s.aN.length)*_<=_;simp only[dZ];omega) (by decide)) (aI (jz _))
 . unfold rE;exact aL (eb (by show(_+(s.aB.map AI.to).length)*_<=_;rw[cT];simp only[dZ];omega) (by decide)) (aI (jz _))
def dc(s:St)(q:AQ):St:={s with aA:=s.aA++[q],aU:=[]}
theorem uV{q:AQ}(h:pE s):Tm (λN=>nt N s.to q.to) (·=(dc s q).to):=by
 have:=h.kl;unfold nt;refine aV (Bi h) (aL (eb (by show((s.aA.map AQ.to).length+_)*_<=_;simp only[cT,cJ,dZ];omega) (by decide)) (aI ?_));unfold dc St.to;simp
def sC(l:List AI)(p p':Nat):List AI:=l.map λx=>if x.pos=p then{x with pos:=p'}else x
theorem H8{l:List AI}{p p':Nat}(hl:l.length<=1073741824):Tm (λN=>wg N (mI l) (p:Int) (p':Int)) (·=mI (sC l p p')):=by
 unfold wg;refine aV (a:=mI l) ?_ ?_
 . unfold rE;exact aL (eb (by rw[fG];simp only[dZ];omega) (by decide)) (aI (jz _))
 . refine aV (a:=mI (sC l p p')) ((Tm.fill (n:=l.length) (by omega) (c0:=mI l) (λk=>(if(l.getD k ⟨0,[]⟩).pos=p then({(l.getD k ⟨0,[]⟩)with pos:=p'}:AI)else l.getD k ⟨0,[]⟩).to) (fG l) (fin:=id) ?_ ?_).mono ?_) (aI rfl)
   . intro k hk c hc hi;have e0:(mI l)[k]?=some (l[k]).to:=by unfold mI;rw[ij,cy hk];rfl
     rw[e0]at hi;dsimp only[Cd];rw[show l.getD k ⟨0,[]⟩=l[k] by rw[cN,cy hk];rfl];refine cR (by rw[fG];omega) (aL (lk hi) (bA (λh=>?_) (λh=>aI ?_)))
     . have h:((l[k]).pos:Int)=(p:Int):=h;refine aL (lk hi) (aL (eE rfl (by omega)) (aI ?_));rw[bD (by omega)];rfl
     . have h:¬((l[k]).pos:Int)=(p:Int):=h;rw[aY (by omega)];have:c.set k (l[k]).to=c:=by
        obtain⟨h1,h2⟩:=ep.1 hi;rw[<-h2];exact List.set_getElem_self h1
       rw[this]
   . intro c hc;dsimp only[Cd];exact cD (by rw[fG];omega) (aI rfl)
   . intro r hr;rw[hr,id];unfold mI sC;rw[mV];exact xZ (f:=λx:AI=>(if x.pos=p then({x with pos:=p'}:AI)else x).to)
theorem OY{v:Nat}(hi:jd s.n s.aB)(hv:v<s.n)(hne:cM v s.aB≠[]\/dL v s.aB=[]):Tm (λN=>xh N s.to (v:Int)) (λr=>∃t,r=B t/\dl t<=dh):=by
 have hL:dh=1099511627776:=rfl;have hlo:=yR (v:=v) hi;have hll:=hlo.1;unfold xh;refine aV (yW hi hv) ?_;refine Tm.bind (Q:=λr=>∃t,r=B t/\dl t<=dh) (e9 (dL v s.aB).length (λk t=>∃c,t=(B c,(k:Int))/\dl c<=20+k) ⟨0,by rw[B0];rfl,by rw[iq];omega⟩ ?_) λr hr=>aI hr;rintro k hk _ ⟨c,rfl,hc⟩;dsimp only[Gn];rw[fG];refine bA (λhlt=>?_) (λhge=>aI ⟨c,rfl,by omega⟩);have hlt:k<(dL v s.aB).length:=by omega
 have hm:=dJ hlt;have hun:cM v s.aB≠[]:=by
  rcases hne with h|h
  . exact h
  . rw[h]at hlt;cases hlt
 have hsd:=yJ (low:=(dL v s.aB)[k]) (qj (v:=v) hi) hun (hlo.vf hm v);refine Tm.bind (Q:=λr=>∃c,r=B c/\dl c<=20+(k+1)) (aL (pT hlt) (aV (xO (qj (v:=v) hi) hun (hlo.2 _ hm).1 (hlo.vf hm v) hv) (aV (jK (by omega)) (bA (λh2=>?_) (λh2=>aI ⟨c,rfl,by omega⟩))))) ?_
 . have h1:dl 1<=18:=bU jL (by decide);have ha:=oz hsd h1;refine aV (iO (by decide) (by decide)) (aV (mf (by omega) (by omega)) (aV (mf (by omega) (by omega)) (aI ⟨_,rfl,?_⟩)));have:=oz (K:=20+k) hc (show dl (ic v (dL v s.aB)[k] (cM v s.aB)+1)<=20+k by omega);omega
 . rintro _ ⟨c',rfl,hc'⟩;exact aI ⟨hlt,c',by rw[eK (by omega)],hc'⟩
def sS(n:Nat)(g:List Int)(w:Nat):Prop:=w<n/\vf g w≠0/\∀j,j<n->j≠w->vf g j=0
theorem Jl{n:Nat}{x:AI}(hl:x.g.length=n)(hn:n<=512)(hd:∀v∈x.g,dl v<=8):Tm (λN=>uq N x.to) (λr=>r.2=true->∃w:Nat,r.1=(w:Int)/\sS n x.g w):=by
 have hL:dh=1099511627776:=rfl;unfold uq;refine Tm.bind (Q:=λt:Int×Int=>t.2=1->∃w:Nat,t.1=(w:Int)/\sS n x.g w)
  (e9 n (λk t=>t.2.2=(k:Int)/\0<=t.2.1/\t.2.1<=(k:Int)/\(t.2.1=0->∀j,j<k->vf x.g j=0)/\(t.2.1=1->∃w:Nat,t.1=(w:Int)/\w<k/\vf x.g w≠0/\∀j,j<k->j≠w->vf x.g j=0)) ⟨rfl,lF _,lF _,λ_ j hj=>by omega,λe=>by cases e⟩ ?_) ?_
 . rintro k hk ⟨a,m,i⟩ ⟨rfl,hm0,hmk,h0,h1⟩;dsimp only at hm0 hmk h0 h1;dsimp only[FP];rw[show x.to.g.length=n from(dT _).trans hl];refine bA (λhlt=>?_) (λhge=>aI ?_)
   . have hlt:k<n:=by omega
     refine aL (eD (l:=x.g) (by omega)) (aV (jK (bU (hd _ (gz (by omega))) (by decide))) (bA (λhs=>aI ?_) (λhs=>aI ?_)))
     . have hs:=py.1 hs;have hw:iw (m+1)=m+1:=bL (by omega) (by omega);refine⟨hlt,eK (by omega),by dsimp only;rw[hw];omega,by dsimp only;rw[hw];omega,λe=>by dsimp only at e;rw[hw]at e;omega,λe=>⟨k,rfl,by omega,hs,λj hj hjk=>h0 (by dsimp only at e;rw[hw]at e;omega) j (by omega)⟩⟩
     . have hs:vf x.g k=0:=ji λe=>hs (py.2 e);refine⟨hlt,eK (by omega),hm0,by dsimp only;omega,λe j hj=>?_,λe=>?_⟩
       . rcases cH j k with h2|h2
         . exact h0 e j h2
         . obtain rfl:j=k:=by omega
           exact hs
       . obtain⟨w,w1,w2,w3,w4⟩:=h1 e;refine⟨w,w1,by omega,w3,λj hj hjw=>?_⟩;rcases cH j k with h2|h2
         . exact w4 j h2 hjw
         . obtain rfl:j=k:=by omega
           exact hs
   . have:k=n:=by omega
     subst this;intro e;obtain⟨w,w1,w2,w3,w4⟩:=h1 e;exact⟨w,w1,w2,w3,w4⟩
 . rintro⟨a,m⟩ h;exact aI λe=>h (iL e)
def rJ(s:St)(c:gZ):Prop:=∃x∈s.aB,∃y∈s.aB,∃w,w<s.n/\(∀j,j<s.n->vf x.g j=if j=w then 1 else 0)/\(∀j,j<s.n->vf y.g j=if j=w then-1 else 0)/\c=⟨x.to,B (-(aH s.aA y.pos).b),B (aH s.aA x.pos).b⟩
theorem Ec{n w:Nat}{g:List Int}(hl:g.length=n)(hp:dC g=1)(h:sS n g w):(vf g w).natAbs=1:=by
 have h2:vf g w∣((dC g:Nat):Int):=oX λv hv=>by
  obtain⟨j,hj,rfl⟩:=gC hv;by_cases e:j=w
  . subst e;exact Int.dvd_refl _
  . rw[h.2.2 j (by omega) e];exact wR _
 rw[hp]at h2;have:=Int.natAbs_dvd_natAbs.2 h2;exact HE this
theorem Su(hI:Inv s)(hi:jd s.n s.aB)(hn:s.n<=512)(hb:∀q∈s.aA,fW K q)(hK:K<=1099511627000):Tm (λN=>xk N s.to) (λr=>r.2=true->rJ s r.1):=by
 have hL:dh=1099511627776:=rfl;have hil:=hi.1;have hmi:s.to.aB.length=s.aB.length:=cT ..;have hget:∀{k:Nat} (h:k<s.aB.length),idx s.to.aB (k:Int)=some (s.aB[k]).to:=λ{k} h=>by
  show idx (s.aB.map AI.to) _=_;rw[dA (by simpa using h),lG]
 have hbd:∀x∈s.aB,dl (aH s.aA x.pos).b<=K:=λx hx=>(hb _ (fg (hI.it x hx).1)).2;unfold xk;refine Tm.bind (Q:=λt:gZ×Bool=>t.2=true->rJ s t.1) (e9 s.aB.length (λk t=>t.2.2=(k:Int)/\(t.2.1=true->rJ s t.1)) ⟨rfl,λe=>by cases e⟩ ?_) ?_
 . rintro k hk ⟨a,b,i⟩ ⟨rfl,hab⟩;dsimp only at hab;dsimp only[Fm];rw[hmi];refine bA (λhlt=>?_) (λhge=>aI hab);have hlt:k<s.aB.length:=by omega
   have hxm:=dJ hlt;obtain⟨x1,x2⟩:=hi.2 _ hxm;have hgk:=hget hlt;generalize s.aB[k]=x at*;refine Tm.bind (Q:=λt:gZ×Bool=>t.2=true->rJ s t.1) (aL hgk (Tm.bind (Jl x1 hn x2) ?_)) (λt ht=>aI ⟨hlt,eK (by omega),ht⟩);rintro⟨p,ok⟩ hs;dsimp only at hs;refine Tm.bind (Q:=λc=>c=false->∃w:Nat,p=(w:Int)/\sS s.n x.g w/\0<vf x.g w) (bA (λh=>aI λe=>(by cases e)) (λh=>?_)) ?_
   . have h:ok=true:=by simpa using h
     obtain⟨w,rfl,hw⟩:=hs h;refine aL (eD (l:=x.g) (by have:=hw.1;omega)) (aV (jK (bU (x2 _ (gz (by have:=hw.1;omega))) (by decide))) (aI λe=>⟨w,rfl,hw,?_⟩));have h1:¬bT (vf x.g w) 0<0:=ui e;have h2:=hw.2.1;have:¬vf x.g w<0:=λe=>h1 (oN.2 e);omega
   . rintro c hc;refine bA (λh=>aI hab) (λh=>?_);obtain⟨w,rfl,hw,hw0⟩:=hc (by simpa using h);have hxone:∀j,j<s.n->vf x.g j=if j=w then 1 else 0:=λj hj=>by
      have:=Ec x1 (hI.gM x hxm) hw;by_cases e:j=w
      . subst e;rw[bD rfl];omega
      . rw[aY e];exact hw.2.2 j hj e
     refine Tm.bind (Q:=λt:gZ×Bool=>t.2=true->rJ s t.1) (e9 s.aB.length (λm t=>t.2.2=(m:Int)/\(t.2.1=true->rJ s t.1)) ⟨rfl,hab⟩ ?_) λt ht=>aI ht;rintro m hm ⟨a,b,i⟩ ⟨rfl,hab⟩;dsimp only at hab;dsimp only[E0];rw[hmi];refine bA (λhlt2=>?_) (λhge=>aI hab);have hlt2:m<s.aB.length:=by omega
     have hym:=dJ hlt2;obtain⟨y1,y2⟩:=hi.2 _ hym;have hgm:=hget hlt2;generalize s.aB[m]=y at*;refine Tm.bind (Q:=λt:gZ×Bool=>t.2=true->rJ s t.1) (aL hgm (Tm.bind (Jl y1 hn y2) ?_)) (λt ht=>aI ⟨hlt2,eK (by omega),ht⟩);rintro⟨p,ok⟩ hs';dsimp only at hs';refine Tm.bind (Q:=λc=>c=false->sS s.n y.g w/\vf y.g w<0) (bA (λh=>aI λe=>(by cases e)) (λh=>bA (λh2=>aI λe=>(by cases e)) (λh2=>?_))) ?_
     . have h:ok=true:=by simpa using h
       obtain⟨w',rfl,hw'⟩:=hs' h;have h2:(w':Int)=(w:Int):=by simpa using h2
       obtain rfl:w'=w:=by omega
       refine aL (eD (l:=y.g) (by have:=hw.1;omega)) (aV (jK (bU (y2 _ (gz (by have:=hw.1;omega))) (by decide))) (aI λe=>⟨hw',?_⟩));have h1:¬bT (vf y.g w') 0>0:=ui e;have h2:=hw'.2.1;have:¬0<vf y.g w':=λe=>h1 (FH.2 e);omega
     . rintro c hc;refine bA (λh=>aI hab) (λh=>?_);obtain⟨hw',hw0'⟩:=hc (by simpa using h);have hyone:∀j,j<s.n->vf y.g j=if j=w then-1 else 0:=λj hj=>by
        have:=Ec y1 (hI.gM y hym) hw';by_cases e:j=w
        . subst e;rw[bD rfl];omega
        . rw[aY e];exact hw'.2.2 j hj e
       have b1:=hbd y hym;have b2:=hbd x hxm;have hnew:rJ s (gZ.mk x.to (B (-(aH s.aA y.pos).b)) (B (aH s.aA x.pos).b)):=⟨x,hxm,y,hym,w,hw.1,hxone,hyone,rfl⟩;refine aV (Lq (hI.it y hym).1) (aV (ou (by omega)) (aV (Lq (hI.it x hxm).1) ?_));refine Tm.bind (Q:=λ_=>True) (bA (λh3=>aI trivial) (λh3=>?_)) λv _=>bA (λh4=>aI λ_=>hnew) (λh4=>aI hab);have h3:b=true:=by simpa using h3
       obtain⟨x',hx',y',hy',w',-,-,-,rfl⟩:=hab h3;have b3:=hbd y' hy';have b4:=hbd x' hx';have d1:=jW (K:=K) (a:=(aH s.aA x.pos).b) (b:=-(aH s.aA y.pos).b) b2 (by rw[gx];exact b1);have d2:=jW (K:=K) (a:=(aH s.aA x'.pos).b) (b:=-(aH s.aA y'.pos).b) b4 (by rw[gx];exact b3);exact aV (ld (by omega) (by rw[gx];omega)) (aV (ld (by omega) (by rw[gx];omega)) (aV (ko (by omega) (by omega)) (aI trivial)))
 . rintro⟨a,b⟩ h;exact aI h
end
end Go.D
namespace Go.D
open Go Go.X
inductive kX where
 |leaf (st:List AS)
 |node (st:List AS) (f:List Int) (b:Int) (l r:kX)
def kX.to:kX->Proof
 |leaf st=>⟨st.map AS.to,[],⟨false,[]⟩,[]⟩
 |node st f b l r=>⟨st.map AS.to,mB f,B b,[l.to,r.to]⟩
def pX(n:Nat)(kn:List AQ):Prop:=kn.length<=1073741824/\∀q∈kn,fW 536870912 q/\q.c.length=n
inductive Ref (n:Nat):List AQ->kX->Prop where
 |leaf {base:List AQ} {st:List AS} {kn:List AQ} (hD:ir n base st kn) (hk:pX n kn) (q:AQ) (hq:q∈kn) (hz:∀j,j<n->vf q.c j=0) (hb:q.b<0):Ref n base (.leaf st)
 |node {base:List AQ} {st:List AS} {kn:List AQ} {f:List Int} {b:Int} {l r:kX} (hD:ir n base st kn) (hf:f.length=n) (hl:Ref n (kn++[⟨f,b⟩]) l) (hr:Ref n (kn++[⟨cv f,-b-1⟩]) r):Ref n base (.node st f b l r)
theorem pX.sub{n:Nat}{kn e:List AQ}(h:pX n (kn++e)):pX n kn:=⟨by have:=h.1;rw[di]at this;omega,λq hq=>h.2 q (rP _ hq)⟩
theorem ir.pre{n:Nat}{base:List AQ}{st:List AS}{kn:List AQ}(h:ir n base st kn):∃e,kn=base++e/\e.length=st.length:=by
 induction h with
 |nil=>exact⟨[],by simp,rfl⟩
 |snoc h hs ih=>
  obtain⟨e,he,hl⟩:=ih;exact⟨e++[_],by rw[he,jy],by simp[hl]⟩
theorem Ref.kok{n:Nat}{base:List AQ}{p:kX}(h:Ref n base p):pX n base:=by
 induction h with
 |leaf hD hk q hq hz hb=>
  obtain⟨e,rfl,_⟩:=hD.pre;exact hk.sub
 |node hD hf hl hr ihl ihr=>
  obtain⟨e,rfl,_⟩:=hD.pre;exact ihl.sub.sub
def eX(n:Nat)(x:Nat->Int)(q:AQ):Prop:=bK (vf q.c) x n<=q.b
theorem K4{n:Nat}{x:Nat->Int}{kn:List AQ}(hk:∀q∈kn,eX n x q):∀{us:List AU},(∀u∈us,u.ix<kn.length/\0<=u.n)->bK (eG kn us) x n<=gE kn us
 |[],_=>by rw[sL (f:=eG kn []) λ_ _=>rfl];exact lF 0
 |u::us,h=>by
  have h1:=K4 hk (us:=us) λv hv=>h v (cO _ hv);obtain⟨h2,h3⟩:=h u cX;have h4:=hk _ (fg h2);have e:bK (eG kn (u::us)) x n=bK (eG kn us) x n+u.n*bK (vf (aH kn u.ix).c) x n:=by
   rw[<-rC];exact eF (λj _=>by show _+_=_;omega) λ_ _=>rfl
  rw[e];have:=ff h4 h3;show _<=u.n*(aH kn u.ix).b+gE kn us;omega
theorem U9{n:Nat}{x:Nat->Int}{kn:List AQ}{s:AS}{q:AQ}(hk:∀q∈kn,eX n x q)(hs:BT n kn s q):eX n x q:=by
 have h1:=K4 hk (us:=s.cU) λu hu=>⟨(hs.cU u hu).1,(hs.cU u hu).2.1⟩;rw[hs.q];show bK (vf (vec n λj=>eG kn s.cU j/s.d)) x n<=gE kn s.cU/s.d;have e:bK (eG kn s.cU) x n=s.d*bK (vf (vec n λj=>eG kn s.cU j/s.d)) x n:=by
  rw[<-qi];refine eF (λj hj=>?_) λ_ _=>rfl;rw[dF hj,fD,Od (hs.dvd j hj)]
 rw[e]at h1;exact(Int.le_ediv_iff_mul_le hs.d).2 (by rw[fD];exact h1)
theorem ir.sound{n:Nat}{x:Nat->Int}{base:List AQ}{st:List AS}{kn:List AQ}(h:ir n base st kn)(hb:∀q∈base,eX n x q):∀q∈kn,eX n x q:=by
 induction h with
 |nil=>exact hb
 |snoc h hs ih=>
  intro q hq;rcases fe.1 hq with hq|hq
  . exact ih q hq
  . rw[cG.1 hq];exact U9 ih hs
theorem M5{f:List Int}{x:Nat->Int}{n:Nat}:bK (vf (cv f)) x n=-bK (vf f) x n:=by
 have:=qi (f:=vf f) (g:=x) (k:=-1) n;rw[eF (f:=vf (cv f)) (f':=λj=>-1*vf f j) (g:=x) (g':=x) (λj _=>by rw[jb];omega) λ_ _=>rfl,this];omega
theorem Ref.sound{n:Nat}{base:List AQ}{p:kX}(h:Ref n base p)(x:Nat->Int):¬∀q∈base,eX n x q:=by
 induction h with
 |leaf hD hk q hq hz hb=>
  intro hs;have:=hD.sound hs q hq;unfold eX at this;rw[sL hz]at this;omega
 |node hD hf hl hr ihl ihr=>
  intro hs;have hk:=hD.sound hs;rename_i f b l r;rcases uh (bK (vf f) x n) b with h|h
  . refine ihl λq hq=>?_;rcases fe.1 hq with hq|hq
    . exact hk q hq
    . rw[cG.1 hq];exact h
  . by_cases e:bK (vf f) x n=b
    . refine ihl λq hq=>?_;rcases fe.1 hq with hq|hq
      . exact hk q hq
      . rw[cG.1 hq];exact Int.le_of_eq e
    . refine ihr λq hq=>?_;rcases fe.1 hq with hq|hq
      . exact hk q hq
      . rw[cG.1 hq];show bK (vf (cv f)) x n≤-b-1;rw[M5];omega
theorem oki{n K:Nat}{q:AQ}(hn:n<=K)(hl:q.c.length=n)(h:fW K q):qC K q.to:=by
 refine⟨by show(mB q.c).length<=_;rw[dT];omega,λb hb=>?_,okB h.2⟩;obtain⟨v,hv,rfl⟩:=dR.1 hb;exact okB (h.1 v hv)
theorem getq{l:List AQ}{i:Nat}(h:i<l.length):(l.map AQ.to).getD i lX=(aH l i).to:=by
 rw[cN,ij,cy h,tS h];rfl
theorem Cf{l:List Int}{j:Nat}:(mB l).getD j fj=B (vf l j):=by
 rcases cH j l.length with h|h
 . rw[sy (by rw[dT];exact h),EA,oG h]
 . rw[lO h,B0,cN,gr (by rw[dT];exact h)];rfl
theorem Ji{l:List AQ}:∀{us:List AU} {f:Nat->Int} {b:Int},(∀u∈us,u.ix<l.length/\0<=u.n)->mz (l.map AQ.to) (us.map AU.to) (f,b)=some (λj=>f j+eG l us j,b+gE l us)
 |[],f,b,_=>by
  show some (f,b)=some (λj=>f j+0,b+0);simp
 |u::us,f,b,h=>by
  obtain⟨h1,h2⟩:=h u cX;show(if nC (l.map AQ.to) u.to then none else mz (l.map AQ.to) (us.map AU.to) (wW (l.map AQ.to) u.to (f,b)))=_;have hb:¬nC (l.map AQ.to) u.to:=by
   unfold nC;show¬((u.ix:Int)<0\/((l.map AQ.to).length:Int)<=(u.ix:Int)\/bv (B u.n)<0);rw[gI,cT];omega
  rw[aY hb];have e:wW (l.map AQ.to) u.to (f,b)=(λj=>f j+u.n*vf (aH l u.ix).c j,b+u.n*(aH l u.ix).b):=by
   unfold wW;rw[show u.to.Index.toNat=u.ix from mh _,getq h1];show((λj=>f j+bv (B u.n)*bv ((mB (aH l u.ix).c).getD j fj)),b+bv (B u.n)*bv (B (aH l u.ix).b))=_;rw[gI,gI];congr 1;funext j;rw[Cf,gI]
  rw[e,Ji λv hv=>h v (cO _ hv)];congr 2
  . funext j;show _=f j+(_+_);omega
  . show _=b+(_+_);omega
theorem KT{n:Nat}{f:Nat->Int}:iQ n (mB (vec n f)) f:=⟨by rw[dT,eZ],λj hj=>by rw[Cf,dF hj];exact ni _⟩
theorem Gu{n:Nat}{l:List AQ}(hl:l≠[])(h:∀q∈l,q.c.length=n):nV (l.map AQ.to)=n/\mM (l.map AQ.to):=by
 have h0:nV (l.map AQ.to)=n:=by
  unfold nV;rw[getq (rQ.2 hl)];show(mB _).length=n;rw[dT];exact h _ (fg (rQ.2 hl))
 refine⟨h0,λq hq=>?_⟩;obtain⟨a,ha,rfl⟩:=dR.1 hq;rw[h0];show(mB _).length=n;rw[dT];exact h a ha
theorem S4{n:Nat}{l:List AQ}{s:AS}{q:AQ}(hl:l≠[])(h:∀q∈l,q.c.length=n)(hs:BT n l s q):nO (l.map AQ.to) s.to (q.to,true):=by
 obtain⟨h1,h2⟩:=Gu hl h;unfold nO;have hd:bv s.to.gB=s.d:=gI _;rw[hd,bD ⟨h2,hs.d⟩,show s.to.Uses=s.cU.map AU.to from rfl,Ji λu hu=>⟨(hs.cU u hu).1,(hs.cU u hu).2.1⟩];dsimp only;rw[h1,bD (λj hj=>by rw[Db];exact Int.emod_eq_zero_of_dvd (hs.dvd j hj)),hs.q];refine⟨rfl,?_,?_⟩
 . have:(λj=>(0+eG l s.cU j)/s.d)=λj=>eG l s.cU j/s.d:=by funext j;rw[Db]
   rw[this];exact KT
 . rw[Db];exact ni _
theorem ir.nth{n:Nat}{base:List AQ}{st:List AS}{kn:List AQ}(h:ir n base st kn):∀k (hk:k<st.length),BT n (kn.take (base.length+k)) st[k] (aH kn (base.length+k)):=by
 induction h with
 |nil=>intro k hk;cases hk
 |snoc h hs ih=>
  rename_i ss l s q;obtain⟨e,he,hel⟩:=h.pre;have hll:l.length=base.length+ss.length:=by rw[he];simp[hel]
  intro k hk;rw[di,jN]at hk;rcases cH k ss.length with h1|h1
  . have:=ih k h1;rw[NW h1,iH (by omega),rO (by omega)];exact this
  . obtain rfl:k=ss.length:=by omega
    rw[List.getElem_concat_length rfl,<-hll,oA,rO (bO _),uf];exact hs
theorem iQ.snoc{n:Nat}{c:List aC}{f:Nat->Int}{y:aC}(h:iQ n c f)(hy:Is y (f n)):iQ (n+1) (c++[y]) f:=by
 refine⟨by simp[h.1],λj hj=>?_⟩;rcases cH j n with h1|h1
 . have:=h.2 j h1;rwa[cN,kv (by rw[h.1];exact h1),<-cN]
 . obtain rfl:j=n:=by omega
   rw[cN,oZ (by rw[h.1];exact bO _),h.1];simpa using hy
theorem RU{K:Nat}{q:bG}{b:aC}(hK:K<=1073741824)(hl:q.bE.length<=K)(hlb:∀x∈q.bE,jY K x)(hb:bF aE b.aQ)(hbl:b.aQ.length<=1099511627776):
 Tm (λN=>rF N q b) (λr=>iQ q.bE.length r.bE (λj=>-bv (q.bE.getD j fj))/\Is r.dO (bv b)):=by
 unfold rF;refine Tm.bind (LW hb (by omega)) ?_;rintro b' ⟨hb',hbl⟩;refine Tm.bind (Q:=λc:List aC=>iQ q.bE.length c (λj=>-bv (q.bE.getD j fj)))
  (Tm.loop (λt:List aC×Int=>∃k:Nat,t.2=k/\k<=q.bE.length/\iQ k t.1 (λj=>-bv (q.bE.getD j fj))) (λt=>q.bE.length-t.2.toNat)
   ⟨0,rfl,fV _,⟨rfl,λj hj=>bV hj (by omega)⟩⟩ ?_) ?_
 . rintro⟨c,kk⟩ ⟨k,rfl,hk,hc⟩;dsimp only[AK]at*;have hcl:=hc.1;refine bA (λh=>?_) (λh=>aW ?_)
   . refine aL (wq rfl (by omega)) ?_;have hx:=hlb _ (Na (l:=q.bE) (n:=k) (by omega));refine Tm.bind (xI hx.1 (by have:=hx.2;omega)) ?_;rintro y ⟨hy,hyl⟩;refine aL (eb (by simp only[cJ,dZ];omega) (by decide)) (aW ⟨⟨k+1,by show iw ((k:Int)+1)=_;rw[bL]<;>omega,by omega,hc.snoc hy⟩,?_⟩);show q.bE.length-(iw ((k:Int)+1)).toNat<q.bE.length-((k:Int)).toNat;rw[bL]<;>omega
   . obtain rfl:k=q.bE.length:=by omega
     exact hc
 . intro c hc;exact aW ⟨hc,hb'⟩
theorem Ba{kn:List AQ}{q:AQ}:(kn++[q]).map AQ.to=kn.map AQ.to++[q.to]:=by rw[jP];rfl
theorem Ut{n:Nat}(hn:n<=512){base:List AQ}{p:kX}(h:Ref n base p)(hb0:base≠[]):Tm (λN=>td N (base.map AQ.to) p.to) (·=true):=by
  have aU:∀{base:List AQ} {st:List AS} {kn:List AQ} {P:Proof},base≠[]->ir n base st kn->pX n kn->P.Steps=st.map AS.to->
      Tm (λN=>bS (Cm N P) N (base.map AQ.to,0)) (·=.inl (kn.map AQ.to)):=by
    intro base st kn P hb0 hD hk hP;obtain⟨e,rfl,hel⟩:=hD.pre;have hkl:=hk.1;rw[di]at hkl;refine e9 st.length (λk t=>t=(((base++e).take (base.length+k)).map AQ.to,(k:Int))) (by rw[qs,rO (bO _),uf];rfl) ?_;rintro k hkk _ rfl;dsimp only[Cm];rw[hP,cT];refine bA (λhlt=>?_) (λhge=>aI ?_)
    . have hlt:k<st.length:=by omega
      have hs:=hD.nth k hlt;have hne:(base++e).take (base.length+k)≠[]:=by
        have:=rQ.2 hb0;intro e';have:=dz List.length e';rw[fA,di,dZ]at this;omega
      have hsub:∀q∈(base++e).take (base.length+k),fW 536870912 q/\q.c.length=n:=λq hq=>hk.2 q (uc hq);refine aL (dA (by rw[cT];exact hlt)) ?_;rw[lG];refine aV (a:=((aH (base++e) (base.length+k)).to,true)) ((RM (K:=536870912) (bO _) (by rw[cT,fA,di];omega) (λq hq=>?_) ⟨?_,λu hu=>?_,okB hs.dl⟩).mono λr hr=>hr.uniq (S4 hne (λq hq=>(hsub q hq).2) hs)) ?_
      . obtain⟨a,ha,rfl⟩:=dR.1 hq;exact oki (by omega) (hsub a ha).2 (hsub a ha).1
      . show(List.map AU.to _).length<=_;rw[cT];have:=hs.len;omega
      . obtain⟨a,ha,rfl⟩:=dR.1 (show u∈(st[k]).cU.map AU.to from hu);exact okB (hs.cU a ha).2.2
      . refine cD (by simp) (aL (eb (by rw[cT,fA,di,jN];omega) (by decide)) (aI ⟨hlt,?_⟩));have hlt2:base.length+k<(base++e).length:=by rw[di];omega
        rw[eK (by omega),show base.length+(k+1)=(base.length+k)+1 by omega,<-j9 hlt2,tS hlt2,Ba]
    . have:k=st.length:=by omega
      subst this;rw[fC (by rw[di];omega)]
  have copy:∀{l:List AQ},l.length<=1073741824->cZ 56 ([]:List bG) (l.map AQ.to)=some (l.map AQ.to):=λ{l} hl=>by
    rw[eb (by rw[cT];simp only[dZ];omega) (by decide)];rfl
  induction h with
  |leaf hD hk q hq hz hb=>
    rename_i base st kn;obtain⟨e,hke,hel⟩:=hD.pre;have hbk:pX n base:=by rw[hke]at hk;exact hk.sub
    refine Tm.succ ?_;show Tm (λN=>rV N (td N) _ _) _;unfold rV;refine Tm.bind (Ei (by rw[cT];have:=hbk.1;omega)) ?_;rintro _ rfl;refine cD (by simp[(Gu hb0 λq hq=>(hbk.2 q hq).2).2]) (aL (copy hbk.1) (aV (aU hb0 hD hk rfl) ?_));dsimp only;refine cR rfl ?_;refine Tm.bind (Q:=(·=.inr true)) (e9 kn.length (λk t=>t=(k:Int)/\∀j,j<k->xe (aH kn j).to=false) ⟨rfl,λj hj=>by omega⟩ ?_) ?_
    . rintro k hkk _ ⟨rfl,hj⟩;dsimp only[Gg];rw[cT];refine bA (λhlt=>?_) (λhge=>aI ?_)
      . have hlt:k<kn.length:=by omega
        have hqk:=hk.2 _ (fg hlt);refine aL (nJ hlt) (aV (VD (K:=536870912) (by decide) (oki (by omega) hqk.2 hqk.1)) (bA (λh=>aI rfl) (λh=>aI ⟨hlt,eK (by have:=hk.1;omega),λj hjk=>?_⟩)));rcases cH j k with h1|h1
        . exact hj j h1
        . obtain rfl:j=k:=by omega
          simpa using h
      . have hkl:k=kn.length:=by omega
        subst hkl;obtain⟨j,hjl,rfl⟩:=nU hq;have:=hj j hjl;rw[tS hjl]at this;have h2:xe (kn[j]).to=true:=by
          unfold xe;refine iM ⟨λb hb'=>?_,?_⟩
          . obtain⟨v,hv,rfl⟩:=dR.1 (show b∈(kn[j]).c.map B from hb');rw[gI];obtain⟨m,hm,rfl⟩:=gC hv;exact hz m (by have:=(hk.2 _ (dJ hjl)).2;omega)
          . show bv (B _)<0;rw[gI];exact hb
        rw[h2]at this;cases this
    . rintro _ rfl;exact aI rfl
  |node hD hf hl hr ihl ihr=>
    rename_i base st kn f b l r;have hkl:=hl.kok;have hkr:=hr.kok;have hk:pX n kn:=hkl.sub;obtain⟨e,hke,hel⟩:=hD.pre;have hbk:pX n base:=by rw[hke]at hk;exact hk.sub
    have hkn0:kn≠[]:=by rw[hke];intro e';exact hb0 (Hb.1 e').1
    have hqf:fW 536870912 ⟨f,b⟩:=(hkl.2 _ (o8 _ (cG.2 rfl))).1;have hkl1:=hkl.1;rw[di,jN]at hkl1;refine Tm.succ ?_;show Tm (λN=>rV N (td N) _ _) _;unfold rV;refine Tm.bind (Ei (by rw[cT];have:=hbk.1;omega)) ?_;rintro _ rfl;refine cD (by simp[(Gu hb0 λq hq=>(hbk.2 q hq).2).2]) (aL (copy hbk.1) (aV (aU hb0 hD hk rfl) ?_));dsimp only;refine cD (by show¬((2:Nat):Int)=0;omega) ?_;refine aV (a:=false) (cD (by show¬((2:Nat):Int)≠2;omega) (cR (by rw[cT];have:=rQ.2 hkn0;omega) (aL (nJ (i:=0) (rQ.2 hkn0)) (aI ?_)))) ?_
    . refine uj ?_;show¬(((mB f).length:Int)≠((mB (aH kn 0).c).length:Int));rw[dT,dT,hf,(hk.2 _ (fg (rQ.2 hkn0))).2];omega
    refine cD (by simp) ?_;have hb2:=hqf.2;refine Tm.bind (xI (x:=B b) (bP b) (show dl b<=_ by have:dl b<=536870912:=hb2;omega)) ?_;rintro nb ⟨hnb,hnbl⟩;refine Tm.bind (px (n:=1) (by decide) (by decide)) ?_;rintro one ⟨h1,h1l⟩;have hnbl:nb.aQ.length<=dl b:=hnbl;have hb3:dl b<=536870912:=hb2;refine Tm.bind (Kh hnb.dg.bP h1.dg.bP (by omega) (by omega)) ?_;rintro i ⟨hi,hil⟩;rw[hnb.bv,h1.bv,gI]at hi;refine aV (a:=(⟨cv f,-b-1⟩:AQ).to) ((RU (K:=536870912) (q:=bG.mk (mB f) (B b)) (b:=i) (by decide) (by show(mB f).length<=_;rw[dT];omega) (λx hx=>?_) hi.dg.bP (by omega)).mono λr hr=>?_) ?_
    . obtain⟨v,hv,rfl⟩:=dR.1 (show x∈f.map B from hx);exact okB (hqf.1 v hv)
    . obtain⟨g1,g2⟩:=hr;rw[hi.bv]at g2;have e1:r.bE=mB (cv f):=by
        refine iQ.uniq (n:=n) (f:=λj=>-vf f j) ?_ ?_
        . refine⟨g1.1.trans ((dT f).trans hf),λj hj=>?_⟩;have:=g1.2 j (by show j<(mB f).length;rw[dT];omega);dsimp only at this;rw[Cf,gI]at this;exact this
        . have:iQ n (mB (vec n λj=>-vf f j)) (λj=>-vf f j):=KT;unfold cv;rw[hf];exact this
      have e2:r.dO=B (-b-1):=qf g2;cases r;dsimp only at e1 e2;subst e1;subst e2;rfl
    refine aL (copy hk.1) (aL (eb (by rw[cT,jN];omega) (by decide)) (aL (copy hk.1) (aL (eb (by rw[cT,jN];omega) (by decide)) (aL (a:=l.to) rfl ?_))));have el:=ihl (by simp);have er:=ihr (by simp);rw[Ba]at el er;refine aV el (cR rfl (aL (a:=r.to) rfl (aV er (aI rfl))))
end Go.D
namespace Go.D
open Go Go.X
def cB:Nat->Nat
 |0=>1
 |1=>1
 |2=>400000000
 |3=>10000
 |_=>50
def iB:Nat->Nat
 |0=>0
 |1=>2
 |2=>23870
 |3=>306
 |_=>32
class cL where
 k:Nat
 h:k<=536870912
def uB[cL]:Nat->Nat
 |0=>cL.k+5000
 |1=>cL.k+4000
 |2=>cL.k+3000
 |3=>cL.k+2000
 |_=>cL.k+1000
def lB:Nat->Nat
 |0=>10
 |1=>400
 |2=>542600000
 |3=>542700000
 |_=>542800000
def dB:Nat->Nat
 |0=>10
 |1=>1000
 |2=>80000
 |3=>85000
 |_=>90000
theorem lev{f:Nat}(h:f+1<=4):f=0\/f=1\/f=2\/f=3:=by omega
theorem mw(f:Nat):cB f<=400000000/\1<=cB f:=by
 match f with
 |0=>decide
 |1=>decide
 |2=>decide
 |3=>decide
 |f+4=>exact⟨show 50<=_ by omega,show 1<=50 by omega⟩
theorem ot(f:Nat):iB f<=23870:=by
 match f with
 |0=>decide
 |1=>decide
 |2=>decide
 |3=>decide
 |f+4=>exact show 32<=_ by omega
theorem B8[cL](f:Nat):cL.k+1000<=uB f/\uB f<=cL.k+5000/\cL.k<=536870912:=by
 have:=cL.h
 match f with
 |0=>exact⟨show cL.k+1000<=cL.k+5000 by omega,show cL.k+5000<=_ by omega,this⟩
 |1=>exact⟨show cL.k+1000<=cL.k+4000 by omega,show cL.k+4000<=_ by omega,this⟩
 |2=>exact⟨show cL.k+1000<=cL.k+3000 by omega,show cL.k+3000<=_ by omega,this⟩
 |3=>exact⟨show cL.k+1000<=cL.k+2000 by omega,show cL.k+2000<=_ by omega,this⟩
 |f+4=>exact⟨show cL.k+1000<=cL.k+1000 by omega,show cL.k+1000<=_ by omega,this⟩
theorem Ks{u w m:Nat}(h:u+w<=m):4*(u*w)<=m*m:=by
 have h1:=j7 h h;rcases Nat.le_total u w with h2|h2
 . obtain⟨d,rfl⟩:=NM h2;have:(u+(u+d))*(u+(u+d))=4*(u*(u+d))+d*d:=by grind
   omega
 . obtain⟨d,rfl⟩:=NM h2;have:(w+d+w)*(w+d+w)=4*((w+d)*w)+d*d:=by grind
   omega
theorem yf{v:Nat}:∀l:List AI,(cM v l).length+(dL v l).length+(l.filter λx=>!decide (vf x.g v≠0)).length=l.length
 |[]=>rfl
 |x::l=>by
  have:=yf (v:=v) l;rcases qx (vf x.g v) 0 with h|h|h
  . have e1:cM v (x::l)=cM v l:=by unfold cM;rw[zz];simp;omega
    have e2:dL v (x::l)=x::dL v l:=by unfold dL;rw[Oj];simp[h]
    rw[e1,e2,zz (by simp;omega),cJ,cJ];omega
  . have e1:cM v (x::l)=cM v l:=by unfold cM;rw[zz];simp;omega
    have e2:dL v (x::l)=dL v l:=by unfold dL;rw[zz];simp;omega
    rw[e1,e2,Oj (by simp[h]),cJ,cJ];omega
  . have e1:cM v (x::l)=x::cM v l:=by unfold cM;rw[Oj];simp[h]
    have e2:dL v (x::l)=dL v l:=by unfold dL;rw[zz];simp;omega
    rw[e1,e2,zz (by simp;omega),cJ,cJ];omega
def iI(p:Nat->Bool):Nat->Nat
 |0=>0
 |n+1=>iI p n+if p n then 1 else 0
theorem Nk{p q:Nat->Bool}:∀{n:Nat},(∀j,j<n->p j=q j)->iI p n=iI q n
 |0,_=>rfl
 |n+1,h=>by simp only[iI];rw[Nk (n:=n) λj hj=>h j (by omega),h n (by omega)]
theorem KQ{p q:Nat->Bool}{v:Nat}:∀{n:Nat},v<n->p v=true->q v=false->(∀j,j<n->j≠v->q j=p j)->iI q n+1=iI p n
 |n+1,hv,h1,h2,h=>by
  simp only[iI];by_cases e:n=v
  . subst e;rw[Nk (p:=q) (q:=p) (n:=n) λj hj=>h j (by omega) (by omega),h1,h2];simp
  . rw[h n (by omega) e];have:=KQ (n:=n) (by omega) h1 h2 λj hj hjv=>h j (by omega) hjv;omega
theorem Cr{p:Nat->Bool}{i:Nat}:∀{n:Nat},i<n->p i=true->1<=iI p n
 |n+1,hi,h=>by
  simp only[iI];by_cases e:n=i
  . subst e;rw[h];simp
  . have:=Cr (n:=n) (by omega) h;omega
theorem Gy{p:Nat->Bool}{i j:Nat}:∀{n:Nat},iI p n<=1->i<n->j<n->p i=true->p j=true->i=j
 |n+1,hc,hi,hj,h1,h2=>by
  simp only[iI]at hc;by_cases e1:n=i
  . subst e1;by_cases e2:n=j
    . exact e2
    . rw[h1,bD rfl]at hc;have:=Cr (n:=n) (by omega) h2;omega
  . by_cases e2:n=j
    . subst e2;rw[h2,bD rfl]at hc;have:=Cr (n:=n) (by omega) h1;omega
    . exact Gy (n:=n) (by omega) (by omega) (by omega) h1 h2
def iJ(s:St):Nat:=iI (λj=>decide (vf s.aN j=0)) s.n
theorem J4{s s':St}{v:Nat}{c:Int}(hn:s'.n=s.n)(hv:v<s.n)(h0:vf s.aN v=0)(hc:c≠0)(h:∀j,vf s'.aN j=if v=j then c else vf s.aN j):iJ s'+1=iJ s:=by
 unfold iJ;rw[hn];refine KQ hv (by simp[h0]) (by rw[h,bD rfl];simp[hc]) λj hj hjv=>?_;rw[h,aY λe=>hjv e.symm]
theorem xc{s:St}(hI:Inv s){x:AI}(hx:x∈s.aB):∃w,w<s.n/\vf x.g w≠0/\vf s.aN w=0:=by
 refine ji λh=>?_;have h1:=hI.gM x hx;have h2:(2:Int)∣((dC x.g:Nat):Int):=oX λv hv=>by
  obtain⟨j,hj,rfl⟩:=gC hv;have hj:j<s.n:=by rw[(hI.it x hx).2]at hj;exact hj
  have:vf x.g j=0:=ji λe=>h ⟨j,hj,e,ji λe2=>e (hI.nf x hx j hj e2)⟩;rw[this];exact wR 2
 rw[h1]at h2;omega
theorem HL{s:St}(hI:Inv s)(hf:iJ s<=1){x:AI}(hx:x∈s.aB):∃w,sS s.n x.g w/\vf s.aN w=0/\(vf x.g w).natAbs=1:=by
 obtain⟨w,hw,hw0,hws⟩:=xc hI hx;have hS:sS s.n x.g w:=⟨hw,hw0,λj hj hjw=>ji λe=>by
  have hjs:vf s.aN j=0:=ji λe2=>e (hI.nf x hx j hj e2);exact hjw (Gy hf hj hw (by simp[hjs]) (by simp[hws]))⟩
 exact⟨w,hS,hws,Ec (hI.it x hx).2 (hI.gM x hx) hS⟩
theorem Cj{s:St}(hI:Inv s)(hf:iJ s<=1):∀x∈s.aB,∀j,j<s.n->(vf x.g j).natAbs<=1:=by
 intro x hx j hj;obtain⟨w,h1,_,h3⟩:=HL hI hf hx;by_cases e:j=w
 . subst e;omega
 . rw[h1.2.2 j hj e];simp
theorem MS{s:St}(hI:Inv s)(hf:iJ s<=1):s.aB.length<=2:=by
 by_cases h0:∃w,w<s.n/\vf s.aN w=0
 . obtain⟨w,hw,hws⟩:=h0;have hnd:(s.aB.map AI.g).Nodup:=by unfold List.Nodup;rw[HG];exact hI.kP
   have:=V4 (l₂:=[vec s.n λj=>if j=w then 1 else 0,vec s.n λj=>if j=w then-1 else 0]) hnd (λg hg=>by
    obtain⟨x,hx,rfl⟩:=dR.1 hg;obtain⟨w',h1,h2,h3⟩:=HL hI hf hx;obtain rfl:w'=w:=Gy hf h1.1 hw (by simp[h2]) (by simp[hws]);have hxl:=(hI.it x hx).2;have key:∀c:Int,vf x.g w'=c->x.g=vec s.n λj=>if j=w' then c else 0:=λc hc=>lS (by rw[hxl,eZ]) λj hj=>by
     rw[dF (by omega)];by_cases e:j=w'
     . subst e;rw[bD rfl,hc]
     . rw[aY e];exact h1.2.2 j (by omega) e
    rcases Int.natAbs_eq_iff.1 (show(vf x.g w').natAbs=(1:Nat) from h3)with h4|h4
    . rw[key 1 h4];simp
    . rw[key (-1) h4];simp)
   simpa using this
 . cases hi:s.aB with
   |nil=>simp
   |cons x l=>
    obtain⟨w,h1,_,h3⟩:=xc hI (x:=x) (by rw[hi];simp);exact bV ⟨w,h1,h3⟩ h0
theorem GL{s:St}(hI:Inv s)(hf:iJ s=0):s.aB=[]:=by
 cases hi:s.aB with
 |nil=>rfl
 |cons x l=>
  obtain⟨w,h1,_,h3⟩:=xc hI (x:=x) (by rw[hi];simp);have:=Cr (p:=λj=>decide (vf s.aN j=0)) h1 (by simp[h3]);unfold iJ at hf;omega
structure Good [cL](sys base:List AQ)(f K:Nat)(s:St):Prop where
 inv:Inv s
 rf:RF sys s
 n:s.n<=4
 fr:iJ s<=f
 co:∀x∈s.aB,∀j,j<s.n->(vf x.g j).natAbs<=cB f
 q:∀q∈s.aA,fW K q
 su:SU (uB f) s
 st:∀e∈s.aK,pQ s e
 jE:ir s.n base s.aU s.aA
section
variable [cL] {sys base:List AQ} {f K:Nat} {s:St}
theorem w7{n C:Nat}{x:AI}(hl:x.g.length=n)(h:∀j,j<n->(vf x.g j).natAbs<=C)(hC:C<=4294967295):∀v∈x.g,dl v<=1:=λv hv=>by
 obtain⟨j,hj,rfl⟩:=gC hv;exact jB (by have:=h j (by omega);omega)
theorem Good.nM(h:Good sys base f K s){K':Nat}(hK:K<=K')(hK':K'<=1099511627000)(hkl:s.aA.length<=1073741824)(hil:s.aB.length<=1073741824):gJ K' s:=by
 obtain⟨e,he,hel⟩:=h.jE.pre;refine⟨by have:=h.n;omega,hkl,by rw[he,di]at hkl;omega,hil,λq hq=>⟨(h.q q hq).mono hK,h.inv.kl q hq⟩,λx hx=>?_,hK'⟩;obtain⟨x1,x2⟩:=h.inv.it x hx;exact⟨x1,x2,λv hv=>bU (w7 x2 (h.co x hx) (by have:=mw f;omega) v hv) (by decide)⟩
theorem Good.aU(h:Good sys base f K s):s.aU.length<=s.aA.length:=by
 obtain⟨e,he,hel⟩:=h.jE.pre;rw[he,di];omega
theorem Good.Bb(h:Good sys base f K s)(hil:s.aB.length<=1073741824):jd s.n s.aB:=⟨hil,λx hx=>by
 obtain⟨x1,x2⟩:=h.inv.it x hx;exact⟨x2,λv hv=>bU (w7 x2 (h.co x hx) (by have:=mw f;omega) v hv) (by decide)⟩⟩
theorem wm{Kk K:Nat}:∀(L:List Act) (s:St),gJ K s->jJ L.length s->(∀a∈L,mc Kk s a)->Kk+6<=K->gJ K (cw s L).2
 |[],s,hs,_,_,_=>hs
 |.add x::r,s,hs,hr,hA,hK=>by
  obtain⟨h1,h2⟩:=Mj (m:=r.length) hs (hA _ cX) hr;exact wm r _ h1 h2 (λa ha=>(hA a (cO _ ha)).app rfl (e:=[]) (by simp[add])) hK
 |.put g us::r,s,hs,hr,hA,hK=>by
  have hp:gT Kk s g us:=hA _ cX;obtain⟨h1,h2⟩:=Ng (m:=r.length) hs hp hK hr;obtain⟨e,he,_⟩:=Cu s g us;have e1:cw s (.put g us::r)=if(put s g us).1=true then cw (put s g us).2 r else(false,(put s g us).2):=rfl;rw[e1];split
  . exact wm r _ h1 h2 (λa ha=>(hA a (cO _ ha)).app (Ap s g us) he) hK
  . exact h1
theorem pQ.kept{s s':St}{e:AE}(h:pQ s e)(k:Kept s s'):pQ s' e:=by
 obtain⟨x,hx⟩:=k.kn;exact⟨h.il,by rw[k.n];exact h.v,λp hp=>⟨by rw[hx,di];have:=(h.p p hp).1;omega,by rw[k.u,k.n,hx,iH (h.p p hp).1];exact(h.p p hp).2⟩⟩
theorem SU.mono{K K':Nat}{s:St}(h:SU K s)(hK:K<=K'):SU K' s:=⟨⟨h.u.1,λr hr=>⟨(h.u.2 r hr).1,λv hv=>bU ((h.u.2 r hr).2 v hv) hK⟩⟩,h.st,⟨h.v.1,λv hv=>bU (h.v.2 v hv) hK⟩⟩
theorem zK(hI:Inv s){n:Nat}(hn:s.n=n)(hD:ir n base s.aU s.aA)(hkl:s.aA.length<=1073741824)(hq:∀q∈s.aA,fW 536870912 q)(hb:∃q∈s.aA,(∀j,j<n->vf q.c j=0)/\q.b<0):Ref n base (.leaf s.aU):=by
 obtain⟨q,h1,h2,h3⟩:=hb;exact .leaf hD ⟨hkl,λq hq'=>⟨hq q hq',by rw[hI.kl q hq',hn]⟩⟩ q h1 h2 h3
theorem J7{f M:Nat}(hf:f+1<=4)(hI:Inv s)(hfr:iJ s<=f)(hM:M=4*(cB (f+1)*cB (f+1)))(h:∀z∈s.aB,GB M z.g):∀x∈s.aB,∀j,j<s.n->(vf x.g j).natAbs<=cB f:=by
 intro x hx j hj;have h1:(vf x.g j).natAbs<=M:=h x hx _ (gz (by rw[(hI.it x hx).2];exact hj));rcases lev hf with rfl|rfl|rfl|rfl
 . exact Cj hI (by omega) x hx j hj
 . exact Cj hI (by omega) x hx j hj
 . exact bU h1 (by rw[hM];decide)
 . exact bU h1 (by rw[hM];decide)
theorem Ny{f m:Nat}(hf:f+1<=4)(hI:Inv s)(hfr:iJ s<=f)(hm:m<=iB (f+1)+1)(h:s.aB.length<=m+m*m/4):s.aB.length<=iB f:=by
 have hmm:m*m<=(iB (f+1)+1)*(iB (f+1)+1):=j7 hm hm;rcases lev hf with rfl|rfl|rfl|rfl
 . rw[GL hI (by omega)];simp
 . exact MS hI (by omega)
 . have:iB (2+1)=306:=rfl;have:iB 2=23870:=rfl;rw[show iB (2+1)=306 from rfl]at hm hmm;omega
 . have:iB 3=306:=rfl;rw[show iB (3+1)=32 from rfl]at hm hmm;omega
theorem wU{f m:Nat}(hf:f+1<=4)(hm:m<=iB (f+1)+1):2*m+m*m/4+cB (f+1)+300+lB f<=lB (f+1):=by
 have hmm:m*m<=(iB (f+1)+1)*(iB (f+1)+1):=j7 hm hm;rcases lev hf with rfl|rfl|rfl|rfl
 . rw[show iB (0+1)=2 from rfl]at hm hmm;rw[show cB (0+1)=1 from rfl,show lB 0=10 from rfl,show lB (0+1)=400 from rfl];omega
 . rw[show iB (1+1)=23870 from rfl]at hm hmm;rw[show cB (1+1)=400000000 from rfl,show lB 1=400 from rfl,show lB (1+1)=542600000 from rfl];omega
 . rw[show iB (2+1)=306 from rfl]at hm hmm;rw[show cB (2+1)=10000 from rfl,show lB 2=542600000 from rfl,show lB (2+1)=542700000 from rfl];omega
 . rw[show iB (3+1)=32 from rfl]at hm hmm;rw[show cB (3+1)=50 from rfl,show lB 3=542700000 from rfl,show lB (3+1)=542800000 from rfl];omega
theorem xL{f m:Nat}(hf:f+1<=4)(hm:m<=iB (f+1)+1):3*m+600+dB f<=dB (f+1):=by
 rcases lev hf with rfl|rfl|rfl|rfl
 . rw[show iB (0+1)=2 from rfl]at hm;rw[show dB 0=10 from rfl,show dB (0+1)=1000 from rfl];omega
 . rw[show iB (1+1)=23870 from rfl]at hm;rw[show dB 1=1000 from rfl,show dB (1+1)=80000 from rfl];omega
 . rw[show iB (2+1)=306 from rfl]at hm;rw[show dB 2=80000 from rfl,show dB (2+1)=85000 from rfl];omega
 . rw[show iB (3+1)=32 from rfl]at hm;rw[show dB 3=85000 from rfl,show dB (3+1)=90000 from rfl];omega
theorem M4{f:Nat}(hf:f+1<=4):uB (f+1)+820<=uB f:=by
 rcases lev hf with rfl|rfl|rfl|rfl
 . show cL.k+4000+820<=cL.k+5000;omega
 . show cL.k+3000+820<=cL.k+4000;omega
 . show cL.k+2000+820<=cL.k+3000;omega
 . show cL.k+1000+820<=cL.k+2000;omega
theorem Ic(hI:Inv s)(hfr:iJ s<=f)(h:s.aB≠[]):0<f:=by
 refine Nat.pos_of_ne_zero λe=>h (GL hI (by omega))
def Nxt(sys base:List AQ)(f K L n:Nat)(ed:List AE)(r:Bool×aS):Prop:=∃s':St,r.2=s'.to/\s'.n=n/\((r.1=true/\Good sys base f K s'/\s'.aB.length<=iB f/\s'.aA.length<=L/\s'.aK=ed)\/(r.1=false/\Ref n base (.leaf s'.aU)))
theorem Ro{s':St}(hI:Inv s)(h:ik s s'){p j:Nat}(hp:p<s.aA.length)(hj:j<s.n)(hst:vf s.aN j≠0):cu s'.u s'.n (aH s'.aA p).c j=cu s.u s.n (aH s.aA p).c j:=by
 obtain⟨e,he⟩:=h.kn;unfold cu;rw[h.n,he,iH hp];exact eF (λ_ _=>rfl) λi hi=>(h.col j hj hst).2.2 i hi
theorem IM{s':St}(hI:Inv s)(h:ik s s')(hs:s'.aK=s.aK)(hr:RF sys s):RF sys s':=
 ⟨h.R hr.R,λk e hk ht=>h.F hI (by rw[<-hs];exact hk) (hr.F k e (by rw[<-hs];exact hk) ht)⟩
theorem S8{i j m:Nat}(hf:f+1<=4)(h:Good sys base (f+1) K s)(hm:m<=iB (f+1)+1)(hil:s.aB.length<=m)(hkl:s.aA.length+m<=1073741824)(hK:K+6<=cL.k)(he:sW s i j):
 Tm (λN=>tJ N s.to (i:Int) (j:Int)) (Nxt sys base f (K+6) (s.aA.length+m) s.n s.aK):=by
 have hL:dh=1099511627776:=rfl;have hC:=mw (f+1);have hmB:=ot (f+1);have hu:=B8 (f+1);have hn:=h.n;have hsteps:=h.aU;have hso:=h.nM (K':=K) (bO _) (by omega) (by omega) (by omega);have hso6:=h.nM (K':=K+6) (by omega) (by omega) (by omega) (by omega);have hnC:s.n*cB (f+1)<=4*400000000:=j7 hn hC.1;refine(Qe h.inv hso h.su hn he h.co (by omega) (by omega) (by omega) (by omega) (by omega) (by omega)).mono ?_;rintro _ ⟨p,s1,hP,rfl⟩;have hlen:=MQ hP;have hAk:=MO h.inv hso hn (by omega) hP he;have hinv1:=PT h.inv hP;have hA:=va (K:=K) (M:=4*(cB (f+1)*cB (f+1))) (eJ s1 i j p 0) (eN s1 i p) hinv1 (λa ha=>(hAk a ha).2) (λz hz=>by cases hz) λa ha=>(hAk a ha).1.2;have hLl:=Gb (s:=s1) (i:=i) (j:=j) (p:=p) s1.aB.length 0 (by omega);have hok2:gJ (K+6) (eN s1 i p):=⟨by show s1.n<=_;rw[hP.n];omega,by show s1.aA.length<=_;rw[hP.kn];omega,by show s1.aU.length<=_;rw[hP.st];omega,by simp[eN],λq hq=>by
  have hq:q∈s1.aA:=hq;rw[hP.kn]at hq;exact⟨(h.q q hq).mono (by omega),by rw[h.inv.kl q hq];exact hP.n.symm⟩,λx hx=>(by cases hx),by omega⟩
 have hsok:=wm (Kk:=K) (eJ s1 i j p 0) (eN s1 i p) hok2 ⟨by show s1.aA.length+_<=_;rw[hP.kn];omega,by show s1.aU.length+_<=_;rw[hP.st];omega,by show 0+_<=_;omega⟩ (λa ha=>(hAk a ha).1.1) (bO _);have hkn':(eN s1 i p).aA=s.aA:=hP.kn;have hst':(eN s1 i p).aU=s.aU:=hP.st;have hn':(eN s1 i p).n=s.n:=hP.n;have hil':=hA.il;have hkl':=hA.kl;rw[hkn']at hkl';have hil'':(cw (eN s1 i p) (eJ s1 i j p 0)).2.aB.length<=m:=by
  have:(eN s1 i p).aB.length=0:=rfl;omega
 have hder:ir s.n base (cw (eN s1 i p) (eJ s1 i j p 0)).2.aU (cw (eN s1 i p) (eJ s1 i j p 0)).2.aA:=by
  have:=hA.jE base (by rw[hn',hst',hkn'];exact h.jE);rwa[hn']at this
 have hnn:(cw (eN s1 i p) (eJ s1 i j p 0)).2.n=s.n:=hA.kept.n.trans hn';refine⟨_,rfl,hnn,?_⟩;cases hb:(cw (eN s1 i p) (eJ s1 i j p 0)).1 with
 |false=>
  refine .inr ⟨rfl,zK hA.inv hnn hder (by omega) (λq hq=>(hsok.k q hq).1.mono (by omega)) ?_⟩;obtain⟨q,q1,q2,q3⟩:=hA.bad hb;exact⟨q,q1,λj hj=>q2 j (by rw[hn'];exact hj),q3⟩
 |true=>
  rw[hb]at hA;have hsim:=RJ h.inv hP he hA λa ha=>(hAk a ha).2;have hstk:(cw (eN s1 i p) (eJ s1 i j p 0)).2.aK=s.aK:=hA.kept.ed.trans hP.ed;have hfr:iJ (cw (eN s1 i p) (eJ s1 i j p 0)).2+1=iJ s:=J4 (c:=1) hnn hP.pn hP.free (by decide) λm=>by
   rw[hA.kept.aN];show vf (s1.aN.set p 1) m=_;rw[jZ (by rw[hP.inv.gw,hP.n];exact hP.pn),hP.aN]
  have hfr':iJ (cw (eN s1 i p) (eJ s1 i j p 0)).2<=f:=by have:=h.fr;omega
  refine .inl ⟨rfl,⟨hA.inv,IM h.inv hsim hstk h.rf,by rw[hnn];exact hn,hfr',?_,λq hq=>(hsok.k q hq).1,?_,λe he'=>?_,by rw[hnn];exact hder⟩,?_,by omega,hstk⟩
  . exact J7 hf hA.inv hfr' rfl hA.gb
  . have hsu:=hP.su;have hup:=M4 (f:=f) hf;have hv:dl (aH s1.aA (bJ s1 i).pos).b<=uB f:=by
     have h1:=(hP.inv.it _ (iA (oy hP i he.il).1)).1;have h2:=(h.q _ (by rw[<-hP.kn];exact fg h1)).2;have:=B8 f;omega
    refine⟨⟨by rw[hA.kept.u,hnn];show s1.u.length=_;rw[hsu.u.1,hP.n],λr hr=>?_⟩,by rw[hA.kept.aN,hnn];show(s1.aN.set p 1).length=_;rw[iK,hsu.st,hP.n],?_⟩
    . rw[hA.kept.u]at hr;have:=hsu.u.2 r hr;rw[hnn];exact⟨this.1.trans hP.n,λv hv=>bU (this.2 v hv) (by omega)⟩
    . rw[hA.kept.value,hnn];show kh s.n (uB f) (s1.value.set p _);refine⟨by rw[iK,hsu.v.1,hP.n],λv hv'=>?_⟩;rcases qp hv' with hv'|rfl
      . exact bU (hsu.v.2 v hv') (by omega)
      . exact hv
  . rw[hstk]at he';have e0:=h.st e he';obtain⟨x,hx⟩:=hsim.kn;refine⟨e0.il,by rw[hnn];exact e0.v,λq hq=>⟨by rw[hx,di];have:=(e0.p q hq).1;omega,?_⟩⟩;rw[Ro h.inv hsim (e0.p q hq).1 e0.v (by rw[(h.inv.sv e he').2.1];omega)];exact(e0.p q hq).2
  . exact Ny hf hA.inv hfr' hm (by have:m<=m+m*m/4:=Nat.le_add_right _ _;omega)
end
end Go.D
namespace Go.D
open Go Go.X
section
variable [cL] {sys base:List AQ} {f K:Nat} {s:St}
theorem H5{s0:St}{v m:Nat}{t:Bool}{ats:List Nat}(hf:f+1<=4)(h:Good sys base (f+1) K s)(hI0:Inv s0)(hr0:RF sys s0)(hk:Kept s0 s)(hv:v<s.n)(hst:vf s.aN v=0)(hats:xp s v ats)(hatl:ats.length<=1073741824)
 (hcov:∀y,(∀x∈s.aB,vf x.g v=0->IH s y x)->(∀p∈ats,hx s (ux s y) p)->∀x∈s0.aB,IH s0 y x)
 (hF:t=false->∀y,zS s v y->∃z,∀p∈ats,hx s (ux s (cS y v z)) p)
 (hm:m<=iB (f+1)+1)(hil:s.aB.length<=m)(hkl:s.aA.length+m*m/4<=1073741824)(hK:K+6<=cL.k):
 Nxt sys base f (K+6) (s.aA.length+m*m/4) s.n (s.aK++[⟨v,ats,t⟩]) ((cw (fN s v t ats) (dt s v)).1,(cw (fN s v t ats) (dt s v)).2.to):=by
 have hC:=mw (f+1);have hKM:=cL.h;have hmB:=ot (f+1);have hn:=h.n;have hsteps:=h.aU;have hso:=h.nM (K':=K) (bO _) (by omega) (by omega) (by omega);have hso6:=h.nM (K':=K+6) (by omega) (by omega) (by omega) (by omega);have hsl:=yf (v:=v) s.aB;have hLl:=MP (s:=s) (v:=v);have hsq:=Ks (u:=(cM v s.aB).length) (w:=(dL v s.aB).length) (m:=m) (by omega);have hAk:=Lg (t:=t) (ats:=ats) h.inv hso hv h.co (by omega);have hinv1:=Inv.fN (t:=t) h.inv hv hst hats;have hgb0:∀z∈(fN s v t ats).aB,GB (4*(cB (f+1)*cB (f+1))) z.g:=λz hz w hw=>by
  obtain⟨z1,_⟩:=qD.1 hz;obtain⟨j,hj,rfl⟩:=gC hw;have:=h.co z z1 j (by rw[(h.inv.it z z1).2]at hj;exact hj);have h1:cB (f+1)*1<=cB (f+1)*cB (f+1):=zy _ hC.2;omega
 have hA:=va (K:=K) (M:=4*(cB (f+1)*cB (f+1))) (dt s v) (fN s v t ats) hinv1 (λa ha=>(hAk a ha).2) hgb0 λa ha=>(hAk a ha).1.2;have hok2:gJ (K+6) (fN s v t ats):=⟨hso6.n,hso6.kl,hso6.sl,bU (ue ..) hso6.il,hso6.k,λx hx=>hso6.i x (qD.1 hx).1,hso6.K⟩;have hfil:(fN s v t ats).aB.length=(s.aB.filter λx=>!decide (vf x.g v≠0)).length:=rfl;have hmm:m*m<=23871*23871:=j7 (by omega) (by omega);have hsok:=wm (Kk:=K) (dt s v) (fN s v t ats) hok2 ⟨by show s.aA.length+_<=_;omega,by show s.aU.length+_<=_;omega,by rw[hfil];omega⟩ (λa ha=>(hAk a ha).1.1) (bO _);have hil':=hA.il;have hkl':_<=s.aA.length+_:=hA.kl;have hil'':(cw (fN s v t ats) (dt s v)).2.aB.length<=m+m*m/4:=by omega
 have hder:ir s.n base (cw (fN s v t ats) (dt s v)).2.aU (cw (fN s v t ats) (dt s v)).2.aA:=hA.jE base h.jE;have hnn:(cw (fN s v t ats) (dt s v)).2.n=s.n:=hA.kept.n;refine⟨_,rfl,hnn,?_⟩;cases hb:(cw (fN s v t ats) (dt s v)).1 with
 |false=>exact .inr ⟨rfl,zK hA.inv hnn hder (by omega) (λq hq=>(hsok.k q hq).1.mono (by omega)) (hA.bad hb)⟩
 |true=>
  rw[hb]at hA;have hsim:=Pe hI0 h.inv hk hv hst hcov hats hA;have hstk:(cw (fN s v t ats) (dt s v)).2.aK=s.aK++[⟨v,ats,t⟩]:=hA.kept.ed;have hfr:iJ (cw (fN s v t ats) (dt s v)).2+1=iJ s:=J4 (c:=2) hnn hv hst (by decide) λm=>by
   rw[hA.kept.aN];exact qH h.inv hv m
  have hfr':iJ (cw (fN s v t ats) (dt s v)).2<=f:=by have:=h.fr;omega
  have hup:=M4 (f:=f) hf;refine .inl ⟨rfl,⟨hA.inv,⟨hsim.R hr0.R,λk e hke ht=>?_⟩,by rw[hnn];exact hn,hfr',J7 hf hA.inv hfr' rfl hA.gb,λq hq=>(hsok.k q hq).1,?_,λe he'=>?_,by rw[hnn];exact hder⟩,Ny hf hA.inv hfr' hm hil'',by omega,hstk⟩
  . rw[hstk]at hke;rcases cH k s0.aK.length with hlt|hge
    . rw[hk.ed,kv hlt]at hke;exact hsim.F hI0 hke (hr0.F k e hke ht)
    . rw[hk.ed,oZ hge]at hke;obtain rfl:⟨v,ats,t⟩=e:=by
       cases hd:k-s0.aK.length with
       |zero=>rw[hd]at hke;exact jh hke
       |succ d=>rw[hd]at hke;cases hke
      exact Uj h.inv hv hats hA (hF ht)
  . have hsu:=h.su.mono (K':=uB f) (by omega);refine⟨⟨by rw[hA.kept.u,hnn];exact hsu.u.1,λr hr=>by rw[hA.kept.u]at hr;rw[hnn];exact hsu.u.2 r hr⟩,by rw[hA.kept.aN,hnn];show(s.aN.set v 2).length=_;rw[iK];exact hsu.st,by rw[hA.kept.value,hnn];exact hsu.v⟩
  . rw[hstk]at he';have hE:pQ s e:=by
     rcases fe.1 he' with he'|he'
     . exact h.st e he'
     . rw[cG.1 he'];exact⟨hatl,hv,λp hp=>⟨(hats p hp).1,(hats p hp).2.2⟩⟩
    obtain⟨x,hx'⟩:=hA.kept.kn;exact⟨hE.il,by rw[hnn];exact hE.v,λp hp=>⟨by rw[hx',di];have:=(hE.p p hp).1;show p<s.aA.length+_;omega,by rw[hA.kept.u,hnn,hx'];show cu s.u s.n (aH (s.aA++x) p).c e.v≠0;rw[iH (hE.p p hp).1];exact(hE.p p hp).2⟩⟩
theorem Ie{v:Nat}{low:AI}{cr:List AI}(h:0<eI v cr):(eI v cr-1)*(-vf low.g v-1)<=eI v cr*(ic v low cr+1):=by
 have h1:=mb (a:=eI v cr*-vf low.g v-eI v cr- -vf low.g v) h;unfold ic;generalize(eI v cr*-vf low.g v-eI v cr- -vf low.g v).fdiv (eI v cr)=q at*;have e1:(eI v cr-1)*(-vf low.g v-1)=eI v cr*-vf low.g v-eI v cr- -vf low.g v+1:=by grind
 have e2:eI v cr*(q+1)=q*eI v cr+eI v cr:=by grind
 omega
theorem Nn{a A b k:Int}(ha:0<a)(haA:a<=A)(hb:0<b)(h:(A-1)*(b-1)<=A*k):(a-1)*(b-1)<=a*max k 0:=by
 have hA:0<A:=by omega
 rcases uh k 0 with hk|hk
 . have h1:A*k<=A*0:=ff hk (dY hA);have h2:=eU (show a-1<=A-1 by omega) (show 0<=b-1 by omega);rw[Ok hk];omega
 . rw[Int.max_eq_left hk];have h1:=ff h (dY ha);have h2:A*(a-1)<=a*(A-1):=by
    have e1:A*(a-1)=a*A-A:=by grind
    have e2:a*(A-1)=a*A-a:=by grind
    omega
   have h3:=eU h2 (show 0<=b-1 by omega);have e1:a*((A-1)*(b-1))=a*(A-1)*(b-1):=by grind
   have e2:A*(a-1)*(b-1)=A*((a-1)*(b-1)):=by grind
   have e3:a*(A*k)=A*(a*k):=by grind
   exact HH (a:=A) (by omega) hA
theorem Fl{v:Nat}{s:St}(h:cM v s.aB≠[]):0<eI v (cM v s.aB):=by
 obtain⟨x,hx,e⟩:=E5 (v:=v) h;rw[e];exact(kM.1 hx).2
theorem Oz{v:Nat}(hI:Inv s)(hv:v<s.n)(he:tG s v):∀y,zS s v y->∃z,∀p∈fI s v,hx s (ux s (cS y v z)) p:=by
 intro y hp;obtain⟨z,h1,h2⟩:=Lx (y:=y) hv (λw=>(aH s.aA w.pos).b) (λx hx w hw=>by
  have h0:=hp x hx w hw;have hne:cM v s.aB≠[]:=HI hx;have hs:ic v w (cM v s.aB)<0:=by
   rcases he with he|he
   . exact bV he hne
   . exact he w hw
  have h3:=Nn (kM.1 hx).2 (Km x hx) (show 0< -vf w.g v by have:=(iF.1 hw).2;omega) (Ie (low:=w) (Fl hne));rw[Ok (by omega)]at h3;omega)
 refine⟨z,λp hp'=>?_⟩;obtain⟨x,hx',rfl⟩:=dR.1 hp';rcases fe.1 hx' with hx'|hx'
 . exact(uP hI (kM.1 hx').1).1 (h1 x hx')
 . exact(uP hI (iF.1 hx').1).1 ((DB hv).2 (h2 x hx'))
theorem RY{v:Nat}(hI:Inv s):∀y,(∀x∈s.aB,vf x.g v=0->IH s y x)->(∀p∈fI s v,hx s (ux s y) p)->∀x∈s.aB,IH s y x:=by
 intro y h1 h2 x hx';by_cases h0:vf x.g v=0
 . exact h1 x hx' h0
 . refine(uP hI hx').2 (h2 _ (dR.2 ⟨x,fe.2 ?_,rfl⟩));rcases rS h0 with h|h
   . exact .inr (iF.2 ⟨hx',h⟩)
   . exact .inl (kM.2 ⟨hx',h⟩)
theorem K8{v:Nat}:(fI s v).length<=s.aB.length:=by
 have:=yf (v:=v) s.aB;unfold fI;rw[cT,di];omega
theorem Nj{v m:Nat}{t:Bool}(h:Good sys base (f+1) K s)(hv:v<s.n)(hm:m<=iB (f+1)+1)(hil:s.aB.length<=m)(hkl:s.aA.length+m*m/4<=1073741824)(hK:K+6<=cL.k):
 Tm (λN=>oS N s.to (v:Int) t) (·=((cw (eV s v t) (dt s v)).1,(cw (eV s v t) (dt s v)).2.to)):=by
 have hC:=mw (f+1);have hKM:=cL.h;have hmB:=ot (f+1);have hn:=h.n;have hsteps:=h.aU;have hso:=h.nM (K':=K) (bO _) (by omega) (by omega) (by omega);have hso6:=h.nM (K':=K+6) (by omega) (by omega) (by omega) (by omega);have hsl:=yf (v:=v) s.aB;have hLl:=MP (s:=s) (v:=v);have hsq:=Ks (u:=(cM v s.aB).length) (w:=(dL v s.aB).length) (m:=m) (by omega);have hmm:m*m<=23871*23871:=j7 (by omega) (by omega);have hstl:=EC h.inv;have hAk:=Lg (t:=t) (ats:=fI s v) h.inv hso hv h.co (by omega);have hfl:(eV s v t).aB.length<=s.aB.length:=ue ..;have hr:jJ (dt s v).length (eV s v t):=⟨by show s.aA.length+_<=_;omega,by show s.aU.length+_<=_;omega,by omega⟩;exact Vm hso6 hv h.inv.gw (by omega) (bO _) (λa ha=>(hAk a ha).1.1) hr
theorem KK{v m:Nat}{t:Bool}(hf:f+1<=4)(h:Good sys base (f+1) K s)(hv:v<s.n)(hst:vf s.aN v=0)(he:t=false->tG s v)(hm:m<=iB (f+1)+1)(hil:s.aB.length<=m)(hkl:s.aA.length+m*m/4<=1073741824)(hK:K+6<=cL.k):
 Tm (λN=>oS N s.to (v:Int) t) (Nxt sys base f (K+6) (s.aA.length+m*m/4) s.n (s.aK++[⟨v,fI s v,t⟩])):=by
 have hmB:=ot (f+1);refine(Nj h hv hm hil hkl hK).mono λr hr'=>?_;rw[hr',UN];exact H5 hf h h.inv h.rf (Kept.refl s) hv hst (Kd h.inv hv) (bU K8 (by omega)) (RY h.inv) (λht=>Oz h.inv hv (he ht)) hm hil hkl hK
theorem R8{s':St}(hI:Inv s)(k:Kept s s')(hi:∀y,(∀x∈s'.aB,IH s' y x)->∀x∈s.aB,IH s y x):ik s s':=by
 obtain⟨e,he⟩:=k.kn;have hux:∀y i,ux s' y i=ux s y i:=λy i=>by unfold ux;rw[k.u,k.n]
 refine⟨k.n,⟨e,he⟩,⟨[],by rw[k.ed];simp⟩,λj hj hs=>⟨by rw[k.aN],λ_=>by rw[k.value],λi _=>by rw[k.u]⟩,λy=>⟨y,λi _=>hux y i,λ_ _ _=>rfl,λm hm ⟨h1,h2,h3⟩=>⟨λj hj hs=>?_,hi y h2,λe' he' p hp=>?_⟩⟩⟩
 . have:=h1 j (by rw[k.n];exact hj) (by rw[k.aN];exact hs);rw[this,k.value]
 . have:=h3 e' (by rw[k.ed];exact he') p hp;exact(so k.n he ((hI.sv e' (Hm he')).2.2 p hp) λi _=>hux y i).1 this
theorem FO{s':St}{base':List AQ}{K':Nat}(h:Good sys base f K s)(k:Kept s s')(hI':Inv s')(hi:∀y,(∀x∈s'.aB,IH s' y x)->∀x∈s.aB,IH s y x)(hco:∀x∈s'.aB,∀j,j<s.n->(vf x.g j).natAbs<=cB f)
 (hq:∀q∈s'.aA,fW K' q)(hder:ir s'.n base' s'.aU s'.aA):Good sys base' f K' s' where
 inv:=hI'
 rf:=IM h.inv (R8 h.inv k hi) k.ed h.rf
 n:=by rw[k.n];exact h.n
 fr:=by have:=h.fr;unfold iJ at*;rw[k.n,k.aN];exact this
 co x hx j hj:=hco x hx j (by rw[<-k.n];exact hj)
 q:=hq
 su:=⟨⟨by rw[k.u,k.n];exact h.su.u.1,λr hr=>by rw[k.u]at hr;rw[k.n];exact h.su.u.2 r hr⟩,by rw[k.aN,k.n];exact h.su.st,by rw[k.value,k.n];exact h.su.v⟩
 st e he:=(h.st e (by rw[<-k.ed];exact he)).kept k
 jE:=hder
theorem Kf(s:St)(q:AQ):Kept s (dc s q):=⟨rfl,rfl,rfl,rfl,rfl,[q],rfl⟩
theorem vG{q:AQ}{K':Nat}(h:Good sys base f K s)(hl:q.c.length=s.n)(hq:fW K' q)(hK:K<=K'):Good sys (s.aA++[q]) f K' (dc s q):=by
 refine FO h (Kf s q) (h.inv.aA (e:=[q]) rfl λq' hq'=>by rw[cG.1 hq'];exact hl) (λy hy x hx'=>(zh (s:=s) (s':=dc s q) rfl (e:=[q]) rfl (h.inv.it x hx').1).1 (hy x hx')) h.co (λq' hq'=>?_) .nil;rcases fe.1 hq' with hq'|hq'
 . exact(h.q q' hq').mono hK
 . rw[cG.1 hq'];exact hq
theorem Q5{x:AI}(h:Good sys base f K s)(hx:kW s x)(hco:∀j,j<s.n->(vf x.g j).natAbs<=cB f):Good sys base f K (add s x):=
 FO h (EM s x) (h.inv.add hx) (λy hy=>(Bz (s:=s) (x:=x) (y:=y) (l:=s.aB) hy).1) (λz hz j hj=>(mv hz).elim (λe=>by subst e;exact hco j hj) λhz=>h.co z hz j hj) h.q h.jE
def nz(s:St)(p p':Nat):St:={s with aB:=sC s.aB p p'}
theorem Af{l:List AI}{p p':Nat}{x:AI}:x∈sC l p p'↔∃y∈l,(if y.pos=p then{y with pos:=p'}else y)=x:=dR
theorem Lc(s:St)(p p':Nat):Kept s (nz s p p'):=⟨rfl,rfl,rfl,rfl,rfl,[],by simp[nz]⟩
theorem PR{p p':Nat}(h:Good sys base f K s)(hp:p'<s.aA.length)(hc:(aH s.aA p').c=(aH s.aA p).c)(hb:(aH s.aA p').b<=(aH s.aA p).b):Good sys base f K (nz s p p'):=by
 have key:∀x∈(nz s p p').aB,∃y∈s.aB,x.g=y.g/\(x=y\/(y.pos=p/\x.pos=p')):=λx hx'=>by
  obtain⟨y,hy,rfl⟩:=Af.1 hx';split
  . rename_i e;exact⟨y,hy,rfl,.inr ⟨e,rfl⟩⟩
  . exact⟨y,hy,rfl,.inl rfl⟩
 refine FO h (Lc s p p') ⟨h.inv.ul,h.inv.gw,h.inv.vl,h.inv.kl,λx hx'=>?_,λx hx' j hj=>?_,λx hx'=>?_,λx hx'=>?_,?_,h.inv.kA,h.inv.stat,h.inv.sv,h.inv.s2,h.inv.sd⟩ (λy hy x hx'=>?_) (λx hx' j hj=>?_) h.q h.jE
 . obtain⟨y,hy,e1,e2⟩:=key x hx';refine⟨?_,by rw[e1];exact(h.inv.it y hy).2⟩;rcases e2 with rfl|⟨_,e3⟩
   . exact(h.inv.it x hy).1
   . rw[e3];exact hp
 . obtain⟨y,hy,e1,e2⟩:=key x hx';rw[e1,h.inv.dH y hy j hj];rcases e2 with rfl|⟨e4,e3⟩
   . rfl
   . rw[e3,e4];show _=cu s.u s.n (aH s.aA p').c j;rw[hc]
 . obtain⟨y,hy,e1,_⟩:=key x hx';rw[e1];exact h.inv.nf y hy
 . obtain⟨y,hy,e1,_⟩:=key x hx';rw[e1];exact h.inv.gM y hy
 . show(s.aB.map _).Pairwise _;rw[HG];refine h.inv.kP.imp λ{a b} hab=>?_;have e:∀z:AI,(if z.pos=p then({z with pos:=p'}:AI)else z).g=z.g:=λz=>by split<;>rfl
   rw[e,e];exact hab
 . have h1:=hy _ (Af.2 ⟨x,hx',rfl⟩);unfold IH at h1⊢;split at h1
   . rename_i e;have h1:bK (vf x.g) y s.n<=(aH s.aA p').b:=h1;rw[e];omega
   . exact h1
 . obtain⟨y,hy,e1,_⟩:=key x hx';rw[e1];exact h.co y hy j hj
theorem Rx{g:List Int}(h:dC g=1):dC (cv g)=1:=by
 have h1:((dC (cv g):Nat):Int)∣((dC g:Nat):Int):=oX λv hv=>by
  have h2:-v∈cv g:=by
   obtain⟨j,hj,rfl⟩:=gC hv;rw[<-jb];exact gz (by rw[jq];exact hj)
  exact(Int.dvd_neg).1 (tz h2)
 rw[h]at h1;exact HE (Oe.1 h1)
theorem Sg{x:AI}{b:Int}(h:Good sys base f K s)(hx':x∈s.aB):kW (dc s ⟨(aH s.aA x.pos).c,b⟩) ⟨s.aA.length,x.g⟩:=by
 refine⟨by show s.aA.length<(s.aA++[_]).length;simp,(h.inv.it x hx').2,λj hj=>?_,h.inv.nf x hx',h.inv.gM x hx'⟩;rw[show aH (dc s ⟨(aH s.aA x.pos).c,b⟩).aA s.aA.length=⟨(aH s.aA x.pos).c,b⟩ from oA];exact h.inv.dH x hx' j hj
theorem KF{x:AI}{b:Int}(h:Good sys base f K s)(hx':x∈s.aB):kW (dc s ⟨cv (aH s.aA x.pos).c,b⟩) ⟨s.aA.length,cv x.g⟩:=by
 refine⟨by show s.aA.length<(s.aA++[_]).length;simp,(jq _).trans (h.inv.it x hx').2,λj hj=>?_,λj hj hst=>?_,Rx (h.inv.gM x hx')⟩
 . rw[show aH (dc s ⟨cv (aH s.aA x.pos).c,b⟩).aA s.aA.length=⟨cv (aH s.aA x.pos).c,b⟩ from oA];show vf (cv x.g) j=cu s.u s.n (cv (aH s.aA x.pos).c) j;rw[jb,h.inv.dH x hx' j hj,CL (c:=cv (aH s.aA x.pos).c) (k:=-1) (a:=(aH s.aA x.pos).c) λi hi=>by rw[jb];omega];omega
 . rw[jb,h.inv.nf x hx' j hj hst];rfl
theorem Bn{K:Nat}{c:List Int}(h:∀v∈c,dl v<=K):∀v∈cv c,dl v<=K:=λv hv=>by
 rw[<-gx];exact h _ (Du hv)
theorem AO{kn:List AQ}{x:AI}:∀{l:List AI},(∃y∈l,y.g=x.g)->(eL kn x l).length=l.length
 |[],h=>by obtain⟨y,hy,_⟩:=h;cases hy
 |z::l,h=>by
  rw[eL];split
  . split<;>simp
  . rename_i e;obtain⟨y,hy,e2⟩:=h;rcases ej.1 hy with rfl|hy
    . exact bV e2.symm e
    . rw[cJ,AO ⟨y,hy,e2⟩,cJ]
theorem FJ{kn:List AQ}{x:AI}:∀{l:List AI},∃y∈eL kn x l,y.g=x.g/\(aH kn y.pos).b<=(aH kn x.pos).b
 |[]=>⟨x,by simp[eL],rfl,lF _⟩
 |z::l=>by
  rw[eL];split
  . rename_i e;split
    . exact⟨x,cX,rfl,lF _⟩
    . exact⟨z,cX,e.symm,by omega⟩
  . obtain⟨y,hy,h⟩:=FJ (kn:=kn) (x:=x) (l:=l);exact⟨y,cO _ hy,h⟩
theorem LB{kn:List AQ}{x z:AI}:∀{l:List AI},z∈l->z.g≠x.g->z∈eL kn x l
 |w::l,h,hne=>by
  rw[eL];rcases ej.1 h with rfl|h
  . rw[aY λe=>hne e.symm];exact cX
  . split
    . split
      . exact cO _ h
      . exact cO _ h
    . exact cO _ (LB h hne)
end
end Go.D
namespace Go.D
open Go Go.X
inductive fX [cL](sys base:List AQ)(n:Nat)(ed:List AE):cz->Prop where
 |solved (x:List Int) (hl:x.length=n) (hd:∀v∈x,dl v<=10*cL.k+40000) (hs:∀q∈sys,eX n (vf x) q):fX sys base n ed (cz.mk 0 (mB x) qR 0)
 |gG (p:kX) (h:Ref n base p):fX sys base n ed (cz.mk 1 [] p.to 0)
 |failed (e:AE) (he:e∈ed) (ht:e.dP=true):fX sys base n ed (cz.mk 2 [] qR (e.v:Int))
theorem fX.up[cL]{sys base base':List AQ}{n:Nat}{ed:List AE}{r:cz}(h:fX sys base' n ed r)(hk:r.kind≠1):fX sys base n ed r:=by
 cases h with
 |solved x hl hd hs=>exact .solved x hl hd hs
 |gG p h=>exact bV rfl hk
 |failed e he ht=>exact .failed e he ht
theorem fX.ref[cL]{sys base:List AQ}{n:Nat}{ed:List AE}{r:cz}(h:fX sys base n ed r)(hk:¬r.kind≠1):∃p:kX,Ref n base p/\r=cz.mk 1 [] p.to 0:=by
 cases h with
 |solved x hl hd hs=>exact bV (show(0:Int)≠1 by decide) hk
 |gG p h=>exact⟨p,h,rfl⟩
 |failed e he ht=>exact bV (show(2:Int)≠1 by decide) hk
theorem Tm.shift{α:Type}{f:Nat->Option α}{Q:α->Prop}(h:Tm f Q):Tm (λN=>f (N+1)) Q:=by
 obtain⟨a,N0,hQ,hN⟩:=h;exact⟨a,N0,hQ,λN h=>hN (N+1) (by omega)⟩
def lV(σ:Nat->Nat):Nat->Nat
 |0=>0
 |n+1=>lV σ n+σ n
theorem Nr{σ τ:Nat->Nat}:∀{n:Nat},(∀j,j<n->σ j=τ j)->lV σ n=lV τ n
 |0,_=>rfl
 |n+1,h=>by simp only[lV];rw[Nr (n:=n) λj hj=>h j (by omega),h n (by omega)]
theorem IL{σ τ:Nat->Nat}{w:Nat}:∀{n:Nat},w<n->(∀j,j<n->j≠w->τ j=σ j)->τ w<σ w->lV τ n<lV σ n
 |n+1,hw,h,hlt=>by
  simp only[lV];by_cases e:n=w
  . subst e;rw[Nr (σ:=τ) (τ:=σ) (n:=n) λj hj=>h j (by omega) (by omega)];omega
  . have:=IL (n:=n) (by omega) (λj hj=>h j (by omega)) hlt;rw[h n (by omega) e];omega
def mS(n:Nat)(c:Int)(g:List Int)(w:Nat):Prop:=∀j,j<n->vf g j=if j=w then c else 0
def uY(μ:Nat)(s:St):Prop:=∃σ:Nat->Nat,(∀j,σ j<=65)/\lV σ s.n<=μ/\∀j,j<s.n->∀x∈s.aB,∀y∈s.aB,mS s.n 1 x.g j->mS s.n (-1) y.g j->(aH s.aA x.pos).b+(aH s.aA y.pos).b<=64->(aH s.aA x.pos).b+(aH s.aA y.pos).b<=σ j
theorem CT{s:St}(hn:s.n<=4):uY 260 s:=by
 refine⟨λ_=>65,λ_=>bO _,?_,λj _ x _ y _ _ _ h=>by dsimp only;omega⟩;have:∀n,lV (λ_=>65) n=65*n:=λn=>by induction n with
  |zero=>rfl
  |succ n ih=>simp only[lV,ih];omega
 rw[this];omega
theorem mS.inj{n:Nat}{c:Int}{a b:List Int}{j:Nat}(ha:mS n c a j)(hb:mS n c b j)(la:a.length=n)(lb:b.length=n):a=b:=lS (by rw[la,lb]) λi hi=>by rw[ha i (by omega),hb i (by omega)]
theorem mS.at{n:Nat}{c:Int}{a:List Int}{j w:Nat}(ha:mS n c a j)(hb:mS n c a w)(hc:c≠0)(hj:j<n):j=w:=by
 have h1:=ha j hj;have h2:=hb j hj;rw[bD rfl]at h1;by_cases e:j=w
 . exact e
 . rw[aY e]at h2;omega
theorem xQ{s:St}(hI:Inv s){x y:AI}(hx:x∈s.aB)(hy:y∈s.aB)(h:x.g=y.g):x=y:=by
 obtain⟨i,hi,rfl⟩:=nU hx;obtain⟨j,hj,rfl⟩:=nU hy;have hd:=Oh.1 hI.kP;rcases N8 i j with h1|h1|h1
 . exact bV h (hd i j hi hj h1)
 . subst h1;rfl
 . exact bV h.symm (hd j i hj hi h1)
theorem Mb{s:St}(hI:Inv s){x y:AI}(hx:x∈s.aB)(hy:y∈s.aB)(h:x.pos=y.pos):x=y:=by
 refine xQ hI hx hy (lS ((hI.it x hx).2.trans (hI.it y hy).2.symm) λj hj=>?_);have hj:j<s.n:=by rw[(hI.it x hx).2]at hj;exact hj
 rw[hI.dH x hx j hj,hI.dH y hy j hj,h]
section
variable [cL] {sys base:List AQ} {f K μ:Nat} {s:St}
def mC(sys:List AQ)(f μ:Nat)(R:Nat->aS->Option cz):Prop:=∀(base:List AQ) (K:Nat) (s:St),Good sys base f K s->uY μ s->s.aB.length<=iB f->s.aA.length+μ+lB f<=1073741824->K+2*μ+dB f<=cL.k->Tm (λN=>R N s.to) (fX sys base s.n s.aK)
theorem mC.shift{R:Nat->aS->Option cz}(h:mC sys f μ R):mC sys f μ λN=>R (N+1):=λbase K s h1 h2 h3 h4 h5=>Tm.shift (f:=λN=>R N s.to) (h base K s h1 h2 h3 h4 h5)
theorem Fc{q:AQ}{g:List Int}(h:Good sys base f K s)(hS:kW (dc s q) ⟨s.aA.length,g⟩){K':Nat}(hq:fW K' q)(hql:q.c.length=s.n)(hK:K<=K')(hco:∀j,j<s.n->(vf g j).natAbs<=cB f):
 Good sys (s.aA++[q]) f K' (add (dc s q) ⟨s.aA.length,g⟩)/\
 (∀z∈(add (dc s q) ⟨s.aA.length,g⟩).aB,z.g≠g->z∈s.aB)/\
 (∀z∈(add (dc s q) ⟨s.aA.length,g⟩).aB,z.g=g->(aH (s.aA++[q]) z.pos).b<=q.b):=by
 have hG:=Q5 (vG h hql hq hK) hS hco;refine⟨hG,λz hz hne=>?_,λz hz he=>?_⟩
 . rcases mv (show z∈eL _ _ s.aB from hz)with rfl|hz
   . exact bV rfl hne
   . exact hz
 . obtain⟨y,hy,y1,y2⟩:=FJ (kn:=s.aA++[q]) (x:=⟨s.aA.length,g⟩) (l:=s.aB);obtain rfl:z=y:=xQ hG.inv hz hy (he.trans y1.symm);rw[show(aH (s.aA++[q]) s.aA.length)=q from oA]at y2;exact y2
theorem Qd{q:AQ}{g:List Int}(h:pE s)(hG:Good sys (s.aA++[q]) f K (dc s q))(hil:s.aB.length<=1073741824)(hkl:s.aA.length+1<=1073741824)(hK:K<=1099511627000)(hg:p8 (dc s q) ⟨s.aA.length,g⟩){R:Nat->aS->aS->Option cz}{Q:cz->Prop}
 (k:Tm (λN=>R N (dc s q).to (add (dc s q) ⟨s.aA.length,g⟩).to) Q):
 Tm (λN=>(nt N s.to q.to).bind λr5=>(l6 N r5 (bB.mk (iw ((List.length r5.aA:Int)-1)) (mB g))).bind λr6=>R N r5 r6) Q:=by
 refine aV (uV h) ?_;have e:bB.mk (iw ((List.length (dc s q).to.aA:Int)-1)) (mB g)=AI.to ⟨s.aA.length,g⟩:=by
  show bB.mk (iw ((((s.aA++[q]).map AQ.to).length:Int)-1)) (mB g)=bB.mk (s.aA.length:Int) (mB g);congr 1;rw[cT,di,jN,bL]<;>omega
 rw[e];exact aV (vj (K:=K) (hG.nM (bO _) hK (by show(s.aA++[q]).length<=_;rw[di,jN];omega) hil) hg) k
theorem F9{x:AI}{f:Nat}(hS:kW s x)(hco:∀j,j<s.n->(vf x.g j).natAbs<=cB f):p8 s x:=⟨hS.pos,hS.gl,λv hv=>bU (w7 hS.gl hco (by have:=mw f;omega) v hv) (by decide)⟩
theorem QV{R:Nat->aS->Option cz}(hf:f<=4)(hR:∀μ',μ'<μ->mC sys f μ' R)(h:Good sys base f K s)(hσ:uY μ s)(hil:s.aB.length<=iB f)(hkl:s.aA.length+μ+lB f<=1073741824)(hK:K+2*μ+dB f<=cL.k)
    {x y:AI}{w:Nat}(hx':x∈s.aB)(hy':y∈s.aB)(hw:w<s.n)(hxu:mS s.n 1 x.g w)(hyu:mS s.n (-1) y.g w)(h1:0<(aH s.aA x.pos).b+(aH s.aA y.pos).b)(h64:(aH s.aA x.pos).b+(aH s.aA y.pos).b<=64):
    Tm (λN=>zg N (R N) s.to ⟨x.to,B (-(aH s.aA y.pos).b),B (aH s.aA x.pos).b⟩) (fX sys base s.n s.aK):=by
  have hL:dh=1099511627776:=rfl;have hKM:=cL.h;have hC:=mw f;have hn:=h.n;have hmB:=ot f;obtain⟨σ,σ1,σ2,σ3⟩:=hσ;have hσw:=σ3 w hw x hx' y hy' hxu hyu h64;have hcp:pE s:=h.inv.cp hn (by omega) (by omega);obtain⟨x1,x2⟩:=h.inv.it x hx';obtain⟨y1,y2⟩:=h.inv.it y hy';have hqx:=h.q _ (fg x1);have dbx:=hqx.2;have dby:=(h.q _ (fg y1)).2;have hxy:y.g=cv x.g:=lS (by rw[jq,x2,y2]) λj hj=>by
    rw[jb,hyu j (by omega),hxu j (by omega)];split<;>rfl
  have hxny:x.g≠cv x.g:=λe=>by
    have:=dz (λl=>vf l w) e;simp only[jb]at this;have:=hxu w hw;rw[bD rfl]at this;omega
  have hcl:(aH s.aA x.pos).c.length=s.n:=h.inv.kl _ (fg x1);generalize hbx:(aH s.aA x.pos).b=bx at*;generalize hby:(aH s.aA y.pos).b=bY at*;have hm:=mb (a:=-bY+bx) (p:=2) (by decide);have dsum:dl (-bY+bx)<=K+1:=oz (by rw[gx];exact dby) dbx;have dm:=rU (-bY+bx) 2;generalize hmm:(-bY+bx).fdiv 2=m at*;have d2:dl (2:Int)<=1:=jB (by decide);have dm1:dl (-m-1)<=K+2:=jW (K:=K+1) (by rw[gx];omega) (bU jL (by omega));have hlt:lV (λj=>if j=w then(bx+bY-1).toNat else σ j) s.n<lV σ s.n:=IL hw (λj _ hj=>aY hj) (by
    show(if w=w then(bx+bY-1).toNat else σ w)<σ w;rw[bD rfl];omega)
  have hspn:∀(q:AQ) (g:List Int),(∀z∈(add (dc s q) ⟨s.aA.length,g⟩).aB,z.g≠g->z∈s.aB)->(∀z∈(add (dc s q) ⟨s.aA.length,g⟩).aB,z.g=g->(aH (s.aA++[q]) z.pos).b<=q.b)->
      ((g=x.g/\q.b+bY<=bx+bY-1)\/(g=cv x.g/\bx+q.b<=bx+bY-1))->uY (μ-1) (add (dc s q) ⟨s.aA.length,g⟩):=by
    intro q g ho hb hg;have hold:∀z∈s.aB,(aH (s.aA++[q]) z.pos).b=(aH s.aA z.pos).b:=λz hz=>by rw[iH (h.inv.it z hz).1]
    refine⟨λj=>if j=w then(bx+bY-1).toNat else σ j,λj=>?_,?_,λj hj x' hx2 y' hy2 hxu' hyu' hs=>?_⟩
    . dsimp only;split
      . omega
      . exact σ1 j
    . show lV _ s.n<=μ-1;omega
    . have hj:j<s.n:=hj;have hxu':mS s.n 1 x'.g j:=hxu';have hyu':mS s.n (-1) y'.g j:=hyu';have hs:(aH (s.aA++[q]) x'.pos).b+(aH (s.aA++[q]) y'.pos).b<=64:=hs;show(aH (s.aA++[q]) x'.pos).b+(aH (s.aA++[q]) y'.pos).b<=((if j=w then(bx+bY-1).toNat else σ j:Nat):Int);have hcases:∀z∈(add (dc s q) ⟨s.aA.length,g⟩).aB,z.g.length=s.n:=λz hz=>by
        by_cases e:z.g=g
        . rw[e];rcases hg with⟨e2,_⟩|⟨e2,_⟩
          . rw[e2];exact x2
          . rw[e2,jq];exact x2
        . exact(h.inv.it z (ho z hz e)).2
      by_cases e:j=w
      . subst e;rw[bD rfl];have ex:x'.g=x.g:=hxu'.inj hxu (hcases x' hx2) x2;have ey:y'.g=y.g:=hyu'.inj hyu (hcases y' hy2) y2;rcases hg with⟨e2,hq2⟩|⟨e2,hq2⟩
        . have b1:=hb x' hx2 (ex.trans e2.symm);have hyo:y'∈s.aB:=ho y' hy2 (by rw[ey,e2,hxy];exact λe3=>hxny e3.symm);have:y'=y:=xQ h.inv hyo hy' ey;rw[this,hold y hy',hby];omega
        . have b1:=hb y' hy2 (by rw[ey,e2,hxy]);have hxo:x'∈s.aB:=ho x' hx2 (by rw[ex,e2];exact hxny);have:x'=x:=xQ h.inv hxo hx' ex;rw[this,hold x hx',hbx];omega
      . rw[aY e];have nx:x'.g≠g:=λe3=>by
          rcases hg with⟨e2,_⟩|⟨e2,_⟩
          . exact e (hxu'.at (w:=w) (by rw[e3,e2];exact hxu) (by decide) hj)
          . have h4:=hxu' j hj;rw[bD rfl,e3,e2,jb,hxu j hj,aY e]at h4;omega
        have ny:y'.g≠g:=λe3=>by
          rcases hg with⟨e2,_⟩|⟨e2,_⟩
          . have h4:=hyu' j hj;rw[bD rfl,e3,e2,hxu j hj,aY e]at h4;omega
          . exact e (hyu'.at (w:=w) (by rw[e3,e2,<-hxy];exact hyu) (by decide) hj)
        have hxo:=ho x' hx2 nx;have hyo:=ho y' hy2 ny;rw[hold x' hxo,hold y' hyo]at hs⊢;exact σ3 j hj x' hxo y' hyo hxu' hyu' hs
  have hμ:0<μ:=by omega
  have hkl1:∀q:AQ,(s.aA++[q]).length=s.aA.length+1:=λq=>by simp
  have hq1:fW (K+2) ⟨(aH s.aA x.pos).c,m⟩:=⟨λv hv=>bU (hqx.1 v hv) (by omega),by show dl m<=_;omega⟩;have hS1:=Sg (b:=m) h hx';obtain⟨g1,g2,g3⟩:=Fc h hS1 hq1 hcl (by omega) (h.co x hx');have hl1:(add (dc s ⟨(aH s.aA x.pos).c,m⟩) ⟨s.aA.length,x.g⟩).aB.length<=iB f:=by
    show(eL _ _ s.aB).length<=_;rw[AO (x:=⟨s.aA.length,x.g⟩) ⟨x,hx',rfl⟩];exact hil
  have hrun1:=hR (μ-1) (by omega) _ _ _ g1 (hspn _ _ g2 g3 (.inl ⟨rfl,by show m+bY<=_;omega⟩)) hl1 (by show(s.aA++[_]).length+_+_<=_;rw[hkl1];omega) (by omega);have hq2:fW (K+2) ⟨cv (aH s.aA x.pos).c,-m-1⟩:=⟨Bn λv hv=>bU (hqx.1 v hv) (by omega),dm1⟩;have hS2:=KF (b:=-m-1) h hx';have hco2:∀j,j<s.n->(vf (cv x.g) j).natAbs<=cB f:=λj hj=>by rw[jb,wT];exact h.co x hx' j hj
  have hcl2:(cv (aH s.aA x.pos).c).length=s.n:=(jq _).trans hcl;obtain⟨k1,k2,k3⟩:=Fc h hS2 hq2 hcl2 (by omega) hco2;have hl2:(add (dc s ⟨cv (aH s.aA x.pos).c,-m-1⟩) ⟨s.aA.length,cv x.g⟩).aB.length<=iB f:=by
    show(eL _ _ s.aB).length<=_;rw[AO (x:=⟨s.aA.length,cv x.g⟩) ⟨y,hy',hxy⟩];exact hil
  have hrun2:=hR (μ-1) (by omega) _ _ _ k1 (hspn _ _ k2 k3 (.inr ⟨rfl,by show bx+(-m-1)<=_;omega⟩)) hl2 (by show(s.aA++[_]).length+_+_<=_;rw[hkl1];omega) (by omega);unfold zg;dsimp only;refine aV (mf (by rw[gx];omega) (by omega)) (aV (iO (by decide) (by decide)) (Tm.bind (pP (by omega) (by omega)) ?_));rintro⟨q3,q4,q5⟩ hq3;dsimp only at hq3⊢;rw[hmm]at hq3;subst hq3;refine aL (nJ x1) ?_;have eC:(aH s.aA x.pos).to.bE=mB (aH s.aA x.pos).c:=rfl;rw[eC];refine Qd (q:=⟨(aH s.aA x.pos).c,m⟩) (K:=K+2) (g:=x.g) hcp (vG h hcl hq1 (by omega)) (by omega) (by omega) (by omega) (F9 (f:=f) hS1 (h.co x hx')) (R:=λN r5 r6=>(R N (aS.mk r5.n r6.aA r6.aU r6.u r6.aN r6.value r6.aB r6.aK)).bind λr7=>_) ?_;rw[jc (n:=(dc s ⟨(aH s.aA x.pos).c,m⟩).to.n) (x:=(add (dc s ⟨(aH s.aA x.pos).c,m⟩) ⟨s.aA.length,x.g⟩).to) rfl];refine Tm.bind hrun1 λr7 hr7=>bA (λhk=>aI (hr7.up hk)) (λhk=>?_);obtain⟨p1,hp1,rfl⟩:=hr7.ref hk;refine aV (tU (K:=K) (by omega) (by omega) hqx.1) (aV (ou (by omega)) (aV (iO (by decide) (by decide)) (aV (ld (by rw[gx];omega) (bU jL (by omega))) ?_)));rw[show(vec (aH s.aA x.pos).c.length λj=>-vf (aH s.aA x.pos).c j)=cv (aH s.aA x.pos).c from rfl];refine aV (uV (q:=⟨cv (aH s.aA x.pos).c,-m-1⟩) hcp) ?_;refine aV (tU (l:=x.g) (K:=8) (by omega) (by omega) (λv hv=>bU (w7 x2 (h.co x hx') (by omega) v hv) (by decide))) ?_;rw[show(vec x.g.length λj=>-vf x.g j)=cv x.g from rfl];have e:bB.mk (iw ((List.length (dc s ⟨cv (aH s.aA x.pos).c,-m-1⟩).to.aA:Int)-1)) (mB (cv x.g))=AI.to ⟨s.aA.length,cv x.g⟩:=by
    show bB.mk (iw ((((s.aA++[_]).map AQ.to).length:Int)-1)) (mB _)=bB.mk (s.aA.length:Int) (mB _);congr 1;rw[cT,di,jN,bL]<;>omega
  rw[e];refine aV (vj (K:=K+2) ((vG h hcl2 hq2 (by omega)).nM (bO _) (by omega) (by show(s.aA++[_]).length<=_;rw[hkl1];omega) (by show s.aB.length<=_;omega)) (F9 (f:=f) hS2 hco2)) ?_;rw[jc (n:=(dc s ⟨cv (aH s.aA x.pos).c,-m-1⟩).to.n) (x:=(add (dc s ⟨cv (aH s.aA x.pos).c,-m-1⟩) ⟨s.aA.length,cv x.g⟩).to) rfl];refine Tm.bind hrun2 λr8 hr8=>bA (λhk=>aI (hr8.up hk)) (λhk=>?_);obtain⟨p2,hp2,rfl⟩:=hr8.ref hk;unfold rA;exact aV (aI rfl) (aI (.gG (.node s.aU (aH s.aA x.pos).c m p1 p2) (.node h.jE hcl hp1 hp2)))
end
end Go.D
namespace Go.D
open Go Go.X
section
variable [cL] {sys base:List AQ} {f K:Nat} {s:St}
def Opp(s:St)(x:AI)(d:Int):Prop:=∃y∈s.aB,y.g=cv x.g/\(aH s.aA x.pos).b+(aH s.aA y.pos).b<=d
def nH(sys:List AQ)(f:Nat)(R:Nat->aS->Option cz):Prop:=∀(base:List AQ) (K:Nat) (s:St) (x:AI),Good sys base (f+1) K s->x∈s.aB->Opp s x 0->s.aB.length<=iB (f+1)+1->s.aA.length+iB (f+1)+280+lB f<=1073741824->K+560+dB f<=cL.k->Tm (λN=>R N s.to) (fX sys base s.n s.aK)
theorem nH.shift{R:Nat->aS->Option cz}(h:nH sys f R):nH sys f λN=>R (N+1):=λbase K s x h1 h2 h3 h4 h5 h6=>Tm.shift (f:=λN=>R N s.to) (h base K s x h1 h2 h3 h4 h5 h6)
theorem JF{q:AQ}{g:List Int}(h:s.aA.length+1<=1073741824):bB.mk (iw ((List.length (dc s q).to.aA:Int)-1)) (mB g)=AI.to ⟨s.aA.length,g⟩:=by
 show bB.mk (iw ((((s.aA++[q]).map AQ.to).length:Int)-1)) (mB g)=bB.mk (s.aA.length:Int) (mB g);congr 1;rw[cT,di,jN,bL]<;>omega
theorem If{q:AQ}(h:s.aA.length+1<=1073741824):iw ((List.length (dc s q).to.aA:Int)-1)=(s.aA.length:Int):=by
 show iw ((((s.aA++[q]).map AQ.to).length:Int)-1)=_;rw[cT,di,jN,bL]<;>omega
theorem HQ(hI:Inv s){x:AI}(hx:x∈s.aB):x.g≠cv x.g:=λe=>by
 obtain⟨w,hw,h1,_⟩:=xc hI hx;have:=dz (λl=>vf l w) e;simp only[jb]at this;omega
theorem Ka{x:AI}{b:Int}{K':Nat}(h:Good sys base f K s)(hx:x∈s.aB)(hb:dl b<=K')(hK:K<=K'):
 Good sys (s.aA++[⟨cv (aH s.aA x.pos).c,b⟩]) f K' (add (dc s ⟨cv (aH s.aA x.pos).c,b⟩) ⟨s.aA.length,cv x.g⟩)/\
 x∈(add (dc s ⟨cv (aH s.aA x.pos).c,b⟩) ⟨s.aA.length,cv x.g⟩).aB/\
 Opp (add (dc s ⟨cv (aH s.aA x.pos).c,b⟩) ⟨s.aA.length,cv x.g⟩) x ((aH s.aA x.pos).b+b)/\
 p8 (dc s ⟨cv (aH s.aA x.pos).c,b⟩) ⟨s.aA.length,cv x.g⟩:=by
 obtain⟨x1,x2⟩:=h.inv.it x hx;have hqx:=h.q _ (fg x1);have hcl:(cv (aH s.aA x.pos).c).length=s.n:=(jq _).trans (h.inv.kl _ (fg x1));have hq:fW K' ⟨cv (aH s.aA x.pos).c,b⟩:=⟨Bn λv hv=>bU (hqx.1 v hv) hK,hb⟩;have hS:=KF (b:=b) h hx;have hco:∀j,j<s.n->(vf (cv x.g) j).natAbs<=cB f:=λj hj=>by rw[jb,wT];exact h.co x hx j hj
 obtain⟨g1,g2,g3⟩:=Fc h hS hq hcl hK hco;refine⟨g1,LB (show x∈(dc s _).aB from hx) (HQ h.inv hx),?_,F9 (f:=f) hS hco⟩;obtain⟨y,hy,y1,y2⟩:=FJ (kn:=s.aA++[⟨cv (aH s.aA x.pos).c,b⟩]) (x:=⟨s.aA.length,cv x.g⟩) (l:=s.aB);refine⟨y,hy,y1,?_⟩;have:=g3 y hy y1;show(aH (s.aA++[_]) x.pos).b+_<=_;rw[iH x1];have h2:(aH (s.aA++[⟨cv (aH s.aA x.pos).c,b⟩]) y.pos).b<=b:=this;show(aH s.aA x.pos).b+(aH (s.aA++[⟨cv (aH s.aA x.pos).c,b⟩]) y.pos).b<=_;omega
theorem TC{p p':Nat}{z:AI}(hz:z∈s.aB)(h:z.pos≠p):z∈(nz s p p').aB:=Af.2 ⟨z,hz,aY h⟩
theorem Mt{x:AI}{b:Int}{K':Nat}(h:Good sys base f K s)(hx:x∈s.aB)(hb:dl b<=K')(hK:K<=K')(hle:b<=(aH s.aA x.pos).b):
 Good sys (s.aA++[⟨(aH s.aA x.pos).c,b⟩]) f K' (nz (dc s ⟨(aH s.aA x.pos).c,b⟩) x.pos s.aA.length)/\
 (⟨s.aA.length,x.g⟩:AI)∈(nz (dc s ⟨(aH s.aA x.pos).c,b⟩) x.pos s.aA.length).aB/\
 (∀z∈s.aB,z.g≠x.g->z∈(nz (dc s ⟨(aH s.aA x.pos).c,b⟩) x.pos s.aA.length).aB):=by
 obtain⟨x1,x2⟩:=h.inv.it x hx;have hqx:=h.q _ (fg x1);have hcl:(aH s.aA x.pos).c.length=s.n:=h.inv.kl _ (fg x1);have hq:fW K' ⟨(aH s.aA x.pos).c,b⟩:=⟨λv hv=>bU (hqx.1 v hv) hK,hb⟩;have hA:=vG (q:=⟨(aH s.aA x.pos).c,b⟩) h hcl hq hK;have e1:aH (dc s ⟨(aH s.aA x.pos).c,b⟩).aA s.aA.length=⟨(aH s.aA x.pos).c,b⟩:=oA;have e2:aH (dc s ⟨(aH s.aA x.pos).c,b⟩).aA x.pos=aH s.aA x.pos:=iH x1;refine⟨PR hA (by show _<(s.aA++[_]).length;simp) (by rw[e1,e2]) (by rw[e1,e2];exact hle),Af.2 ⟨x,hx,bD rfl⟩,λz hz hne=>TC (s:=dc s _) hz λe=>hne ?_⟩;rw[Mb h.inv hz hx e]
theorem IU{p p':Nat}:(nz s p p').aB.length=s.aB.length:=cT ..
theorem R2(hf:f+1<=4):∀(d:Nat) (base:List AQ) (K:Nat) (s:St) (x:AI) (kk:Int) (R:Nat->aS->Option cz),nH sys f R->Good sys base (f+1) K s->x∈s.aB->Opp s x d->s.aB.length<=iB (f+1)+1->
 s.aA.length+d+iB (f+1)+282+lB f<=1073741824->K+562+dB f<=cL.k->(∃b0,(aH s.aA x.pos).b=b0-kk/\dl b0+2<=K)->0<=kk->kk+d<=4294967295->Tm (λN=>qF N (R N) s.to x.to (B kk) (B (kk+d))) (fX sys base s.n s.aK):=by
 have hL:dh=1099511627776:=rfl;have hKM:=cL.h;have hC:=mw (f+1);have hmB:=ot (f+1);intro d
 induction d with
 |zero=>
  intro base K s x kk R hR h hx' ho hil hkl hK hb0 hk0 hk1;refine Tm.succ ?_;show Tm (λN=>sE N (R (N+1)) (qF N (R (N+1))) s.to x.to (B kk) (B (kk+(0:Nat)))) _;unfold sE;have dk:dl kk<=1:=jB (by omega);rw[show kk+((0:Nat):Int)=kk by omega];refine aV (ko (by omega) (by omega)) (cR (by unfold bT;rw[aY (by omega),aY (by omega)]) (aV (Bi (h.inv.cp h.n (by omega) (by omega))) ?_));exact Tm.bind (hR.shift base K s x h hx' (by simpa using ho) hil (by omega) (by omega)) λr hr=>aI hr
 |succ d ih=>
  intro base K s x kk R hR h hx' ho hil hkl hK hb0 hk0 hk1;obtain⟨y,hy,hyg,hys⟩:=ho;obtain⟨x1,x2⟩:=h.inv.it x hx';have hqx:=h.q _ (fg x1);have hcl:(aH s.aA x.pos).c.length=s.n:=h.inv.kl _ (fg x1);have dbx:=hqx.2;have dk:dl kk<=1:=jB (by omega);have dk2:dl (kk+((d+1:Nat):Int))<=1:=jB (by omega);have d1:=jL;have hcp:pE s:=h.inv.cp h.n (by omega) (by omega);have hn:=h.n;obtain⟨n1,n2,n3,n4⟩:=Ka (b:=-(aH s.aA x.pos).b) (K':=K) h hx' (by rw[gx];exact dbx) (bO _);have nl:(add (dc s ⟨cv (aH s.aA x.pos).c,-(aH s.aA x.pos).b⟩) ⟨s.aA.length,cv x.g⟩).aB.length<=iB (f+1)+1:=by
   show(eL _ _ s.aB).length<=_;rw[AO (x:=⟨s.aA.length,cv x.g⟩) ⟨y,hy,hyg⟩];exact hil
  obtain⟨b0,hb1,hb2⟩:=hb0;have dnew:dl ((aH s.aA x.pos).b-1)<=K:=by
   rw[hb1,show b0-kk-1=b0-(kk+1) by omega];exact bU (jW (K:=dl b0+1) (by omega) (bU (jB (by omega)) (by omega))) (by omega)
  obtain⟨f1,f2,f3⟩:=Mt (b:=(aH s.aA x.pos).b-1) (K':=K) h hx' dnew (bO _) (by omega);have hyx:y.g≠x.g:=λe=>HQ h.inv hx' (by rw[<-hyg,e]);have hkl1:∀q:AQ,(s.aA++[q]).length=s.aA.length+1:=λq=>by simp
  refine Tm.succ ?_;show Tm (λN=>sE N (R (N+1)) (qF N (R (N+1))) s.to x.to (B kk) (B (kk+(d+1:Nat)))) _;unfold sE;refine aV (ko (by omega) (by omega)) (cD (by unfold bT;(repeat' split)<;>omega) ?_);refine aL (nJ x1) ?_;rw[show(aH s.aA x.pos).to.bE=mB (aH s.aA x.pos).c from rfl];refine aV (tU (K:=K) (by omega) (by omega) hqx.1) (aV (ou (by omega)) ?_);rw[show(vec (aH s.aA x.pos).c.length λj=>-vf (aH s.aA x.pos).c j)=cv (aH s.aA x.pos).c from rfl];refine aV (uV (q:=⟨cv (aH s.aA x.pos).c,-(aH s.aA x.pos).b⟩) hcp) ?_;refine aV (tU (l:=x.g) (K:=8) (by omega) (by omega) (λv hv=>bU (w7 x2 (h.co x hx') (by omega) v hv) (by decide))) ?_;rw[show(vec x.g.length λj=>-vf x.g j)=cv x.g from rfl];rw[JF (by omega)];have hqn:fW K ⟨cv (aH s.aA x.pos).c,-(aH s.aA x.pos).b⟩:=⟨Bn hqx.1,by show dl _<=_;rw[gx];exact dbx⟩;refine aV (vj (K:=K) ((vG h ((jq _).trans hcl) hqn (bO _)).nM (bO _) (by omega) (by show(s.aA++[_]).length<=_;rw[hkl1];omega) (by show s.aB.length<=_;omega)) n4) ?_;rw[jc (n:=(dc s ⟨cv (aH s.aA x.pos).c,-(aH s.aA x.pos).b⟩).to.n) (x:=(add (dc s ⟨cv (aH s.aA x.pos).c,-(aH s.aA x.pos).b⟩) ⟨s.aA.length,cv x.g⟩).to) rfl];refine Tm.bind (hR.shift _ K _ x n1 n2 (by rw[show(aH s.aA x.pos).b+-(aH s.aA x.pos).b=0 by omega]at n3;exact n3) nl (by show(s.aA++[_]).length+_+_+_<=_;rw[hkl1];omega) (by omega)) λr7 hr7=>bA (λhk=>aI (hr7.up hk)) (λhk=>?_);obtain⟨p1,hp1,rfl⟩:=hr7.ref hk;refine aV (iO (by decide) (by decide)) (aV (ld (a:=(aH s.aA x.pos).b) (by omega) (by omega)) ?_);refine aV (uV (q:=⟨(aH s.aA x.pos).c,(aH s.aA x.pos).b-1⟩) hcp) ?_;rw[If (by omega)];refine aV (H8 (l:=s.aB) (p:=x.pos) (p':=s.aA.length) (by omega)) ?_;refine aV (iO (by decide) (by decide)) (aV (mf (by omega) (by omega)) ?_);have hrun:=ih _ K _ ⟨s.aA.length,x.g⟩ (kk+1) _ hR.shift f1 f2 ⟨y,f3 y hy hyx,hyg,by
   show(aH (s.aA++[_]) s.aA.length).b+(aH (s.aA++[_]) y.pos).b<=_;rw[oA,iH (h.inv.it y hy).1];dsimp only;omega⟩ (by rw[IU];exact hil) (by show(s.aA++[_]).length+_+_+_+_<=_;rw[hkl1];omega) (by omega) ⟨b0,by
   show(aH (s.aA++[_]) s.aA.length).b=_;rw[oA];dsimp only;omega,hb2⟩ (by omega) (by omega)
  rw[show kk+1+(d:Int)=kk+((d+1:Nat):Int) by omega]at hrun;refine Tm.bind (show Tm (λN=>qF N (R (N+1)) (aS.mk (dc s ⟨(aH s.aA x.pos).c,(aH s.aA x.pos).b-1⟩).to.n (dc s ⟨(aH s.aA x.pos).c,(aH s.aA x.pos).b-1⟩).to.aA (dc s ⟨(aH s.aA x.pos).c,(aH s.aA x.pos).b-1⟩).to.aU (dc s ⟨(aH s.aA x.pos).c,(aH s.aA x.pos).b-1⟩).to.u (dc s ⟨(aH s.aA x.pos).c,(aH s.aA x.pos).b-1⟩).to.aN (dc s ⟨(aH s.aA x.pos).c,(aH s.aA x.pos).b-1⟩).to.value (mI (sC s.aB x.pos s.aA.length)) (dc s ⟨(aH s.aA x.pos).c,(aH s.aA x.pos).b-1⟩).to.aK) _ _ _) _ from hrun) λr8 hr8=>bA (λhk=>aI (hr8.up hk)) (λhk=>?_);obtain⟨p2,hp2,rfl⟩:=hr8.ref hk;unfold rA;refine aV (aI rfl) (aI (.gG (.node s.aU (cv (aH s.aA x.pos).c) (-(aH s.aA x.pos).b) p1 p2) (.node h.jE ((jq _).trans hcl) hp1 ?_)));rw[DC,show- -(aH s.aA x.pos).b-1=(aH s.aA x.pos).b-1 by omega];exact hp2
end
end Go.D
namespace Go.D
open Go Go.X
section
variable [cL] {sys base:List AQ} {f K:Nat} {s s0:St} {v:Nat}
structure SI (sys base:List AQ)(f K:Nat)(s0:St)(v:Nat)(l:List AI)(s:St):Prop where
 gi:Good sys base (f+1) K s
 kept:Kept s0 s
 cr:cM v s.aB=cM v s0.aB
 z:∀x∈s0.aB,vf x.g v=0->x∈s.aB
 il:s.aB.length<=iB (f+1)
 lm:∀w∈l,w∈s.aB/\w∈s0.aB/\vf w.g v<0
 nd:l.Pairwise λa b=>a.g≠b.g
 low:∀w∈dL v s0.aB,w∈l\/∃w'∈dL v s.aB,w'.g=w.g/\(aH s.aA w'.pos).b+max (ic v w (cM v s0.aB)+1) 0<=(aH s0.aA w.pos).b
theorem RP{cr:List AI}{a b:AI}(h:a.g=b.g):ic v a cr=ic v b cr:=by unfold ic;rw[h]
theorem Bm(h:Kept s0 s){p:Nat}(hp:p<s0.aA.length):aH s.aA p=aH s0.aA p:=by
 obtain⟨e,he⟩:=h.kn;rw[he,iH hp]
theorem SI.skip{e:AI}{l:List AI}(h:SI sys base f K s0 v (e::l) s)(hI0:Inv s0)(hs:ic v e (cM v s0.aB)<0):SI sys base f K s0 v l s where
 gi:=h.gi
 kept:=h.kept
 cr:=h.cr
 z:=h.z
 il:=h.il
 lm w hw:=h.lm w (cO _ hw)
 nd:=(zx.1 h.nd).2
 low w hw:=by
  rcases h.low w hw with h1|h1
  . rcases ej.1 h1 with rfl|h1
    . obtain⟨a,b,c⟩:=h.lm w cX;refine .inr ⟨w,iF.2 ⟨a,c⟩,rfl,?_⟩;rw[Bm h.kept (hI0.it w b).1,Ok (by omega)];omega
    . exact .inl h1
  . exact .inr h1
theorem SI.far{e:AI}{l:List AI}{k:Int}(h:SI sys base f K s0 v (e::l) s)(hI0:Inv s0)(hs:ic v e (cM v s0.aB)=k)(hk:0<=k)(hk':k<4294967296):
 SI sys (s.aA++[⟨(aH s.aA e.pos).c,(aH s.aA e.pos).b-k-1⟩]) f (K+3) s0 v l (nz (dc s ⟨(aH s.aA e.pos).c,(aH s.aA e.pos).b-k-1⟩) e.pos s.aA.length):=by
 obtain⟨em,em0,ev⟩:=h.lm e cX;obtain⟨e1,e2⟩:=h.gi.inv.it e em;have hd:=(h.gi.q _ (fg e1)).2;have d1:dl ((aH s.aA e.pos).b-k)<=K+2:=jW (K:=K+1) (by omega) (bU (jB (by omega)) (by omega));have d2:dl ((aH s.aA e.pos).b-k-1)<=K+3:=jW (K:=K+2) d1 (bU jL (by omega));obtain⟨g1,g2,g3⟩:=Mt (b:=(aH s.aA e.pos).b-k-1) (K':=K+3) h.gi em d2 (by omega) (by omega);have hk2:Kept s (nz (dc s ⟨(aH s.aA e.pos).c,(aH s.aA e.pos).b-k-1⟩) e.pos s.aA.length):=(Kf s _).trans (Lc _ _ _);have hun:∀x∈s.aB,x.pos=e.pos->x=e:=λx hx he=>Mb h.gi.inv hx em he;refine⟨g1,h.kept.trans hk2,?_,λx hx hx0=>g3 x (h.z x hx hx0) λhe=>?_,by rw[IU];exact h.il,λw hw=>?_,(zx.1 h.nd).2,λw hw=>?_⟩
 . rw[<-h.cr];show(List.map _ s.aB).filter _=s.aB.filter _;rw[List.filter_map];have e3:(s.aB.filter ((λx:AI=>decide (0<vf x.g v))∘λx=>if x.pos=e.pos then({x with pos:=s.aA.length}:AI)else x))=cM v s.aB:=by
    unfold cM;refine List.filter_congr λx _=>?_;show decide (0<vf (if x.pos=e.pos then({x with pos:=s.aA.length}:AI)else x).g v)=_;split<;>rfl
   rw[e3];have e4:∀x∈cM v s.aB,(if x.pos=e.pos then({x with pos:=s.aA.length}:AI)else x)=id x:=λx hx=>aY λhe=>by
    obtain⟨x1,x2⟩:=kM.1 hx;rw[hun x x1 he]at x2;omega
   rw[De e4,List.map_id];rfl
 . rw[he]at hx0;omega
 . obtain⟨a,b,c⟩:=h.lm w (cO _ hw);exact⟨g3 w a λhe=>(zx.1 h.nd).1 w hw he.symm,b,c⟩
 . by_cases hwe:w.g=e.g
   . obtain rfl:w=e:=xQ hI0 (iF.1 hw).1 em0 hwe;refine .inr ⟨⟨s.aA.length,w.g⟩,iF.2 ⟨g2,ev⟩,rfl,?_⟩;show(aH (s.aA++[_]) s.aA.length).b+_<=_;rw[oA,hs,Int.max_eq_left (by omega)];dsimp only;rw[Bm h.kept (hI0.it w em0).1];omega
   . rcases h.low w hw with h1|⟨w',hw',e3,e4⟩
     . rcases ej.1 h1 with rfl|h1
       . exact bV rfl hwe
       . exact .inl h1
     . obtain⟨m1,m2⟩:=iF.1 hw';refine .inr ⟨w',iF.2 ⟨g3 w' m1 (by rw[e3];exact hwe),m2⟩,e3,?_⟩;show(aH (s.aA++[_]) w'.pos).b+_<=_;rw[iH (h.gi.inv.it w' m1).1];exact e4
theorem SI.last(hf:f+1<=4)(h:SI sys base f K s0 v [] s)(hI0:Inv s0)(hr0:RF sys s0)(hv:v<s.n)(hst:vf s.aN v=0)(hup:cM v s0.aB≠[])(hkl:s.aA.length+(iB (f+1)+1)*(iB (f+1)+1)/4<=1073741824)(hK:K+6<=cL.k)(hil0:s0.aB.length<=1073741824):
 Nxt sys base f (K+6) (s.aA.length+(iB (f+1)+1)*(iB (f+1)+1)/4) s.n (s.aK++[⟨v,fI s0 v,false⟩]) ((cw (fN s v false (fI s0 v)) (dt s v)).1,(cw (fN s v false (fI s0 v)) (dt s v)).2.to):=by
 have hn0:s.n=s0.n:=h.kept.n;have hats0:=Kd hI0 (v:=v) (by rw[<-hn0];exact hv);obtain⟨ke,hke⟩:=h.kept.kn;have hux:∀y i,ux s y i=ux s0 y i:=λy i=>by unfold ux;rw[h.kept.u,h.kept.n]
 have hxs:∀y p,p<s0.aA.length->(hx s (ux s y) p↔hx s0 (ux s0 y) p):=λy p hp=>so hn0 hke hp λi _=>hux y i;have hih:∀y (x:AI),x.pos<s0.aA.length->(IH s y x↔IH s0 y x):=λy x hp=>zh hn0 hke hp;refine H5 hf h.gi hI0 hr0 h.kept hv hst (λp hp=>?_) (bU K8 hil0) (λy h1 h2 x hx'=>?_) (λ_ y hp=>?_) (bO _) (by have:=h.il;omega) hkl hK
 . obtain⟨a,b,c⟩:=hats0 p hp;refine⟨by rw[hke,di];omega,λj hj hs=>?_,?_⟩
   . rw[h.kept.u,hn0,Bm h.kept a];exact b j (by rw[<-hn0];exact hj) (by rw[<-h.kept.aN];exact hs)
   . rw[h.kept.u,hn0,Bm h.kept a];exact c
 . by_cases h0:vf x.g v=0
   . exact(hih y x (hI0.it x hx').1).1 (h1 x (h.z x hx' h0) h0)
   . refine(uP hI0 hx').2 ((hxs y _ (hI0.it x hx').1).1 (h2 _ (dR.2 ⟨x,fe.2 ?_,rfl⟩)));rcases rS h0 with g|g
     . exact .inr (iF.2 ⟨hx',g⟩)
     . exact .inl (kM.2 ⟨hx',g⟩)
 . obtain⟨z,z1,z2⟩:=Lx (y:=y) hv (λw=>(aH s.aA w.pos).b+max (ic v w (cM v s0.aB)+1) 0) (λx hx' w hw=>by
    have h0:=hp x hx' w hw;have hne:cM v s.aB≠[]:=HI hx';have h3:=Nn (kM.1 hx').2 (Km x hx') (show 0< -vf w.g v by have:=(iF.1 hw).2;omega) (Ie (low:=w) (Fl hne));rw[h.cr]at h3;rw[wM];omega)
   refine⟨z,λp hp'=>?_⟩;obtain⟨x,hx',rfl⟩:=dR.1 hp';rcases fe.1 hx' with hx'|hx'
   . rw[<-h.cr]at hx';exact(uP h.gi.inv (kM.1 hx').1).1 (z1 x hx')
   . obtain⟨m1,m2⟩:=iF.1 hx';rcases h.low x hx' with h1|⟨w',hw',e3,e4⟩
     . cases h1
     . have h5:=z2 w' hw';rw[RP e3,e3]at h5;refine(hxs _ _ (hI0.it x m1).1).2 ((uP hI0 m1).1 ((DB (by rw[<-hn0];exact hv)).2 ?_));rw[<-hn0];omega
theorem Oo{low:AI}{cr:List AI}(h:0<eI v cr)(hb:vf low.g v<0):ic v low cr≤-vf low.g v:=by
 have h1:=mb (a:=eI v cr*-vf low.g v-eI v cr- -vf low.g v) h;unfold ic;generalize(eI v cr*-vf low.g v-eI v cr- -vf low.g v).fdiv (eI v cr)=q at*;refine HH (a:=eI v cr) ?_ h;rw[fD (eI v cr) q];omega
def l7(s:St)(t:List AE):St:={s with aK:=t}
theorem QT(s:St)(g:List Int)(us:List AU)(t:List AE):dst (l7 s t) g us=l7 (dst s g us) t:=by
 unfold dst;split<;>rfl
theorem OM(s:St)(g:List Int)(us:List AU)(t:List AE):put (l7 s t) g us=((put s g us).1,l7 (put s g us).2 t):=by
 unfold put ng;rw[QT];dsimp only;split<;>rfl
theorem EG(t:List AE):∀(L:List Act) (s:St),cw (l7 s t) L=((cw s L).1,l7 (cw s L).2 t)
 |[],s=>rfl
 |.add x::r,s=>EG t r (add s x)
 |.put g us::r,s=>by
  have e1:cw (l7 s t) (.put g us::r)=if(put (l7 s t) g us).1=true then cw (put (l7 s t) g us).2 r else(false,(put (l7 s t) g us).2):=rfl;have e2:cw s (.put g us::r)=if(put s g us).1=true then cw (put s g us).2 r else(false,(put s g us).2):=rfl;rw[e1,e2,OM];dsimp only;split
  . exact EG t r _
  . rfl
theorem Rg(hf:f+1<=4)(hI0:Inv s0)(hr0:RF sys s0)(hv0:v<s0.n)(hst0:vf s0.aN v=0)(hup:cM v s0.aB≠[])(hil0:s0.aB.length<=iB (f+1)):
 ∀(m:Nat) (l:List AI) (base:List AQ) (K:Nat) (s:St) (R:Nat->aS->Option cz),l.length<=m->nH sys f R->mC sys f 260 R->SI sys base f K s0 v l s->
  s.aA.length+m+cB (f+1)+(iB (f+1)+1)+(iB (f+1)+1)*(iB (f+1)+1)/4+283+lB f<=1073741824->K+3*m+570+dB f<=cL.k->
  Tm (λN=>nK N (R N) s.to (v:Int) (mI l) ((fI s0 v).map Int.ofNat)) (fX sys base s.n s.aK):=by
 have hL:dh=1099511627776:=rfl;have hKM:=cL.h;have hC:=mw (f+1);have hmB:=ot (f+1);intro m
 induction m with
 |zero=>
  intro l base K s R hl hE hP h hkl hK;obtain rfl:=mU.1 (Nat.le_zero.1 hl);have hn:=h.gi.n;have hn0:s.n=s0.n:=h.kept.n;have hil:=h.il;have hv:v<s.n:=by rw[hn0];exact hv0
  have hst:vf s.aN v=0:=by rw[h.kept.aN];exact hst0
  have hcp:pE s:=h.gi.inv.cp hn (by omega) (by omega);have hlast:=h.last hf hI0 hr0 hv hst hup (by omega) (by omega) (by omega);refine Tm.succ ?_;show Tm (λN=>pD N (R (N+1)) (nK N (R (N+1))) s.to (v:Int) (mI []) ((fI s0 v).map Int.ofNat)) _;unfold pD;refine aV (yW (h.gi.Bb (by omega)) hv) ?_;refine aV (a:=[]) (Tm.loop (λt=>t=[]) (λ_=>0) rfl ?_) ?_
  . rintro _ rfl;dsimp only[wa];refine aV (a:=false) (cD (by simp) (aI rfl)) (cD (by simp) (aI rfl))
  refine cR (by simp) (aV (Bi hcp) (aV (Nj (m:=iB (f+1)+1) (t:=false) h.gi hv (bO _) (by omega) (by omega) (by omega)) ?_));have hsk:(cw (eV s v false) (dt s v)).2.aK=s.aK++[⟨v,fI s v,false⟩]:=(AR (dt s v) (eV s v false)).ed;have est:∀x:AE,(cw (eV s v false) (dt s v)).2.to.aK=s.aK.map AE.to++[(⟨v,fI s v,false⟩:AE).to]:=λ_=>by
   show List.map AE.to (cw (eV s v false) (dt s v)).2.aK=_;rw[hsk,jP];rfl
  have est:=est ⟨0,[],false⟩;have hsl:=EC h.gi.inv;dsimp only;rw[est];have hpos:iw (((s.aK.map AE.to++[(⟨v,fI s v,false⟩:AE).to]).length:Int)-1)=((s.aK.map AE.to).length:Int):=by
   rw[di,jN,cT,bL]<;>omega
  rw[hpos];refine aL (a:=(⟨v,fI s v,false⟩:AE).to) (by rw[dA (by simp)];simp) ?_;refine aL (eE (n:=(s.aK.map AE.to).length) rfl (by simp)) ?_;have eset:(s.aK.map AE.to++[(⟨v,fI s v,false⟩:AE).to]).set (s.aK.map AE.to).length (dW.mk (⟨v,fI s v,false⟩:AE).to.v ((fI s0 v).map Int.ofNat) (⟨v,fI s v,false⟩:AE).to.dP)=(s.aK++[(⟨v,fI s0 v,false⟩:AE)]).map AE.to:=by
   rw[List.set_append_right _ _ (bO _),wI,jP];rfl
  rw[eset];have ek:cw (fN s v false (fI s0 v)) (dt s v)=((cw (eV s v false) (dt s v)).1,l7 (cw (eV s v false) (dt s v)).2 (s.aK++[⟨v,fI s0 v,false⟩])):=EG _ (dt s v) (eV s v false);rw[ek]at hlast;dsimp only at hlast;have esS:aS.mk s.to.n (cw (eV s v false) (dt s v)).2.to.aA (cw (eV s v false) (dt s v)).2.to.aU (cw (eV s v false) (dt s v)).2.to.u (cw (eV s v false) (dt s v)).2.to.aN (cw (eV s v false) (dt s v)).2.to.value (cw (eV s v false) (dt s v)).2.to.aB ((s.aK++[(⟨v,fI s0 v,false⟩:AE)]).map AE.to)=(l7 (cw (eV s v false) (dt s v)).2 (s.aK++[⟨v,fI s0 v,false⟩])).to:=by
   have:(cw (eV s v false) (dt s v)).2.n=s.n:=(AR (dt s v) (eV s v false)).n;unfold l7 St.to;dsimp only;rw[this]
  rw[esS];obtain⟨s',hs',hn',hcase⟩:=hlast;dsimp only at hs' hcase;rw[hs'];rcases hcase with⟨hb,hg,hgi,hgl,hgs⟩|⟨hb,href⟩
  . refine cD (by rw[hb];simp) (Tm.bind (hP.shift base (K+6) s' hg (CT hg.n) hgi (by omega) (by omega)) λr hr=>aI ?_);rw[hn',hgs]at hr;cases hr with
    |solved x a b c=>exact .solved x a b c
    |gG p a=>exact .gG p a
    |failed e' a b=>
     rcases fe.1 a with a|a
     . exact .failed e' a b
     . rw[cG.1 a]at b;cases b
  . refine cR (by rw[hb];rfl) ?_;unfold jT;exact aV (aI rfl) (aI (.gG (.leaf s'.aU) href))
 |succ m ih=>
  intro l base K s R hl hE hP h hkl hK;have hn:=h.gi.n;have hn0:s.n=s0.n:=h.kept.n;have hil:=h.il;have hv:v<s.n:=by rw[hn0];exact hv0
  have hst:vf s.aN v=0:=by rw[h.kept.aN];exact hst0
  have hcp:pE s:=h.gi.inv.cp hn (by omega) (by omega);have hit:=h.gi.Bb (by omega);have hups:=qj (v:=v) hit;have hupn:cM v s.aB≠[]:=by rw[h.cr];exact hup
  have hItm:∀w∈s.aB,w.g.length=s.n/\dl (vf w.g v)<=8:=λw hw=>⟨(hit.2 w hw).1,hit.vf hw v⟩;by_cases h0:l=[]
  . subst h0;have:=ih [] base K s R (fV _) hE hP h (by omega) (by omega);exact this
  refine Tm.succ ?_;show Tm (λN=>pD N (R (N+1)) (nK N (R (N+1))) s.to (v:Int) (mI l) ((fI s0 v).map Int.ofNat)) _;unfold pD;refine aV (yW hit hv) ?_;dsimp only;refine Tm.bind (Q:=λr=>∃d:List AI,r=mI d/\d.length<=l.length/\SI sys base f K s0 v d s/\(d=[]\/∃e t,d=e::t/\0<=ic v e (cM v s0.aB)))
   (Tm.vU (λ(d:List AI) t=>t=mI d/\d.length<=l.length/\SI sys base f K s0 v d s) (λd=>d.length) l ⟨rfl,bO _,h⟩ ?_) ?_
  . rintro d _ ⟨rfl,hdl,hd⟩;dsimp only[wa];cases d with
    |nil=>exact aV (a:=false) (cD (by rw[fG];simp) (aI rfl)) (cD (by simp) (aI ⟨[],rfl,hdl,hd,.inl rfl⟩))
    |cons e t=>
     obtain⟨em,em0,ev⟩:=hd.lm e cX;have hsd:=yJ (low:=e) hups hupn (hItm e em).2;refine aV (a:=decide (ic v e (cM v s.aB)<0)) (cR (by rw[fG,cJ];omega) (aL (a:=e.to) rfl (aV (xO hups hupn (hItm e em).1 (hItm e em).2 hv) (aV (jK (by omega)) (aI (decide_eq_decide.2 oN)))))) ?_;refine bA (λhs=>?_) (λhs=>aI ⟨e::t,rfl,hdl,hd,.inr ⟨e,t,rfl,?_⟩⟩)
     . have hs:=iL hs;rw[h.cr]at hs;refine aL (a:=mI t) ?_ (aI ⟨t,⟨rfl,by rw[cJ]at hdl;omega,hd.skip hI0 hs⟩,by rw[cJ];omega⟩);rw[tR (i:=1) (j:=((mI (e::t)).length:Int)) (m:=1) (n:=(mI (e::t)).length) rfl rfl (by rw[fG,cJ];omega) (bO _),uf];rfl
     . have hs:¬ic v e (cM v s.aB)<0:=λe'=>hs (iM e');rw[h.cr]at hs;omega
  rintro _ ⟨d,rfl,hdl,hd,hcase⟩;rcases hcase with rfl|⟨e,t,rfl,hk0⟩
  . 
    have hlast:=ih [] base K s R (fV _) hE hP hd (by omega) (by omega);obtain⟨a,N0,ha,hN0⟩:=Tm.shift (f:=λN=>nK N (R N) s.to (v:Int) (mI []) ((fI s0 v).map Int.ofNat)) hlast;obtain⟨_,N1,rfl,hN1⟩:=yW hit hv;have hloop:∀N r1,0<N->bS (wa N (R (N+1)) (nK N (R (N+1))) (v:Int) r1) N (mI [])=some (mI []):=λN r1 hN=>by
     obtain⟨n,rfl⟩:∃n,N=n+1:=⟨N-1,by omega⟩;exact yp (by
      dsimp only[wa];rw[aY (by rw[fG];simp)];rfl)
    refine⟨a,max N0 N1+1,ha,λN hN=>?_⟩;have h2:=hN0 N (by omega);have h2:pD N (R (N+1)) (nK N (R (N+1))) s.to (v:Int) (mI []) ((fI s0 v).map Int.ofNat)=some a:=h2;unfold pD at h2;rw[show tH N s.to (v:Int)=some _ from hN1 N (by omega)]at h2;rw[G9,hloop N _ (by omega),G9]at h2;exact h2
  . obtain⟨em,em0,ev⟩:=hd.lm e cX;obtain⟨e1,e2⟩:=h.gi.inv.it e em;have hqe:=h.gi.q _ (fg e1);have hcl:(aH s.aA e.pos).c.length=s.n:=h.gi.inv.kl _ (fg e1);have hsd:=yJ (low:=e) hups hupn (hItm e em).2;have hsle:=Oo (low:=e) (Fl hupn) ev;rw[h.cr]at hsd hsle;have hco:=h.gi.co e em v hv;generalize hk:ic v e (cM v s0.aB)=k at*;have dk:dl k<=1:=jB (by omega);have dq:=hqe.2;have d1:=jL;have da:dl ((aH s.aA e.pos).b-k)<=K+2:=jW (K:=K+1) (by omega) (by omega);have dn:dl (k-(aH s.aA e.pos).b)<=K+2:=jW (K:=K+1) (by omega) (by omega);have hkl1:∀q:AQ,(s.aA++[q]).length=s.aA.length+1:=λq=>by simp
    rw[cJ]at hdl;refine cD (by rw[fG,cJ];omega) ?_;refine aL (a:=e.to) rfl (aL (a:=e.to) rfl (aV (xO hups hupn (hItm e em).1 (hItm e em).2 hv) (aL (nJ e1) ?_)));rw[h.cr,hk];rw[show(aH s.aA e.pos).to.bE=mB (aH s.aA e.pos).c from rfl];refine aV (tU (K:=K) (by omega) (by omega) hqe.1) ?_;rw[show(vec (aH s.aA e.pos).c.length λj=>-vf (aH s.aA e.pos).c j)=cv (aH s.aA e.pos).c from rfl];refine aV (ld (a:=(aH s.aA e.pos).b) (by omega) (by omega)) (aV (iO (by decide) (by decide)) (aV (ld (by omega) (by omega)) ?_));refine aV (uV (q:=⟨(aH s.aA e.pos).c,(aH s.aA e.pos).b-k-1⟩) hcp) ?_;rw[If (by omega)];refine aV (H8 (l:=s.aB) (p:=e.pos) (p':=s.aA.length) (by omega)) ?_;refine aL (a:=mI t) ?_ ?_
    . rw[tR (i:=1) (j:=((mI (e::t)).length:Int)) (m:=1) (n:=(mI (e::t)).length) rfl rfl (by rw[fG,cJ];omega) (bO _),uf];rfl
    have hfar:=hd.far hI0 hk hk0 (by omega);have hself:=ih t _ (K+3) _ _ (by omega) hE.shift hP.shift hfar (by show(s.aA++[_]).length+_+_+_+_+_+_<=_;rw[hkl1];omega) (by omega);refine Tm.bind (show Tm (λN=>nK N (R (N+1)) (aS.mk (dc s ⟨(aH s.aA e.pos).c,(aH s.aA e.pos).b-k-1⟩).to.n (dc s ⟨(aH s.aA e.pos).c,(aH s.aA e.pos).b-k-1⟩).to.aA (dc s ⟨(aH s.aA e.pos).c,(aH s.aA e.pos).b-k-1⟩).to.aU (dc s ⟨(aH s.aA e.pos).c,(aH s.aA e.pos).b-k-1⟩).to.u (dc s ⟨(aH s.aA e.pos).c,(aH s.aA e.pos).b-k-1⟩).to.aN (dc s ⟨(aH s.aA e.pos).c,(aH s.aA e.pos).b-k-1⟩).to.value (mI (sC s.aB e.pos s.aA.length)) (dc s ⟨(aH s.aA e.pos).c,(aH s.aA e.pos).b-k-1⟩).to.aK) (v:Int) (mI t) ((fI s0 v).map Int.ofNat)) _ from hself) λr1 hr1=>bA (λhk=>aI (hr1.up hk)) (λhkind=>?_);obtain⟨p2,hp2,rfl⟩:=hr1.ref hkind;obtain⟨n1,n2,n3,n4⟩:=Ka (b:=k-(aH s.aA e.pos).b) (K':=K+2) h.gi em dn (by omega);have nl:(add (dc s ⟨cv (aH s.aA e.pos).c,k-(aH s.aA e.pos).b⟩) ⟨s.aA.length,cv e.g⟩).aB.length<=iB (f+1)+1:=by
     have:=uS (kn:=(dc s ⟨cv (aH s.aA e.pos).c,k-(aH s.aA e.pos).b⟩).aA) (x:=⟨s.aA.length,cv e.g⟩) (l:=s.aB);show(eL _ _ s.aB).length<=_;omega
    refine aV (ld (b:=(aH s.aA e.pos).b) (by omega) (by omega)) (aV (uV (q:=⟨cv (aH s.aA e.pos).c,k-(aH s.aA e.pos).b⟩) hcp) ?_);refine aV (tU (l:=e.g) (K:=8) (by omega) (by omega) (hit.2 e em).2) ?_;rw[show(vec e.g.length λj=>-vf e.g j)=cv e.g from rfl];rw[JF (by omega)];have hqn:fW (K+2) ⟨cv (aH s.aA e.pos).c,k-(aH s.aA e.pos).b⟩:=⟨Bn λw hw=>bU (hqe.1 w hw) (by omega),dn⟩;refine aV (vj (K:=K+2) ((vG h.gi ((jq _).trans hcl) hqn (by omega)).nM (bO _) (by omega) (by show(s.aA++[_]).length<=_;rw[hkl1];omega) (by show s.aB.length<=_;omega)) n4) ?_;rw[jc (n:=(dc s ⟨cv (aH s.aA e.pos).c,k-(aH s.aA e.pos).b⟩).to.n) (x:=(add (dc s ⟨cv (aH s.aA e.pos).c,k-(aH s.aA e.pos).b⟩) ⟨s.aA.length,cv e.g⟩).to) rfl];have hch:=R2 hf k.toNat _ (K+2) _ e 0 (λN=>R (N+1)) hE.shift n1 n2 (by
     obtain⟨y,y1,y2,y3⟩:=n3;exact⟨y,y1,y2,by omega⟩) nl (by show(s.aA++[_]).length+_+_+_+_<=_;rw[hkl1];omega) (by omega) ⟨(aH s.aA e.pos).b,by
     show(aH (s.aA++[_]) e.pos).b=_;rw[iH e1];omega,by omega⟩ (lF _) (by omega)
    rw[show(0:Int)+(k.toNat:Int)=k by omega,B0]at hch;refine Tm.bind hch λr2 hr2=>bA (λhk=>aI (hr2.up hk)) (λhkind2=>?_);obtain⟨p1,hp1,rfl⟩:=hr2.ref hkind2;unfold rA;refine aV (aI rfl) (aI (.gG (.node s.aU (cv (aH s.aA e.pos).c) (k-(aH s.aA e.pos).b) p1 p2) (.node h.gi.jE ((jq _).trans hcl) hp1 ?_)));rw[DC,show-(k-(aH s.aA e.pos).b)-1=(aH s.aA e.pos).b-k-1 by omega];exact hp2
end
end Go.D
namespace Go.D
open Go Go.X
section
variable [cL] {sys base:List AQ} {f K μ:Nat} {s:St} {v:Nat}
def zB(s:St):Prop:=∀x∈s.aB,∀y∈s.aB,(∀k,k<s.n->vf y.g k=-vf x.g k)->0<(aH s.aA x.pos).b+(aH s.aA y.pos).b
theorem Rf(h:∀i j,i<s.aB.length->j<s.aB.length->(∀k,k<s.n->vf (bJ s j).g k=-vf (bJ s i).g k)->0<(aH s.aA (bJ s i).pos).b+(aH s.aA (bJ s j).pos).b):zB s:=by
 intro x hx y hy hg;obtain⟨i,hi,rfl⟩:=nU hx;obtain⟨j,hj,rfl⟩:=nU hy;have:=h i j hi hj;rw[mP hi,mP hj]at this;exact this hg
theorem fX.less{n:Nat}{ed stk':List AE}{r:cz}(h:fX sys base n stk' r)(hs:∀e∈stk',e.dP=true->e∈ed):fX sys base n ed r:=by
 cases h with
 |solved x a b c=>exact .solved x a b c
 |gG p a=>exact .gG p a
 |failed e a b=>exact .failed e (hs e a b) b
theorem Qa{R:Nat->aS->Option cz}(hf:f+1<=4)(hR:mC sys f 260 R)(hE:nH sys f R)(hH:∀μ',μ'<μ->mC sys (f+1) μ' R)(h:Good sys base (f+1) K s)(hσ:uY μ s)(hil:s.aB.length<=iB (f+1))(hkl:s.aA.length+μ+lB (f+1)<=1073741824)(hK:K+2*μ+dB (f+1)<=cL.k)
 (hv:v<s.n)(hst:vf s.aN v=0)(hex:¬tG s v)(hp:zB s):Tm (λN=>uX N (R N) s.to (v:Int)) (fX sys base s.n s.aK):=by
 have hL:dh=1099511627776:=rfl;have hKM:=cL.h;have hC:=mw (f+1);have hmB:=ot (f+1);have hn:=h.n;have hlN:=wU (f:=f) (m:=iB (f+1)+1) hf (bO _);have hdN:=xL (f:=f) (m:=iB (f+1)+1) hf (bO _);have hit:=h.Bb (by omega);have hup:cM v s.aB≠[]:=λe=>hex (.inl e);have hcp:pE s:=h.inv.cp hn (by omega) (by omega);unfold uX;refine Tm.bind (Su h.inv hit (by omega) h.q (by omega)) ?_;rintro⟨c,ok⟩ hc;dsimp only at hc⊢;refine Tm.bind (Q:=λr:Sum Unit cz=>r=.inl ()\/∃z,r=.inr z/\fX sys base s.n s.aK z) (bA (λh1=>?_) (λh1=>aI (.inl rfl))) ?_
 . obtain⟨x,hx',y,hy',w,hw,hxu,hyu,rfl⟩:=hc h1;have b1:=(h.q _ (fg (h.inv.it x hx').1)).2;have b2:=(h.q _ (fg (h.inv.it y hy').1)).2;have d1:=jW (a:=(aH s.aA x.pos).b) (b:=-(aH s.aA y.pos).b) b1 (by rw[gx];exact b2);have d64:dl (64:Int)<=1:=jB (by decide);have hpos:=hp x hx' y hy' λk hk=>by rw[hxu k hk,hyu k hk];split<;>rfl
   refine aV (ld (by omega) (by rw[gx];omega)) ?_;refine Tm.bind (Q:=λb=>b=true->(aH s.aA x.pos).b- -(aH s.aA y.pos).b<=64) (aV (iO (by decide) (by decide)) (aV (ko (by omega) (by omega)) (bA (λh2=>?_) (λh2=>aI λe=>(by cases e))))) ?_
   . refine Tm.bind (OY hit hv (.inl hup)) ?_;rintro _ ⟨tt,rfl,ht⟩;exact aV (ko (by omega) ht) (aI λ_=>xE.1 h2)
   . intro b hb;refine bA (λh2=>?_) (λh2=>aI (.inl rfl));have:=hb h2;exact Tm.bind (QV hf hH h hσ hil hkl hK hx' hy' hw hxu hyu hpos (by omega)) λr hr=>aI (.inr ⟨r,rfl,hr⟩)
 . rintro _ (rfl|⟨z,rfl,hz⟩)
   . dsimp only;refine aV (Bi hcp) (Tm.bind (KK (m:=iB (f+1)+1) (t:=true) hf h hv hst (λe=>by cases e) (bO _) (by omega) (by omega) (by omega)) ?_);rintro⟨ok2,x⟩ ⟨s',hs',hn',hcase⟩;dsimp only at hs' hcase⊢;subst hs';rw[jc (n:=s.to.n) (x:=s'.to) (by show(s.n:Int)=s'.n;rw[hn'])];rcases hcase with⟨rfl,hg,hgi,hgl,hgs⟩|⟨rfl,href⟩
     . refine cD (by simp) (Tm.bind (hR base (K+6) s' hg (CT hg.n) hgi (by omega) (by omega)) λr hr=>?_);rw[hn',hgs]at hr;refine Tm.bind (Q:=λb=>b=true->fX sys base s.n s.aK r) (bA (λh2=>aI λ_=>?_) (λh2=>aI λh3=>?_)) ?_
       . cases hr with
         |solved x a b c=>exact .solved x a b c
         |gG p a=>exact .gG p a
         |failed e a b=>exact bV rfl h2
       . cases hr with
         |solved x a b c=>exact .solved x a b c
         |gG p a=>exact .gG p a
         |failed e a b=>
          rcases fe.1 a with a|a
          . exact .failed e a b
          . have h3:=iL h3;rw[cG.1 a]at h3;exact bV rfl h3
       . intro b hb;refine bA (λh2=>aI (hb h2)) (λh2=>?_);refine aV (yW hit hv) ?_;dsimp only;have hsl:=yf (v:=v) s.aB;refine aV (I5 (by omega) (by omega)) ?_;generalize hUW:cM v s.aB++dL v s.aB=UW;have hUWl:UW.length<=s.aB.length:=by rw[<-hUW,di];omega
         refine aV (a:=(UW.map AI.pos).map Int.ofNat) (e9 UW.length (λk t=>t=(((UW.take k).map AI.pos).map Int.ofNat,(k:Int))) rfl ?_) ?_
         . rintro k hk _ rfl;dsimp only[Ds];rw[fG];refine bA (λhlt=>?_) (λhge=>aI ?_)
           . have hlt:k<UW.length:=by omega
             refine aL (pT hlt) (aL (eb (by simp only[cT,fA,cJ,dZ];omega) (by decide)) (aI ⟨hlt,?_⟩));rw[eK (by omega),<-j9 hlt];simp only[jP];rfl
           . show _=_;rw[fC (by omega)]
         . have hats:(UW.map AI.pos)=fI s v:=by rw[<-hUW];rfl
           rw[hats];refine Tm.bind (Rg hf h.inv h.rf hv hst hup hil (dL v s.aB).length (dL v s.aB) base K s R (bO _) hE hR ⟨h,Kept.refl s,rfl,λx hx _=>hx,hil,λw hw=>⟨(iF.1 hw).1,(iF.1 hw).1,(iF.1 hw).2⟩,List.Pairwise.filter _ h.inv.kP,λw hw=>.inl hw⟩ (by omega) (by omega)) λr hr=>aI hr
     . refine cR rfl ?_;unfold jT;exact aV (aI rfl) (aI (.gG (.leaf s'.aU) href))
   . exact aI hz
def qY(sys base:List AQ)(n:Nat)(ed:List AE)(f:Nat):aJ ((List bG)×(List Step)×(List (List aC))×(List Int)×(List aC)×(List bB)×(List dW)) cz->Prop
 |.next t=>∃f' s' K',f'<f/\t=jf s'/\s'.n=n/\(∀e∈s'.aK,e.dP=true->e∈ed)/\Good sys base f' K' s'/\s'.aB.length<=iB f'/\s'.aA.length+260+lB f'<=1073741824/\K'+520+dB f'<=cL.k
 |.done r=>fX sys base n ed r
theorem qY.less{n f':Nat}{ed stk':List AE}{r}(h:qY sys base n stk' f' r)(hs:∀e∈stk',e.dP=true->e∈ed)(hf:f'<=f):qY sys base n ed f r:=by
 cases r with
 |next t=>
  obtain⟨f1,s',K',h1,h2,h3,h4,h5⟩:=h;exact⟨f1,s',K',by omega,h2,h3,λe he ht=>hs e (h4 e he ht) ht,h5⟩
 |done r=>exact fX.less h hs
def Ad(N:Nat)(self:aS->Option cz)(x:aS):Option (aJ ((List bG)×(List Step)×(List (List aC))×(List Int)×(List aC)×(List bB)×(List dW)) cz):=(uG N x).bind λd=>if(!d.2)=true then(tN N x).bind λp=>some (aJ.done p) else(wo N x d.1).bind λq=>if(!q)=true then(uX N self x d.1).bind λv=>some (aJ.done v) else(oS N x d.1 false).bind λc=>if(!c.1)=true then(jT N (aS.mk x.n c.2.aA c.2.aU c.2.u c.2.aN c.2.value c.2.aB c.2.aK)).bind λy=>some (aJ.done y) else some (aJ.next (c.2.aA,c.2.aU,c.2.u,c.2.aN,c.2.value,c.2.aB,c.2.aK))
theorem run_eq{N:Nat}{self:aS->Option cz}{s0:St}(hn:s0.n=s.n):uo N self s0.to (jf s)=(vd N s.to).bind λa=>
    if(!a.2.2.2.1)=true then(jT N (aS.mk s0.to.n a.2.2.2.2.aA a.2.2.2.2.aU a.2.2.2.2.u a.2.2.2.2.aN a.2.2.2.2.value a.2.2.2.2.aB a.2.2.2.2.aK)).bind λm=>some (aJ.done m)
    else if a.2.2.1=true then(tJ N (aS.mk s0.to.n a.2.2.2.2.aA a.2.2.2.2.aU a.2.2.2.2.u a.2.2.2.2.aN a.2.2.2.2.value a.2.2.2.2.aB a.2.2.2.2.aK) a.1 a.2.1).bind λb=>
        if(!b.1)=true then(jT N (aS.mk s0.to.n b.2.aA b.2.aU b.2.u b.2.aN b.2.value b.2.aB b.2.aK)).bind λo=>some (aJ.done o)
        else some (aJ.next (b.2.aA,b.2.aU,b.2.u,b.2.aN,b.2.value,b.2.aB,b.2.aK))
    else Ad N self (aS.mk s0.to.n a.2.2.2.2.aA a.2.2.2.2.aU a.2.2.2.2.u a.2.2.2.2.aN a.2.2.2.2.value a.2.2.2.2.aB a.2.2.2.2.aK):=by
  have e:aS.mk s0.to.n s.to.aA s.to.aU s.to.u s.to.aN s.to.value s.to.aB s.to.aK=s.to:=vQ hn;rw[<-e];rfl
theorem DV{R:Nat->aS->Option cz}{s0:St}(hf:f<=4)(h:Good sys base f K s)(hn0:s0.n=s.n)(hil:s.aB.length<=iB f+1)(hkl:s.aA.length+1<=1073741824)(hK:K+6<=cL.k)
 (hkl2:∀f',f=f'+1->s.aA.length+iB f+1+260+lB f'<=1073741824/\K+526+dB f'<=cL.k)
 (hnone:zB s->Tm (λN=>Ad N (R N) s.to) (qY sys base s.n s.aK f)):
 Tm (λN=>uo N (R N) s0.to (jf s)) (qY sys base s.n s.aK f):=by
 have hL:dh=1099511627776:=rfl;have hKM:=cL.h;have hmB:=ot f;have hCB:=mw f;have hn:=h.n;have hsteps:=h.aU;have hso:=h.nM (K':=K+6) (by omega) (by omega) (by omega) (by omega);have e:(λN=>uo N (R N) s0.to (jf s))=λN=>_:=funext λN=>run_eq hn0;rw[e];refine Tm.bind (OK (K:=K+6) (Kk:=K) h.inv hso (bO _) h.q ⟨by omega,by omega,by omega⟩) ?_;intro a ha;cases ha with
 |none hno=>
  refine cD (by simp) (cD (by simp) ?_);dsimp only;rw[jc (n:=s0.to.n) (x:=s.to) (by show(s0.n:Int)=s.n;rw[hn0])];exact hnone (Rf hno)
 |some i j he=>
  have hf0:0<f:=Ic h.inv h.fr λe=>by have:=he.il;rw[e]at this;cases this
  obtain⟨f',rfl⟩:∃f',f=f'+1:=⟨f-1,by omega⟩;obtain⟨q1,q2⟩:=hkl2 f' rfl;refine cD (by simp) (cR rfl ?_);dsimp only;rw[jc (n:=s0.to.n) (x:=s.to) (by show(s0.n:Int)=s.n;rw[hn0])];refine Tm.bind (S8 (m:=iB (f'+1)+1) (by omega) h (bO _) (by omega) (by omega) (by omega) he) ?_;rintro⟨ok,x⟩ ⟨s',hs',hn',hcase⟩;dsimp only at hs' hcase⊢;subst hs';rcases hcase with⟨rfl,hg,hgi,hgl,hgs⟩|⟨rfl,href⟩
  . exact cD (by simp) (aI ⟨f',s',K+6,by omega,rfl,hn',λe he _=>by rw[hgs]at he;exact he,hg,hgi,by omega,by omega⟩)
  . refine cR rfl ?_;unfold jT;exact aV (aI rfl) (aI (show fX sys base s.n s.aK _ from .gG (.leaf s'.aU) href))
 |bad s' L hLs hO hB hl hb=>
  have hg0:∀z∈s.aB,GB (cB f) z.g:=λz hz w hw=>by
   obtain⟨j,hj,rfl⟩:=gC hw;exact h.co z hz j (by rw[(h.inv.it z hz).2]at hj;exact hj)
  have hA:=va (K:=K) (M:=cB f) L s h.inv hLs hg0 λa ha=>by
   have:=hB a ha;cases a with
   |add x=>exact λv hv=>bU (this v hv) (fV _)
   |put g us=>exact λv hv=>bU (this v hv) (fV _)
  have hsok:=wm (Kk:=K) (K:=K+6) L s hso ⟨by omega,by omega,by omega⟩ hO (bO _);rw[hb]at hA hsok;refine cR rfl ?_;unfold jT;have href:Ref s.n base (.leaf s'.aU):=zK hA.inv hA.kept.n (hA.jE base h.jE) (by have:=hA.kl;omega) (λq hq=>(hsok.k q hq).1.mono (by omega)) (hA.bad rfl);exact aV (aI rfl) (aI (show fX sys base s.n s.aK _ from .gG (.leaf s'.aU) href))
theorem Sp(h:Good sys base f K s)(hK:K<=cL.k)(hkl:s.aA.length<=1073741824)(hi:s.aB=[]):Tm (λN=>tN N s.to) (fX sys base s.n s.aK):=by
 have hu:=B8 f;refine(Vz (K:=K) (Ku:=uB f) ⟨h.n,by omega,by omega,h.su,λq hq=>⟨h.q q hq,h.inv.kl q hq⟩,hkl⟩ h.inv hi h.st h.rf.F).mono ?_;rintro r (⟨x,rfl,xl,xd,y,hy,hxy⟩|⟨e,he,ht,rfl⟩)
 . refine .solved x xl (λv hv=>by have:=xd v hv;omega) λq hq=>?_;have:=h.rf.R y hy q hq;unfold eX;rw[eF (f:=vf q.c) (f':=vf q.c) (g:=vf x) (g':=ux s y) (λ_ _=>rfl) hxy];exact this
 . exact .failed e he ht
theorem JQ{R:Nat->aS->Option cz}(hf:f<=4)(hR:∀f',f=f'+1->mC sys f' 260 R/\nH sys f' R)(hH:∀μ',μ'<μ->mC sys f μ' R)(h:Good sys base f K s)(hσ:uY μ s)(hil:s.aB.length<=iB f)(hkl:s.aA.length+μ+lB f<=1073741824)(hK:K+2*μ+dB f<=cL.k)(hp:zB s):
 Tm (λN=>Ad N (R N) s.to) (qY sys base s.n s.aK f):=by
 have hL:dh=1099511627776:=rfl;have hKM:=cL.h;have hmB:=ot f;have hn:=h.n;have hit:=h.Bb (by omega);unfold Ad;refine Tm.bind (TV hit h.inv.gw (by omega)) ?_;rintro⟨v,ok⟩ (⟨h1,v,rfl,hv,hst,x,hx',hx0⟩|⟨h1,h2⟩)
 . dsimp only at h1⊢;subst h1;have hf0:0<f:=Ic h.inv h.fr λe=>by rw[e]at hx';cases hx'
   obtain⟨f',rfl⟩:∃f',f=f'+1:=⟨f-1,by omega⟩;obtain⟨hR1,hR2⟩:=hR f' rfl;have hlN:=wU (f:=f') (m:=iB (f'+1)+1) hf (bO _);have hdN:=xL (f:=f') (m:=iB (f'+1)+1) hf (bO _);refine cD (by simp) (Tm.bind (UP hit hv) λq hq=>bA (λh3=>?_) (λh3=>?_))
   . have hex:¬tG s v:=λe=>by rw[hq.2 e]at h3;cases h3
     exact Tm.bind (Qa hf hR1 hR2 hH h hσ hil hkl hK hv hst hex hp) λr hr=>aI hr
   . have hex:tG s v:=hq.1 (by simpa using h3);refine Tm.bind (KK (m:=iB (f'+1)+1) (t:=false) hf h hv hst (λ_=>hex) (bO _) (by omega) (by omega) (by omega)) ?_;rintro⟨ok2,x⟩ ⟨s',hs',hn',hcase⟩;dsimp only at hs' hcase⊢;subst hs';rcases hcase with⟨rfl,hg,hgi,hgl,hgs⟩|⟨rfl,href⟩
     . refine cD (by simp) (aI ⟨f',s',K+6,by omega,rfl,hn',λe he ht=>?_,hg,hgi,by omega,by omega⟩);rw[hgs]at he;rcases fe.1 he with he|he
       . exact he
       . rw[cG.1 he]at ht;cases ht
     . refine cR rfl ?_;unfold jT;exact aV (aI rfl) (aI (show fX sys base s.n s.aK _ from .gG (.leaf s'.aU) href))
 . dsimp only at h1 h2⊢;subst h1;have hi:s.aB=[]:=by
    cases hi:s.aB with
    |nil=>rfl
    |cons x l=>
     obtain⟨w,w1,w2,w3⟩:=xc h.inv (x:=x) (by rw[hi];simp);exact bV (h2 w w1 w3 x (by rw[hi];simp)) w2
   exact cR rfl (Tm.bind (Sp h (by omega) (by omega) hi) λr hr=>aI hr)
theorem I1(hf:f<=4)(hR:∀f',f'<f->∀μ,mC sys f' μ λN=>kg N)(hE:∀f',f'+1<f->nH sys f' λN=>kg N)(h:Good sys base f K s)
 (hfst:Tm (λN=>uo N (kg N) s.to (jf s)) (qY sys base s.n s.aK f)):Tm (λN=>kg N s.to) (fX sys base s.n s.aK):=by
 refine Tm.succ ?_;show Tm (λN=>xW N (kg N) s.to) _;unfold xW;refine Tm.bind (Q:=fX sys base s.n s.aK) (Tm.vU (λ(g:Nat×St) t=>t=jf g.2/\(g=(f,s)\/(g.1<f/\g.2.n=s.n/\(∀e∈g.2.aK,e.dP=true->e∈s.aK)/\∃K',Good sys base g.1 K' g.2/\g.2.aB.length<=iB g.1/\g.2.aA.length+260+lB g.1<=1073741824/\K'+520+dB g.1<=cL.k))) (λg=>g.1) (f,s) ⟨rfl,.inl rfl⟩ ?_) λr hr=>aI hr;rintro⟨f1,s1⟩ _ ⟨rfl,hg⟩;have fin:∀{t},qY sys base s.n s.aK f1 t->f1<=f->(match t with|.next s'=>∃g':Nat×St,(s'=jf g'.2/\(g'=(f,s)\/(g'.1<f/\g'.2.n=s.n/\(∀e∈g'.2.aK,e.dP=true->e∈s.aK)/\∃K',Good sys base g'.1 K' g'.2/\g'.2.aB.length<=iB g'.1/\g'.2.aA.length+260+lB g'.1<=1073741824/\K'+520+dB g'.1<=cL.k)))/\g'.1<((f1,s1):Nat×St).1|.done r=>fX sys base s.n s.aK r):=by
  intro t ht hle;cases t with
  |next t=>
   obtain⟨f2,s2,K2,h1,h2,h3,h4,h5,h6,h7,h8⟩:=ht;exact⟨(f2,s2),⟨h2,.inr ⟨by show f2<f;omega,h3,h4,K2,h5,h6,h7,h8⟩⟩,h1⟩
  |done r=>exact ht
 rcases hg with hg|⟨hlt,hn1,hst1,K1,hG,hi1,hl1,hk1⟩
 . obtain⟨rfl,rfl⟩:=Prod.mk.inj hg;refine hfst.mono λt ht=>?_;have:=fin ht (bO _);cases t<;>exact this
 . dsimp only at hlt hn1 hst1 hG hi1 hl1 hk1;have hstep:=DV (R:=λN=>kg N) (s0:=s) (by omega) hG hn1.symm (by omega) (by omega) (by omega)
    (λf' e=>by
     subst e;have hlN:=wU (f:=f') (m:=iB (f'+1)+1) (by omega) (bO _);have hdN:=xL (f:=f') (m:=iB (f'+1)+1) (by omega) (bO _);have:=mw (f'+1);omega)
    λhp=>JQ (μ:=260) (by omega) (λf' e=>⟨hR f' (by omega) 260,hE f' (by omega)⟩) (λμ' _=>hR f1 hlt μ') hG (CT hG.n) hi1 hl1 (by omega) hp
   refine hstep.mono λt ht=>?_;rw[hn1]at ht;have:=fin (ht.less hst1 (bO _)) (by omega);cases t<;>exact this
theorem P0(sys:List AQ):∀f,f<=4->(∀μ,mC sys f μ λN=>kg N)/\∀f',f=f'+1->nH sys f' λN=>kg N:=by
  intro f
  induction f using Nat.strongRecOn with
  |ind f ih=>
    intro hf;have hR:∀f',f'<f->∀μ,mC sys f' μ λN=>kg N:=λf' hlt=>(ih f' hlt (by omega)).1;have hE0:∀f',f'+1<f->nH sys f' λN=>kg N:=λf' hlt=>(ih (f'+1) hlt (by omega)).2 f' rfl;have hE:∀f',f=f'+1->nH sys f' λN=>kg N:=by
      rintro f' rfl base K s x hG hx' ho hil hkl hK;refine I1 hf hR hE0 hG (DV hf hG rfl hil (by omega) (by omega) (λf2 e=>by
        obtain rfl:f'=f2:=by omega
        omega) λhp=>?_)
      obtain⟨y,hy,y1,y2⟩:=ho;have:=hp x hx' y hy λk hk=>by rw[y1,jb]
      omega
    refine⟨λμ=>?_,hE⟩
    induction μ using Nat.strongRecOn with
    |ind μ ihμ=>
      intro base K s hG hσ hil hkl hK;refine I1 hf hR hE0 hG (DV hf hG rfl (by omega) (by
        match f with
        | 0 => have : lB 0 = 10 := rfl
               omega
        | f' + 1 => have hlN := wU (f := f') (m := iB (f' + 1) + 1) (by omega) (bO _)
                    omega) (by
        match f with
        | 0 => have : dB 0 = 10 := rfl
               omega
        | f' + 1 => have hdN := xL (f := f') (m := iB (f' + 1) + 1) (by omega) (bO _)
                    omega)
        (λf' e=>by
          subst e;have hlN:=wU (f:=f') (m:=iB (f'+1)+1) (by omega) (bO _);have hdN:=xL (f:=f') (m:=iB (f'+1)+1) (by omega) (bO _);omega)
        λhp=>JQ hf (λf' e=>⟨hR f' (by omega) 260,hE f' e⟩) ihμ hG hσ hil hkl hK hp)
end
end Go.D
namespace Go.D
open Go Go.X
def qU(n i:Nat):List Int:=vec n λj=>if i=j then 1 else 0
def nS(n:Nat)(sys:List AQ):St:=⟨n,sys,[],(List.range n).map (qU n),List.replicate n 0,List.replicate n 0,[],[]⟩
theorem tmNew{n:Nat}{sys:List AQ}(hn:n<=512)(hl:sys.length<=1073741824):Tm (λN=>w5 N (n:Int) (sys.map AQ.to)) (·=(nS n sys).to):=by
 unfold w5;refine aV (a:=sys.map AQ.to) ?_ ?_
 . unfold Ay;exact aL (eb (by rw[cT];simp only[dZ];omega) (by decide)) (aI (jz _))
 refine aL (iy (n:=n) rfl (by omega) (by decide)) (aL (iy (n:=n) rfl (by omega) (by decide)) ?_);refine aV (a:=((List.range n).map (qU n)).map mB) (e9 n (λk t=>t=(((List.range k).map (qU n)).map mB,(k:Int))) rfl ?_) (aI ?_)
 . rintro k hk _ rfl;dsimp only[DU];refine bA (λhlt=>?_) (λhge=>aI ?_)
   . have hlt:k<n:=by omega
     refine aL (iy (n:=n) rfl (by omega) (by decide)) ?_;rw[<-og];refine aV (iO (by decide) (by decide)) (aL (eD (l:=List.replicate n 0) (by simpa using hlt)) (aL (eE (xs:=mB (List.replicate n 0)) rfl (by rw[dT];simpa using hlt)) (aL (eb (by simp only[cT,List.length_range,cJ,dZ];omega) (by decide)) (aI ⟨hlt,?_⟩))));rw[eK (by omega),List.range_succ,sV];simp only[jP,kz,List.map_nil];have:(List.replicate n (0:Int)).set k 1=qU n k:=by
      refine lS (by unfold qU;rw[iK,eZ];simp) λj hj=>?_;have hj:j<n:=by simpa using hj
      unfold qU;rw[jZ (by simpa using hlt),dF hj,wZ,dF hj]
     rw[this]
   . have:k=n:=by omega
     subst this;rfl
 . show aS.mk _ _ _ _ _ _ _ _=(nS n sys).to;unfold nS St.to;dsimp only;rw[og];rfl
section
variable {n:Nat} {sys:List AQ}
theorem Bt{i j:Nat}(hi:i<n)(hj:j<n):mx (nS n sys).u i j=if i=j then 1 else 0:=by
 unfold mx nS;dsimp only;rw[cN,ij,Hh hi];exact dF hj
theorem nS_cu{c:List Int}{j:Nat}(hj:j<n):cu (nS n sys).u n c j=vf c j:=by
 unfold cu;rw[eF (f:=vf c) (f':=vf c) (g':=λi=>if i=j then 1 else 0) (λ_ _=>rfl) λi hi=>Bt hi hj,pt hj]
theorem nS_ux{y:Nat->Int}{i:Nat}(hi:i<n):ux (nS n sys) y i=y i:=by
 unfold ux;show bK (mx (nS n sys).u i) y n=_;rw[eF (f':=λj=>if i=j then 1 else 0) (g:=y) (g':=y) (λj hj=>Bt hi hj) λ_ _=>rfl,kT,H6 hi]
theorem zE{m j:Nat}:vf (List.replicate m (0:Int)) j=0:=by
 rcases cH j m with h|h
 . rw[wZ,dF h]
 . rw[lO (by simpa using h)]
theorem Om(hq:∀q∈sys,q.c.length=n):Inv (nS n sys)where
 ul:=⟨by simp[nS],λr hr=>by
  obtain⟨i,_,rfl⟩:=dR.1 hr;exact eZ⟩
 gw:=by simp[nS]
 vl:=by simp[nS]
 kl:=hq
 it x hx:=by cases hx
 dH x hx:=by cases hx
 nf x hx:=by cases hx
 gM x hx:=by cases hx
 kP:=List.Pairwise.nil
 kA:=by
  refine⟨λi j=>if i=j then 1 else 0,λi hi k hk=>?_,λi hi k hk=>?_⟩
  . have hi:i<n:=hi;have hk:k<n:=hk;show bK (mx (nS n sys).u i) (λj=>if j=k then 1 else 0) n=_;rw[pt hk];exact Bt hi hk
  . have hi:i<n:=hi;have hk:k<n:=hk;show bK (λj=>if i=j then 1 else 0) (λj=>mx (nS n sys).u j k) n=_;rw[kT,H6 hi];exact Bt hi hk
 stat j _:=.inl zE
 sv e he:=by cases he
 s2 j _ h:=by rw[show vf (nS n sys).aN j=0 from zE]at h;omega
 sd:=List.Pairwise.nil
structure ml (n K0:Nat)(sys:List AQ):Prop where
 k1:1<=K0
 k2:K0<=400000000
 hn:n<=4
 l:sys.length<=32
 q:∀q∈sys,q.c.length=n/\(∀v∈q.c,v.natAbs<=50)/\dl q.b<=K0
theorem Vr{s:St}{a:Act}(h:a∈gP s):∃i,i<s.aA.length/\a=.put (aH s.aA i).c [⟨i,1⟩]:=by
 obtain⟨i,hi,rfl⟩:=dR.1 h;exact⟨i,tZ.1 hi,rfl⟩
theorem K5{p:Nat->Bool}:∀{n:Nat},iI p n<=n
 |0=>bO _
 |n+1=>by
  have:=K5 (p:=p) (n:=n);simp only[iI];split<;>omega
theorem ml.fit{K0:Nat}(h:ml n K0 sys):∀q∈sys,fW K0 q:=λq hq=>⟨λv hv=>bU (jB (by have:=(h.q q hq).2.1 v hv;omega)) h.k1,(h.q q hq).2.2⟩
theorem Vn{K0:Nat}(h:ml n K0 sys):gJ (K0+6) (nS n sys)/\jJ sys.length (nS n sys)/\∀a∈gP (nS n sys),(mc K0 (nS n sys) a/\xF 50 a)/\nu K0 (nS n sys) a:=by
 have hk2:=h.k2;have hn:=h.hn;have hl:=h.l;have hfit:=h.fit;refine⟨⟨by show n<=_;omega,by show sys.length<=_;omega,by show 0<=_;omega,by show 0<=_;omega,λq hq=>⟨(hfit q hq).mono (by omega),(h.q q hq).1⟩,λx hx=>(by cases hx),by omega⟩,⟨by show sys.length+_<=_;omega,by show 0+_<=_;omega,by show 0+_<=_;omega⟩,?_⟩;intro a ha;obtain⟨i,hi,rfl⟩:=Vr ha;have hi:i<sys.length:=hi;have hq:=fg hi;obtain⟨q1,q2,q3⟩:=h.q _ hq;have hd:∀v∈(aH sys i).c,dl v<=1:=λv hv=>jB (by have:=q2 v hv;omega);have hP:gT K0 (nS n sys) (aH sys i).c [⟨i,1⟩]:=⟨q1,λv hv=>bU (hd v hv) (by decide),by simp,by simp,λu hu=>by
  rw[cG.1 hu];exact⟨hi,HD 1,bU jL (by decide),hfit _ hq,q1⟩⟩
 refine⟨⟨hP,q2⟩,hP,⟨λj hj=>?_,λj hj hs=>bV (show vf (nS n sys).aN j=0 from zE) hs⟩,?_⟩
 . have hj:j<n:=hj;show _=cu (nS n sys).u n (vec n (eG sys [⟨i,1⟩])) j;rw[nS_cu hj,dF hj];show _=1*vf (aH sys i).c j+0;show vf (aH sys i).c j=_;omega
 . unfold dv;split
   . exact bU jL (by decide)
   . exact bU (vu hd) (by decide)
theorem Sx[cL]{K0:Nat}(h:ml n K0 sys)(hKM:K0+91000<=cL.k):Tm (λN=>uH N (nS n sys).to) (Nxt sys sys n (K0+6) 64 n []):=by
 have hk1:=h.k1;have hk2:=h.k2;have hn:=h.hn;have hl:=h.l;have hI:=Om λq hq=>(h.q q hq).1;have hfit:=h.fit;obtain⟨hso,hroom,hact⟩:=Vn h;have hbl:(gP (nS n sys)).length=sys.length:=by simp[gP,nS]
 have hA:=va (K:=K0) (M:=50) (gP (nS n sys)) (nS n sys) hI (λa ha=>(hact a ha).2) (λz hz=>by cases hz) λa ha=>(hact a ha).1.2;have hsok:=wm (Kk:=K0) (gP (nS n sys)) (nS n sys) hso (by rw[hbl];exact hroom) (λa ha=>(hact a ha).1.1) (bO _);refine(S6 (K0:=K0) hso hroom (bO _) λq hq=>⟨hfit q hq,λv hv=>bU (jB (by have:=(h.q q hq).2.1 v hv;omega)) (by decide)⟩).mono ?_;rintro _ rfl;have hnn:(cw (nS n sys) (gP (nS n sys))).2.n=n:=hA.kept.n;have hkl:(cw (nS n sys) (gP (nS n sys))).2.aA.length<=64:=by
  have:=hA.kl;have e:(nS n sys).aA.length=sys.length:=rfl;omega
 have hil:(cw (nS n sys) (gP (nS n sys))).2.aB.length<=32:=by
  have:=hA.il;have e:(nS n sys).aB.length=0:=rfl;omega
 have hder:ir n sys (cw (nS n sys) (gP (nS n sys))).2.aU (cw (nS n sys) (gP (nS n sys))).2.aA:=hA.jE sys .nil;refine⟨_,rfl,hnn,?_⟩;cases hb:(cw (nS n sys) (gP (nS n sys))).1 with
 |false=>exact .inr ⟨rfl,zK hA.inv hnn hder (by omega) (λq hq=>(hsok.k q hq).1.mono (by omega)) (hA.bad hb)⟩
 |true=>
  rw[hb]at hA;have hstk:(cw (nS n sys) (gP (nS n sys))).2.aK=[]:=hA.kept.ed;have hfr:iJ (cw (nS n sys) (gP (nS n sys))).2<=n:=by unfold iJ;rw[hnn];exact K5
  have hu:=B8 n;have hux:∀y i,i<n->ux (cw (nS n sys) (gP (nS n sys))).2 y i=y i:=λy i hi=>by
   rw[<-nS_ux (sys:=sys) (y:=y) hi];unfold ux;rw[hA.kept.u,hA.kept.n]
  refine .inl ⟨rfl,⟨hA.inv,⟨λy hy q hq=>?_,λk e hk=>(by rw[hstk]at hk;cases hk)⟩,by rw[hnn];exact hn,hfr,?_,λq hq=>(hsok.k q hq).1,?_,λe he=>(by rw[hstk]at he;cases he),by rw[hnn];exact hder⟩,?_,hkl,hstk⟩
  . obtain⟨i,hi,rfl⟩:=nU hq;have:=(hA.imp rfl y hy.2.1).2 (.put (aH sys i).c [⟨i,1⟩]) (dR.2 ⟨i,tZ.2 hi,rfl⟩);have this:bK (vf (aH sys i).c) y n<=1*(aH sys i).b+0:=this;rw[hnn,<-tS hi,eF (f:=vf (aH sys i).c) (f':=vf (aH sys i).c) (g':=y) (λ_ _=>rfl) λj hj=>hux y j hj];omega
  . intro x hx j hj;have h1:(vf x.g j).natAbs<=50:=hA.gb x hx _ (gz (by rw[(hA.inv.it x hx).2];exact hj))
    match n,hfr with
    |0,hfr=>exact Cj hA.inv (by omega) x hx j hj
    |1,hfr=>exact Cj hA.inv hfr x hx j hj
    |2,_=>exact bU h1 (by decide)
    |3,_=>exact bU h1 (by decide)
    |m+4,_=>exact h1
  . refine⟨⟨by rw[hA.kept.u,hnn];simp[nS],λr hr=>?_⟩,by rw[hA.kept.aN,hnn];simp[nS],by rw[hA.kept.value,hnn];exact⟨by simp[nS],λv hv=>by rw[(zr.1 (show v∈List.replicate n 0 from hv)).2,iq];omega⟩⟩;rw[hA.kept.u]at hr;obtain⟨i,hi,rfl⟩:=dR.1 hr;rw[hnn];refine⟨eZ,λv hv=>?_⟩;obtain⟨j,hj,rfl⟩:=gC hv;rw[show(qU n i).length=n from eZ]at hj;unfold qU;rw[dF hj];refine bU (m:=1) (jB ?_) (by omega);split<;>decide
  . match n,hfr with
    |0,hfr=>rw[GL hA.inv (by omega)];simp
    |1,hfr=>exact MS hA.inv hfr
    |2,_=>exact bU hil (by decide)
    |3,_=>exact bU hil (by decide)
    |m+4,_=>exact hil
inductive FY (n D:Nat)(sys:List AQ):cz->Prop where
 |solved (x:List Int) (hl:x.length=n) (hd:∀v∈x,dl v<=D) (hs:∀q∈sys,eX n (vf x) q):FY n D sys (cz.mk 0 (mB x) qR 0)
 |gG (p:kX) (h:Ref n sys p):FY n D sys (cz.mk 1 [] p.to 0)
theorem Tu[cL]{K0:Nat}(h:ml n K0 sys)(hKM:K0+91000<=cL.k):Tm (λN=>p5 N (n:Int) (sys.map AQ.to)) (fX sys sys n []):=by
 have hn:=h.hn;have hl:=h.l;unfold p5;refine aV (tmNew (by omega) (by omega)) (Tm.bind (Sx h hKM) ?_);rintro⟨ok,x⟩ ⟨s',hs',hn',hcase⟩;dsimp only at hs' hcase⊢;subst hs';rw[jc (n:=(nS n sys).to.n) (x:=s'.to) (by show(n:Int)=s'.n;rw[hn'])];rcases hcase with⟨rfl,hg,hgi,hgl,hgs⟩|⟨rfl,href⟩
 . refine cD (by simp) (Tm.bind ((P0 sys n hn).1 260 sys (K0+6) s' hg (CT hg.n) hgi ?_ ?_) λr hr=>aI ?_)
   . have:lB n<=542800000:=by
      match n with
      |0=>decide
      |1=>decide
      |2=>decide
      |3=>decide
      |m+4=>exact bO _
     omega
   . have:dB n<=90000:=by
      match n with
      |0=>decide
      |1=>decide
      |2=>decide
      |3=>decide
      |m+4=>exact bO _
     omega
   . rw[hn',hgs]at hr;exact hr
 . refine cR rfl ?_;unfold jT;exact aV (aI rfl) (aI (.gG (.leaf s'.aU) href))
theorem AJ{K0:Nat}(h:ml n K0 sys):Tm (λN=>p5 N (n:Int) (sys.map AQ.to)) (FY n (10*K0+950000) sys):=by
 obtain⟨c,hc⟩:∃c,c=K0+91000:=⟨_,rfl⟩;refine(@Tu n sys ⟨c,by have:=h.k2;omega⟩ K0 h (by show K0+91000<=c;omega)).mono λr hr=>?_;cases hr with
 |solved x a b d=>exact .solved x a (λv hv=>by have:dl v<=10*c+40000:=b v hv;omega) d
 |gG p a=>exact .gG p a
 |failed e a b=>cases a
end
end Go.D
namespace Go.D
open Go Go.X
def cV(n:Nat)(c:Constraint):List Int:=gv c n c.Linear.bE.length
def cQ(n:Nat)(c:Constraint):List AQ:=if c.jg=true then[⟨cV n c,-c.Linear.Const⟩,⟨cv (cV n c),c.Linear.Const⟩]else[⟨cV n c,-c.Linear.Const⟩]
def gU(n:Nat)(l:List Constraint):List AQ:=l.flatMap (cQ n)
theorem Dx{n:Nat}{c:Constraint}:(cV n c).length=n:=by unfold cV;rw[tk];simp
theorem Mp{l:List Int}:fx (mB l) l:=⟨dT l,λj h h'=>by rw[EA];exact ni _⟩
theorem Q9{l:List Int}:cv l=l.map λv=>-v:=by
 apply qv (by rw[jq,cT]);intro i h1 h2;rw[<-oG h1,jb,lG,oG]
theorem Ul{n:Nat}{c:Constraint}(h:fM c n):oK c n ((cQ n c).map AQ.to):=by
 refine .inr ⟨h,(⟨cV n c,-c.Linear.Const⟩:AQ).to,⟨Mp,ni _⟩,?_⟩;unfold cQ;cases he:c.jg with
 |false=>exact .inl ⟨rfl,by simp⟩
 |true=>
  refine .inr ⟨rfl,(⟨cv (cV n c),c.Linear.Const⟩:AQ).to,⟨?_,ni _⟩,by simp⟩;show fx (mB (cv (cV n c))) ((cV n c).map λv=>-v);rw[Q9];exact Mp
theorem ME{n:Nat}:∀{l:List Constraint},(∀c∈l,fM c n)->lq n l ((gU n l).map AQ.to)
 |[],_=>rfl
 |c::l,h=>⟨_,_,Ul (h c cX),ME λd hd=>h d (cO _ hd),by unfold gU;rw[Dh,jP]⟩
theorem Gz{n:Nat}{l:List Constraint}(h:∀c∈l,fM c n):rh l n ((gU n l).map AQ.to):=.inl ⟨h,ME h⟩
structure jv (n:Nat)(l:List Constraint):Prop where
 hn:n<=4
 len:l.length<=16
 right:∀c∈l,fM c n
 const:∀c∈l,fY c.Linear.Const
 lM:∀c∈l,∀k∈c.Linear.bE,k.N.natAbs<=50
section
variable {n:Nat} {l:List Constraint}
theorem jv.cl(h:jv n l){c:Constraint}(hc:c∈l):c.Linear.bE.length<=4:=by
 have:=Tx (h.right c hc);have:=h.hn;omega
theorem jv.okc(h:jv n l):∀c∈l,oO c:=λc hc=>⟨by have:=h.cl hc;omega,h.const c hc,λk hk=>by have:=h.lM c hc k hk;unfold fY;omega⟩
theorem Qm{P:Int->Prop}(h0:P 0){c:Constraint}{n:Int}(hc:∀k∈c.Linear.bE,P k.N):∀k,∀v∈gv c n k,P v:=by
 intro k;unfold gv;have key:∀(cs:List iE) (v:List Int),(∀k∈cs,P k.N)->(∀x∈v,P x)->∀x∈cs.foldl qB v,P x:=by
  intro cs
  induction cs with
  |nil=>intro v _ hv;exact hv
  |cons a cs ih=>
   intro v ha hv;refine ih (qB v a) (λk hk=>ha k (cO _ hk)) λx hx=>?_;rcases qp hx with hx|rfl
   . exact hv x hx
   . exact ha a cX
 exact key _ _ (λk hk=>hc k (uc hk)) λx hx=>by rw[(zr.1 hx).2];exact h0
theorem UL{c:Constraint}:(cQ n c).length<=2:=by unfold cQ;split<;>simp
theorem E9:∀{l:List Constraint},(gU n l).length<=2*l.length
 |[]=>by simp[gU]
 |c::l=>by
  have:=E9 (l:=l);have:=UL (n:=n) (c:=c);unfold gU at*;rw[Dh,di,cJ];omega
theorem jv.sys(h:jv n l):ml n 2 (gU n l):=by
 refine⟨by decide,by decide,h.hn,by have:=h.len;have:=E9 (n:=n) (l:=l);omega,λq hq=>?_⟩;obtain⟨c,hc,hq⟩:=wS.1 hq;have hv:∀v∈cV n c,v.natAbs<=50:=Qm (P:=λv=>v.natAbs<=50) (by decide) (h.lM c hc) _;have hi:=h.const c hc;unfold fY at hi;have d1:dl c.Linear.Const<=2:=Fv (by omega);have d2:dl (-c.Linear.Const)<=2:=Fv (by omega);have hneg:∀v∈cv (cV n c),v.natAbs<=50:=λv hv'=>by rw[<-wT];exact hv _ (Du hv')
 unfold cQ at hq;split at hq
 . rcases ej.1 hq with rfl|hq
   . exact⟨Dx,hv,d2⟩
   . rw[cG.1 hq];exact⟨(jq _).trans Dx,hneg,d1⟩
 . rw[cG.1 hq];exact⟨Dx,hv,d2⟩
def pe(c:Constraint)(x:List Int):Int:=c.Linear.Const+ri c x c.Linear.bE.length
def kL(l:List Constraint)(x:List Int):Prop:=∀c∈l,pe c x<=0/\(c.jg=true->pe c x=0)
theorem Kz{a b:List Int}:∀m,bK (vf a) (vf b) m=nY a b m
 |0=>rfl
 |m+1=>by show bK _ _ m+_=_;rw[Kz m];rfl
theorem L7{c:Constraint}{x:List Int}(hx:x.length=n)(h:fM c n):(∀q∈cQ n c,eX n (vf x) q)↔(pe c x<=0/\(c.jg=true->pe c x=0)):=by
 have h1:bK (vf (cV n c)) (vf x) n=ri c x c.Linear.bE.length:=by
  rw[Kz];have:=RR (c:=c) (x:=x) (by rw[hx];exact h) (k:=c.Linear.bE.length) (bO _);rw[hx]at this;exact this
 have h2:bK (vf (cv (cV n c))) (vf x) n=-ri c x c.Linear.bE.length:=by rw[M5,h1]
 unfold cQ pe;cases he:c.jg with
 |false=>
  simp only[lr,if_false,cG,forall_eq,eX,h1,false_implies,and_true];omega
 |true=>
  simp only[if_true,ej,NR,or_false,forall_eq_or_imp,forall_eq,eX,h1,h2,true_implies];omega
theorem sat_iff{x:List Int}(hx:x.length=n)(h:∀c∈l,fM c n):(∀q∈gU n l,eX n (vf x) q)↔kL l x:=by
 unfold kL gU;constructor
 . exact λhs c hc=>(L7 hx (h c hc)).1 λq hq=>hs q (wS.2 ⟨c,hc,hq⟩)
 . intro hs q hq;obtain⟨c,hc,hq⟩:=wS.1 hq;exact(L7 hx (h c hc)).2 (hs c hc) q hq
theorem Jw{c:Constraint}{x:List Int}:∀k,pH c.Linear (mB x) k=c.Linear.Const+ri c x k
 |0=>by show c.Linear.Const=c.Linear.Const+0;omega
 |k+1=>by
  rw[pH,ri,Jw k,Cf,gI];show _+_*vf x _=_+(_+_*vf x _);omega
theorem jv.sum(h:jv n l){x:List Int}(hx:x.length=n)(hd:∀v∈x,dl v<=137438953472):∀c∈l,D7 c.Linear (mB x):=λc hc=>by
 refine⟨by have:=h.cl hc;omega,h.const c hc,λk hk=>?_,λb hb=>?_⟩
 . obtain⟨i,hi,rfl⟩:=nU hk;have:=(h.right c hc).1 i hi;have h50:=h.lM c hc _ hk;exact⟨by unfold fY;omega,this.1,by rw[dT,hx];exact this.2.1⟩
 . obtain⟨v,hv,rfl⟩:=dR.1 hb;exact okB (hd v hv)
theorem tmSat(h:jv n l){x:List Int}(hx:x.length=n)(hd:∀v∈x,dl v<=137438953472):Tm (λN=>uv N l (mB x)) (λr=>r=true↔kL l x):=by
 refine(Rz (by have:=h.len;omega) (h.sum hx hd)).mono λr hr=>?_;rw[hr,tY];unfold kL;refine forall_congr' λc=>forall_congr' λhc=>?_;unfold rm;rw[Jw];show(!(decide (0<pe c x)||(decide (pe c x<0)&&c.jg)))=true↔_;cases c.jg<;>simp<;>omega
theorem KP(hl:l.length<=1073741824)(hc:∀c∈l,c.Linear.bE.length<=1073741824):Tm (λN=>nD N l) (·=l):=by
 unfold nD;refine aV (a:=l) (e9 l.length (λk t=>t=(l.take k,(k:Int))) rfl ?_) (aI rfl);rintro k hk _ rfl;dsimp only[GQ];refine bA (λhlt=>?_) (λhge=>aI ?_)
 . have hlt:k<l.length:=by omega
   have:=hc _ (dJ hlt);refine aL (dA hlt) (aL (eb (by simp only[dZ];omega) (by decide)) (aL (eb (by rw[fA];simp only[cJ,dZ];omega) (by decide)) (aI ⟨hlt,?_⟩)));rw[eK (by omega),<-j9 hlt];rfl
 . show _=_;rw[fC (by omega)]
def Ah(n:Nat)(l:List Constraint):Prop:=∃x:List Int,x.length=n/\kL l x
theorem PS(h:jv n l):Tm (λN=>rI N (n:Int) l) (λr=>(∃x:List Int,r=(mB x,qR,true)/\x.length=n/\(∀v∈x,dl v<=950020)/\kL l x)\/(∃p:kX,r=([],p.to,false)/\Ref n (gU n l) p)):=by
 unfold rI;refine aV (a:=(gU n l).map AQ.to) ((J3 h.okc (by have:=h.len;omega)).mono λr hr=>hr.uniq (Gz h.right)) (Tm.bind (AJ h.sys) ?_);intro r hr;cases hr with
 |solved x xl xd xs=>exact cR rfl (aI (.inl ⟨x,rfl,xl,xd,(sat_iff xl h.right).1 xs⟩))
 |gG p hp=>exact cD (by show¬(1:Int)=0;decide) (aI (.inr ⟨p,rfl,hp⟩))
theorem HR{p:kX}(hr:∀c∈l,fM c n)(h:Ref n (gU n l) p):¬Ah n l:=by
 rintro⟨x,hx,hs⟩;exact h.sound (vf x) ((sat_iff hx hr).2 hs)
theorem Rv(h:jv n l){p:kX}(hp:Ref n (gU n l) p):Tm (λN=>sh N (n:Int) l p.to) (·=true):=by
 unfold sh;refine aV (a:=(gU n l).map AQ.to) ((O4 h.okc (by have:=h.len;omega)).mono λr hr=>hr.uniq (Gz h.right)) ?_;refine aV (Ut (by have:=h.hn;omega) hp λe=>?_) (aI rfl);rw[e]at hp;exact hp.sound (λ_=>0) λq hq=>by cases hq
theorem zG(h:jv n l):Tm (λN=>oR N (n:Int) l) (λr=>r.2=true/\(r.1=true↔Ah n l)):=by
 unfold oR;refine aV (KP (by have:=h.len;omega) λc hc=>by have:=h.cl hc;omega) (Tm.bind (PS h) ?_);rintro _ (⟨x,rfl,xl,xd,xs⟩|⟨p,rfl,hp⟩)
 . refine cR rfl (cR (by rw[dT];omega) (Tm.bind (tmSat h xl λv hv=>bU (xd v hv) (by decide)) λr hr=>aI ⟨hr.2 xs,λ_=>⟨x,xl,xs⟩,λ_=>rfl⟩))
 . refine cD (by simp) (cR rfl (aV (Rv h hp) (aI ⟨rfl,λe=>(by cases e),λe=>bV e (HR h.right hp)⟩)))
structure Bu (n:Int)(l:List Constraint)(most:Int):Prop where
 const:∀c∈l,-1000000<=c.Linear.Const/\c.Linear.Const<=1000000
 lM:∀c∈l,∀k∈c.Linear.bE,-most<=k.N/\k.N<=most
 hn:n<=4
 len:l.length<=6
 right:DY l n
theorem UO{n:Int}{l:List Constraint}{most:Int}(hl:l.length<=9223372036854775807)(hc:∀c∈l,c.Linear.bE.length<=9223372036854775807)(hm:0<=most/\most<=100):Tm (λN=>xb N n l most) (λr=>r=true->Bu n l most):=by
 unfold xb;refine Tm.bind (Tm.each (body:=λN=>ym N l most) l (λc=>(-1000000<=c.Linear.Const/\c.Linear.Const<=1000000)/\∀k∈c.Linear.bE,-most<=k.N/\k.N<=most) (Q:=λr=>r=.inr false\/(r=.inl ()/\∀c∈l,(-1000000<=c.Linear.Const/\c.Linear.Const<=1000000)/\∀k∈c.Linear.bE,-most<=k.N/\k.N<=most)) hl ?_ ?_) ?_
 . intro k hk _;dsimp only[ym];have hcl:=hc _ (dJ hk);refine cR (by omega) (aL (dA hk) (Tm.bind (Q:=λb=>b=false->(-1000000<=l[k].Linear.Const/\l[k].Linear.Const<=1000000)) (bA (λh=>aI λe=>(by cases e)) (λh=>aI λe=>?_)) ?_))
   . have:=ui e;omega
   . intro b hb;refine bA (λh=>aI (.inr ⟨_,rfl,.inl rfl⟩)) (λh=>?_);have hcb:=hb (by simpa using h);refine Tm.bind (Tm.each (body:=λN=>xn N most l[k]) l[k].Linear.bE (λq=>-most<=q.N/\q.N<=most) (Q:=λr=>r=.inr false\/(r=.inl ()/\∀q∈l[k].Linear.bE,-most<=q.N/\q.N<=most)) hcl ?_ ?_) ?_
     . intro j hj _;dsimp only[xn];refine cR (by omega) (Tm.bind (Q:=λb=>b=false→-most<=(l[k].Linear.bE[j]).N/\(l[k].Linear.bE[j]).N<=most) (aL (dA hj) (bA (λh=>aI λe=>(by cases e)) (λh=>aL (dA hj) (aI λe=>?_)))) ?_)
       . have:=ui e;rw[bL (by omega) (by omega)]at this;omega
       . intro b hb;exact bA (λh=>aI (.inr ⟨_,rfl,.inl rfl⟩)) (λh=>aI (.inl ⟨rfl,hb (by simpa using h)⟩))
     . intro h;dsimp only[xn];exact cD (by omega) (aI ⟨_,rfl,.inr ⟨rfl,h⟩⟩)
     . rintro _ (rfl|⟨rfl,h2⟩)
       . exact aI (.inr ⟨_,rfl,.inl rfl⟩)
       . exact aI (.inl ⟨rfl,hcb,h2⟩)
 . intro h;dsimp only[ym];exact cD (by omega) (aI ⟨_,rfl,.inr ⟨rfl,h⟩⟩)
 . rintro _ (rfl|⟨rfl,h⟩)
   . exact aI λe=>(by cases e)
   . refine bA (λh1=>bA (λh2=>?_) (λh2=>aI λe=>(by cases e))) (λh1=>aI λe=>(by cases e));exact Tm.bind (UA hl hc) λr hr=>aI λe=>⟨λc hc'=>(h c hc').1,λc hc'=>(h c hc').2,h1,by omega,hr.1 e⟩
theorem Bu.lok{n:Int}{l:List Constraint}{most:Int}(h:Bu n l most)(hm:most<=50):∃m:Nat,n=m/\jv m l:=by
 obtain⟨h1,h2,h3⟩:=h.right;refine⟨n.toNat,by omega,by have:=h.hn;omega,by have:=h.len;omega,λc hc=>?_,λc hc=>by have:=h.const c hc;unfold fY;omega,λc hc k hk=>by have:=h.lM c hc k hk;omega⟩;rw[show((n.toNat:Nat):Int)=n by omega];exact h1 c hc
end
end Go.D
namespace Go.D
open Go Go.X
def Ao(j:Nat)(L:List AQ):List AQ:=L.filter λq=>decide (0<vf q.c j)
def uN(j:Nat)(L:List AQ):List AQ:=L.filter λq=>decide (vf q.c j<0)
def zerR(j:Nat)(L:List AQ):List AQ:=L.filter λq=>decide (vf q.c j=0)
def F5(n j:Nat)(p m:AQ):AQ:=⟨vec n λi=>-vf m.c j*vf p.c i+vf p.c j*vf m.c i,-vf m.c j*p.b+vf p.c j*m.b⟩
def pV(n j:Nat)(L:List AQ):List AQ:=zerR j L++(Ao j L).flatMap λp=>(uN j L).map λm=>F5 n j p m
theorem wY{n j:Nat}{L:List AQ}{q:AQ}:q∈pV n j L↔(q∈L/\vf q.c j=0)\/∃p∈L,∃m∈L,0<vf p.c j/\vf m.c j<0/\q=F5 n j p m:=by
 unfold pV zerR Ao uN;simp only[fe,o7,wS,dR,decide_eq_true_eq];constructor
 . rintro(h|⟨p,⟨hp,hp0⟩,m,⟨hm,hm0⟩,rfl⟩)
   . exact .inl h
   . exact .inr ⟨p,hp,m,hm,hp0,hm0,rfl⟩
 . rintro(h|⟨p,hp,m,hm,hp0,hm0,rfl⟩)
   . exact .inl h
   . exact .inr ⟨p,⟨hp,hp0⟩,m,⟨hm,hm0⟩,rfl⟩
theorem HK{n j:Nat}{p m:AQ}{x:Nat->Int}:bK (vf (F5 n j p m).c) x n=-vf m.c j*bK (vf p.c) x n+vf p.c j*bK (vf m.c) x n:=by
 show bK (vf (vec n _)) x n=_;rw[eF (f':=λi=>-vf m.c j*vf p.c i+vf p.c j*vf m.c i) (g':=x) (λi hi=>dF hi) λ_ _=>rfl,rC,qi]
theorem VN{n j:Nat}{L:List AQ}{x:Nat->Int}(h:∀q∈L,eX n x q):∀q∈pV n j L,eX n x q:=by
 intro q hq;rcases wY.1 hq with⟨hq,_⟩|⟨p,hp,m,hm,hp0,hm0,rfl⟩
 . exact h q hq
 . have h1:=ff (h p hp) (show 0≤-vf m.c j by omega);have h2:=ff (h m hm) (dY hp0);unfold eX;rw[HK];show _≤-vf m.c j*p.b+vf p.c j*m.b;omega
def pY(n:Nat)(x:Nat->Int)(q:AQ):Prop:=bK (vf q.c) x n<=0
theorem best{α:Type}{a d:α->Int}:∀{W:List α},W≠[]->(∀x∈W,0<a x)->∃w∈W,∀x∈W,d x*a w<=d w*a x
 |[],h,_=>bV rfl h
 |x::W,_,h=>by
  have hx:=h x cX;by_cases hW:W=[]
  . subst hW;exact⟨x,cX,λy hy=>by rw[cG.1 hy];exact lF _⟩
  . obtain⟨w,hw,hb⟩:=best (d:=d) hW λy hy=>h y (cO _ hy);have hwp:=h w (cO _ hw);rcases uh (d x*a w) (d w*a x)with hc|hc
    . exact⟨w,cO _ hw,λy hy=>(ej.1 hy).elim (λe=>by subst e;exact hc) (hb y)⟩
    . refine⟨x,cX,λy hy=>?_⟩;rcases ej.1 hy with rfl|hy
      . exact lF _
      . have h1:=hb y hy;have hyp:=h y (cO _ hy);have h2:=eU h1 (dY hx);have h3:=eU hc (dY hyp);refine Int.le_of_mul_le_mul_right (a:=a w) ?_ hwp;have e1:d y*a x*a w=d y*a w*a x:=by grind
        have e2:d w*a y*a x=d w*a x*a y:=by grind
        have e3:d x*a y*a w=d x*a w*a y:=by grind
        omega
theorem Pb{f x:Nat->Int}{t:Int}{n:Nat}:bK f (λi=>t*x i) n=t*bK f x n:=by
 rw[kT,qi,kT]
theorem Tk{n j:Nat}(hj:j<n){L:List AQ}{z:Nat->Int}(h:∀q∈pV n j L,pY n z q):∃t:Int,0<t/\∃y,∀q∈L,pY n (cS (λi=>t*z i) j y) q:=by
 have hup:∀(q:AQ) (t y:Int),bK (vf q.c) (cS (λi=>t*z i) j y) n=t*(bK (vf q.c) z n-vf q.c j*z j)+vf q.c j*y:=λq t y=>by
  rw[tM hj,Pb,Int.mul_sub,Int.mul_sub];have:vf q.c j*(t*z j)=t*(vf q.c j*z j):=by grind
  omega
 have hpair:∀p∈L,∀m∈L,0<vf p.c j->vf m.c j<0→-vf m.c j*(bK (vf p.c) z n-vf p.c j*z j)+vf p.c j*(bK (vf m.c) z n-vf m.c j*z j)<=0:=λp hp m hm hp0 hm0=>by
  have:=h _ (wY.2 (.inr ⟨p,hp,m,hm,hp0,hm0,rfl⟩));unfold pY at this;rw[HK]at this;have e:-vf m.c j*(bK (vf p.c) z n-vf p.c j*z j)+vf p.c j*(bK (vf m.c) z n-vf m.c j*z j)=-vf m.c j*bK (vf p.c) z n+vf p.c j*bK (vf m.c) z n:=by grind
  rw[e];exact this
 have hzero:∀q∈L,vf q.c j=0->bK (vf q.c) z n<=0:=λq hq h0=>h q (wY.2 (.inl ⟨hq,h0⟩));by_cases hN:uN j L=[]
 . obtain⟨y,hy⟩:=Gh (U:=Ao j L) (a:=λq=>vf q.c j) (c:=λq=>-(bK (vf q.c) z n-vf q.c j*z j)) λq hq=>by simpa[Ao]using(o7.1 hq).2
   refine⟨1,by decide,y,λq hq=>?_⟩;unfold pY;rw[hup,rR];rcases qx (vf q.c j) 0 with h0|h0|h0
   . have:q∈uN j L:=o7.2 ⟨hq,by simpa using h0⟩;rw[hN]at this;cases this
   . have:=hzero q hq h0;rw[h0];omega
   . have:=hy q (o7.2 ⟨hq,by simpa using h0⟩);omega
 . obtain⟨w,hw,hb⟩:=best (W:=uN j L) (a:=λq=>-vf q.c j) (d:=λq=>bK (vf q.c) z n-vf q.c j*z j) hN (λq hq=>by
    have:vf q.c j<0:=by simpa[uN]using(o7.1 hq).2
    show 0< -vf q.c j;omega)
   obtain⟨hwL,hw0⟩:=o7.1 hw;have hw0:vf w.c j<0:=by simpa using hw0
   refine⟨-vf w.c j,by omega,bK (vf w.c) z n-vf w.c j*z j,λq hq=>?_⟩;unfold pY;rw[hup];rcases qx (vf q.c j) 0 with h0|h0|h0
   . have:=hb q (o7.2 ⟨hq,by simpa using h0⟩);generalize bK (vf q.c) z n-vf q.c j*z j=Q at*;generalize bK (vf w.c) z n-vf w.c j*z j=W at*;have e1:Q*-vf w.c j=-vf w.c j*Q:=fD _ _;have e2:W*-vf q.c j=-(vf q.c j*W):=by rw[lJ,fD]
     omega
   . have h1:=hzero q hq h0;have h2:=ff h1 (show 0≤-vf w.c j by omega);rw[h0];simp only[Int.zero_mul,Df,Int.add_zero,Dc]at h2⊢;exact h2
   . exact hpair q hq w hwL h0 hw0
def kQ(n v:Nat)(L:List AQ):Nat->List AQ
 |0=>L
 |k+1=>if k=v then kQ n v L k else pV n k (kQ n v L k)
theorem GO{n v:Nat}{L:List AQ}{x:Nat->Int}(h:∀q∈L,eX n x q):∀k,∀q∈kQ n v L k,eX n x q
 |0=>h
 |k+1=>by
  show∀q∈(if k=v then _ else _),_;split
  . exact GO h k
  . exact VN (GO h k)
theorem xB{n v:Nat}{L:List AQ}:∀k,k<=n->∀q∈kQ n v L k,∀j,j<k->j≠v->vf q.c j=0
 |0,_=>λq _ j hj=>by omega
 |k+1,hk=>by
  intro q hq j hj hjv;have hq:q∈(if k=v then kQ n v L k else pV n k (kQ n v L k)):=hq;by_cases e:k=v
  . rw[bD e]at hq;exact xB k (by omega) q hq j (by omega) hjv
  . rw[aY e]at hq;rcases wY.1 hq with⟨hq,h0⟩|⟨p,hp,m,hm,hp0,hm0,rfl⟩
    . by_cases e2:j=k
      . rw[e2];exact h0
      . exact xB k (by omega) q hq j (by omega) hjv
    . show vf (vec n _) j=0;rw[dF (by omega)];by_cases e2:j=k
      . subst e2;rw[lH,fD (vf p.c j)];omega
      . rw[xB k (by omega) p hp j (by omega) hjv,xB k (by omega) m hm j (by omega) hjv];simp
theorem DR{n v:Nat}{L:List AQ}:∀k,k<=n->∀z:Nat->Int,z v<0->(∀q∈kQ n v L k,pY n z q)->∃z':Nat->Int,z' v<0/\∀q∈L,pY n z' q
 |0,_,z,hz,h=>⟨z,hz,h⟩
 |k+1,hk,z,hz,h=>by
  have h:∀q∈(if k=v then kQ n v L k else pV n k (kQ n v L k)),pY n z q:=h;by_cases e:k=v
  . rw[bD e]at h;exact DR k (by omega) z hz h
  . rw[aY e]at h;obtain⟨t,ht,y,hy⟩:=Tk (by omega) h;refine DR k (by omega) _ ?_ hy;unfold cS;rw[aY λh=>e h.symm];have:=V2 hz ht;rw[Dc]at this;exact this
def RB(C D:Nat)(q:AQ):Prop:=(∀j,(vf q.c j).natAbs<=C)/\q.b.natAbs<=D
theorem UY{n j C D:Nat}{L:List AQ}(hC:1<=C)(h:∀q∈L,RB C D q):∀q∈pV n j L,RB (2*(C*C)) (2*(C*D)) q:=by
 intro q hq;have hCC:C*1<=C*C:=zy _ hC;have hCD:1*D<=C*D:=o5 _ hC;rcases wY.1 hq with⟨hq,_⟩|⟨p,hp,m,hm,hp0,hm0,rfl⟩
 . obtain⟨a,b⟩:=h q hq;exact⟨λj=>by have:=a j;omega,by omega⟩
 . obtain⟨p1,p2⟩:=h p hp;obtain⟨m1,m2⟩:=h m hm;refine⟨λi=>?_,?_⟩
   . show(vf (vec n _) i).natAbs<=_;rcases cH i n with hi|hi
     . rw[dF hi];have h1:=vD (a:=-vf m.c j) (by rw[wT];exact m1 j) (p1 i);have h2:=vD (p1 j) (m1 i);omega
     . rw[lO (by rw[eZ];exact hi)];simp
   . show(-vf m.c j*p.b+vf p.c j*m.b).natAbs<=_;have h1:=vD (a:=-vf m.c j) (by rw[wT];exact m1 j) p2;have h2:=vD (p1 j) m2;omega
def cE:Nat->Nat
 |0=>50
 |k+1=>2*(cE k*cE k)
def dE:Nat->Nat
 |0=>18446744073709551616
 |k+1=>2*(cE k*dE k)
theorem FL:∀k,1<=cE k
 |0=>by decide
 |k+1=>by
  have:=j7 (FL k) (FL k);show 1<=2*(cE k*cE k);omega
theorem RB.mono{C D C' D':Nat}{q:AQ}(h:RB C D q)(hC:C<=C')(hD:D<=D'):RB C' D' q:=⟨λj=>bU (h.1 j) hC,bU h.2 hD⟩
theorem DT{n v:Nat}{L:List AQ}(h:∀q∈L,RB 50 18446744073709551616 q):∀k,∀q∈kQ n v L k,RB (cE k) (dE k) q
 |0=>h
 |k+1=>by
  intro q hq;have hq:q∈(if k=v then kQ n v L k else pV n k (kQ n v L k)):=hq;have hp:=FL k;have h1:cE k*1<=cE k*cE k:=zy _ hp;have h2:1*dE k<=cE k*dE k:=o5 _ hp;by_cases e:k=v
  . rw[bD e]at hq;exact(DT h k q hq).mono (show cE k<=2*(cE k*cE k) by omega) (show dE k<=2*(cE k*dE k) by omega)
  . rw[aY e]at hq;exact UY hp (DT h k) q hq
theorem dE_le:∀k,k<=4->dE k<=2^200:=by
 intro k hk
 match k,hk with
 |0,_=>decide+kernel
 |1,_=>decide+kernel
 |2,_=>decide+kernel
 |3,_=>decide+kernel
 |4,_=>decide+kernel
def rH(n v:Nat)(s b:Int):AQ:=⟨vec n λj=>if j=v then s else 0,b⟩
theorem xq{n v:Nat}{s b:Int}{x:Nat->Int}(hv:v<n):bK (vf (rH n v s b).c) x n=s*x v:=by
 show bK (vf (vec n _)) x n=_;rw[oq hv λj hj hjv=>by rw[dF hj,aY hjv],dF hv,bD rfl]
def oe(n v:Nat)(sys:List AQ):List AQ:=(sys.map λq=>⟨q.c,0⟩)++[rH n v 1 (-1)]
theorem PV{n v:Nat}{sys:List AQ}(hn:n<=4)(hv:v<n)(h:∀q∈sys,q.c.length=n/\(∀w∈q.c,w.natAbs<=50)/\q.b.natAbs<=18446744073709551616)(hno:¬∃z:Nat->Int,∀q∈oe n v sys,eX n z q){x:Nat->Int}(hx:∀q∈sys,eX n x q):-(2^200)<=x v:=by
 have hrb:∀q∈sys,RB 50 18446744073709551616 q:=λq hq=>by
  obtain⟨a,b,c⟩:=h q hq;refine⟨λj=>?_,c⟩;rcases cH j q.c.length with g|g
  . exact b _ (gz g)
  . rw[lO g];simp
 have hE:=DT (n:=n) (v:=v) hrb n;have hS:=GO (v:=v) hx n;have hZ:=xB (n:=n) (v:=v) (L:=sys) n (bO _);have hd:=dE_le n hn;have hone:∀q∈kQ n v sys n,∀y:Nat->Int,bK (vf q.c) y n=vf q.c v*y v:=λq hq y=>oq hv λj hj hjv=>hZ q hq j hj hjv;by_cases hneg:∃q∈kQ n v sys n,vf q.c v<0
 . obtain⟨q,hq,h0⟩:=hneg;have h1:=hS q hq;unfold eX at h1;rw[hone q hq]at h1;have h2:=(hE q hq).2;refine ji λhlt=>?_;have h3:(2:Int)^200< -x v:=by omega
   have h0':(0:Int)<=2^200:=by decide
   have h4:=eU (show(1:Int)≤-vf q.c v by omega) (show 0≤-x v by omega);rw[Og,rR]at h4;have h5:(dE n:Int)<=((2^200:Nat):Int):=Int.ofNat_le.2 hd;rw[Da]at h5;have h6:((2:Nat):Int)^200=(2:Int)^200:=rfl;rw[h6]at h5;generalize(2:Int)^200=P at*;omega
 . have hall:∀q∈kQ n v sys n,0<=vf q.c v:=λq hq=>Int.not_lt.1 λe=>hneg ⟨q,hq,e⟩;obtain⟨z,hz,hh⟩:=DR (v:=v) (L:=sys) n (bO _) (λj=>if j=v then-1 else 0) (by simp) λq hq=>by
    unfold pY;rw[hone q hq];have:=hall q hq;simp;omega
   refine bV ⟨z,λq hq=>?_⟩ hno;rcases fe.1 hq with hq|hq
   . obtain⟨p,hp,rfl⟩:=dR.1 hq;exact hh p hp
   . rw[cG.1 hq];unfold eX;rw[xq hv,rR];show z v≤-1;omega
end Go.D
namespace Go.D
open Go Go.X
theorem jv.sub{n:Nat}{l l':List Constraint}(h:jv n l)(hl:l'.length<=l.length)(hs:∀c∈l',c∈l):jv n l':=
 ⟨h.hn,by have:=h.len;omega,λc hc=>h.right c (hs c hc),λc hc=>h.const c (hs c hc),λc hc=>h.lM c (hs c hc)⟩
end Go.D
namespace Go.D
open Go Go.X
def qX(i:Nat)(k c:Int)(e:Bool):Constraint:=⟨⟨c,[⟨i,k⟩]⟩,e⟩
theorem TG{n i:Nat}{k c:Int}{e:Bool}(hi:i<n)(hn:n<=512):fM (qX i k c e) n:=by
 refine⟨λj hj=>?_,by omega,by omega⟩;have:j=0:=by have:j<1:=hj;omega
 subst this;exact⟨by show(0:Int)<=i;omega,by show(i:Int)<n;omega,λh=>by omega⟩
theorem Tc{i:Nat}{k c:Int}{e:Bool}{x:List Int}:pe (qX i k c e) x=c+k*vf x i:=by
 show c+(0+k*x.getD ((i:Int)).toNat 0)=_;rw[mh];show _=c+k*x.getD i 0;omega
section
variable {m:Int}
def nv(m:Int):List Int->Int
 |[]=>0
 |a::r=>a+(m+1)*nv m r
end
end Go.D
namespace Go.D
open Go Go.X
theorem IP{n v:Nat}{s b:Int}(hn:n<=512)(hv:v<n)(hs:-9223372036854775808<=s/\s<=9223372036854775807):Tm (λN=>wA N (n:Int) (v:Int) s (B b)) (·=(rH n v s b).to):=by
 unfold wA;refine aL (iy (n:=n) rfl (by omega) (by decide)) ?_;rw[<-og];refine aV (iO hs.1 hs.2) (aL (eD (l:=List.replicate n 0) (by simpa using hv)) (aL (eE (xs:=mB (List.replicate n 0)) rfl (by rw[dT];simpa using hv)) (aI ?_)));rw[sV];have:(List.replicate n (0:Int)).set v s=vec n λj=>if j=v then s else 0:=by
  refine lS (by rw[iK,eZ];simp) λj hj=>?_;have hj:j<n:=by simpa using hj
  rw[jZ (by simpa using hv),dF hj,zE];by_cases e:v=j
  . rw[bD e,bD e.symm]
  . rw[aY e,aY λh=>e h.symm]
 rw[this];rfl
theorem Ns{n v:Nat}{b:Int}{K:Nat}(hb:dl b<=K):(rH n v 1 b).c.length=n/\(∀w∈(rH n v 1 b).c,w.natAbs<=50)/\dl (rH n v 1 b).b<=K:=by
 refine⟨eZ,λw hw=>?_,hb⟩;obtain⟨j,hj,rfl⟩:=gC hw;rw[show(rH n v 1 b).c.length=n from eZ]at hj;show(vf (vec n _) j).natAbs<=50;rw[dF hj];split<;>decide
section
variable {n v:Nat} {sys:List AQ}
theorem S9(h:ml n 2 sys)(hl:sys.length<=12):ml n 2 (oe n v sys):=by
 refine⟨by decide,by decide,h.hn,by unfold oe;rw[di,cT,jN];omega,λq hq=>?_⟩;rcases fe.1 hq with hq|hq
 . obtain⟨p,hp,rfl⟩:=dR.1 hq;obtain⟨a,b,c⟩:=h.q p hp;exact⟨a,b,by show dl 0<=2;rw[iq];omega⟩
 . rw[cG.1 hq];exact Ns (bU (jB (by decide)) (by decide))
theorem QK(h:ml n 2 sys)(hl:sys.length<=12)(hv:v<n):Tm (λN=>yu N (n:Int) (sys.map AQ.to) (v:Int)) (λr=>(r=true/\∃z:List Int,∀q∈oe n v sys,eX n (vf z) q)\/(r=false/\¬∃z:Nat->Int,∀q∈oe n v sys,eX n z q)):=by
 have hn:=h.hn;unfold yu;refine aV (a:=(sys.map λq=>(⟨q.c,0⟩:AQ)).map AQ.to) (e9 sys.length (λk t=>t=(((sys.take k).map λq=>(⟨q.c,0⟩:AQ)).map AQ.to,(k:Int))) rfl ?_) ?_
 . rintro k hk _ rfl;dsimp only[EP];rw[cT];refine bA (λhlt=>?_) (λhge=>aI ?_)
   . have hlt:k<sys.length:=by omega
     refine aL (nJ hlt) (aL (eb (by simp only[cT,fA,cJ,dZ];omega) (by decide)) (aI ⟨hlt,?_⟩));rw[eK (by omega),<-j9 hlt,jP,jP,tS hlt];show(_++[bG.mk (mB sys[k].c) _],_)=(_++[bG.mk (mB sys[k].c) (B 0)],_);rw[B0]
   . show _=_;rw[fC (by omega)]
 . refine aV (iO (by decide) (by decide)) (aV (IP (by omega) hv (by decide)) (aL (eb (by simp only[cT,cJ,dZ];omega) (by decide)) ?_));rw[<-Ba];refine Tm.bind (AJ (S9 (v:=v) h hl)) λr hr=>aI ?_;cases hr with
   |solved x a b c=>exact .inl ⟨rfl,x,c⟩
   |gG p a=>exact .inr ⟨rfl,λ⟨z,hz⟩=>a.sound z hz⟩
theorem bigW(e:Nat)(h7:7<=e):∃W:Int,2^200<=W/\(∀a:Int,-(6*W)<=a->a<=6*W->dl a<=e+1)/\(∀a:Int,0<=a->a<=64*(W*W)->dl a<=2*e+1)/\∀a:Int,dl a<=e→-W<a/\a<W:=by
 have h1:=wx h7;have h0:(2:Int)^200<=aE^7:=by decide
 have hp:=kI (B:=aE) (by decide) e;refine⟨aE^e,by omega,λa g1 g2=>p7 ?_,λa g1 g2=>p7 ?_,λa g=>?_⟩
 . rw[fu];have:aE^e*7<=aE^e*aE:=ff (by decide) (dY hp);omega
 . rw[fu,show 2*e=e+e by omega,jO];have h3:=Int.mul_pos hp hp;generalize aE^e*aE^e=Q at*;have:Q*65<=Q*aE:=ff (by decide) (dY h3);omega
 . have h4:=rB a;have h5:=wx g;omega
def mn(n v:Nat)(sys:List AQ)(k:Int):Prop:=∃x:List Int,x.length=n/\(∀q∈sys,eX n (vf x) q)/\vf x v=k
structure LI (n v:Nat)(sys:List AQ)(W least low:Int)(bounded:Bool)(step:Int):Prop where
 att:mn n v sys least
 hi:least<W
 s1:1<=step
 s2:step<=32*(W*W)
 ub:bounded=false->step<=4*W/\low=0
 bd:bounded=true->(∀k,mn n v sys k->low<k)∧-(5*W)<=low/\step*(least-low-1)<=16*(W*W)
theorem OX(h:ml n 2 sys)(hl:sys.length<=12)(hv:v<n)(hlow:∀k,mn n v sys k→-(2^200)<=k){k0:Int}(hk0:mn n v sys k0)(hd0:dl k0<=950020):
    Tm (λN=>bS (zY N (n:Int) (v:Int) (B 1) (sys.map AQ.to)) N (B k0,aC.mk false [],false,B 1)) (λr=>∃k,r=(B k,true)/\dl k<=950022/\mn n v sys k/\∀k',mn n v sys k'->k<=k'):=by
  have hL:dh=1099511627776:=rfl;have hn:=h.hn;obtain⟨W,w1,w2,w3,w4⟩:=bigW 950021 (by decide);have hP:(1:Int)<=2^200:=by decide
  have hW1:1<=W:=by omega
  have hWW:W<=W*W:=by
    have:=ff hW1 (show 0<=W by omega);rw[wN]at this;exact this
  have hlow':∀k,mn n v sys k→-W<=k:=λk hk=>by have:=hlow k hk;omega
  clear hlow;refine Tm.vU (λ(g:Int×Int×Bool×Int) t=>t=(B g.1,B g.2.1,g.2.2.1,B g.2.2.2)/\LI n v sys W g.1 g.2.1 g.2.2.1 g.2.2.2)
    (λg=>if g.2.2.1=true then(g.1-g.2.1).toNat else(g.1+W).toNat+(4*W+1).toNat) (k0,0,false,1) ⟨by rw[B0],hk0,(w4 k0 (by omega)).2,lF _,by show(1:Int)<=_;omega,λ_=>⟨by show(1:Int)<=_;omega,rfl⟩,λe=>by cases e⟩ ?_
  rintro⟨least,low,bounded,step⟩ _ ⟨rfl,hI0⟩;have hI:LI n v sys W least low bounded step:=hI0;clear hI0;have hge:=hlow' _ hI.att;have hhi:=hI.hi;have hs1:=hI.s1;have hs2:=hI.s2;have dst:=w3 step (by omega) (by omega);have dle:=w2 least (by omega) (by omega);dsimp only[zY];refine Tm.bind (Q:=λt:Sum (aC×aC×Bool×aC) (aC×Bool)=>(∃least' low' bounded' step',t=.inl (B least',B low',bounded',B step')/\LI n v sys W least' low' bounded' step'/\(if bounded'=true then(least'-low').toNat else(least'+W).toNat+(4*W+1).toNat)<(if bounded=true then(least-low).toNat else(least+W).toNat+(4*W+1).toNat))\/
      (t=.inr (B least,true)/\∀k',mn n v sys k'->least<=k')) ?_ ?_
  . refine aV (ld (a:=least) (b:=step) (by omega) (by omega)) ?_;refine Tm.bind (Q:=λt:Sum aC (aC×Bool)=>(∃limit,t=.inl (B limit)/\((bounded=false/\limit=least-step)\/(bounded=true/\2<=least-low/\limit=(low+least).fdiv 2)))\/(t=.inr (B least,true)/\bounded=true/\least-low<=1)) (bA (λhb=>?_) (λhb=>aI (.inl ⟨_,rfl,.inl ⟨by simpa using hb,rfl⟩⟩))) ?_
    . obtain⟨b1,b2,b3⟩:=hI.bd hb;have hlt:=b1 _ hI.att;have dlo:=w2 low (by omega) (by omega);have d2:dl (2:Int)<=1:=jB (by decide);have dsum:dl (low+least)<=950023:=oz (K:=950022) dlo dle;have dsb:dl (least-low)<=950023:=jW (K:=950022) dle dlo;refine aV (mf (by omega) (by omega)) (aV (iO (by decide) (by decide)) (Tm.bind (pP (by omega) (by omega)) ?_));rintro⟨q1,q2,q3⟩ hq;dsimp only at hq⊢;subst hq;refine aV (ld (by omega) (by omega)) (aV (ko (by omega) (bU jL (by omega))) (bA (λhc=>aI (.inr ⟨rfl,hb,xE.1 hc⟩)) (λhc=>aI (.inl ⟨_,rfl,.inr ⟨hb,?_,rfl⟩⟩))));have:¬least-low<=1:=λe=>hc (xE.2 e);omega
    . rintro _ (⟨limit,rfl,hlim⟩|⟨rfl,hb,hg⟩)
      . dsimp only;have hlim2:-(5*W)<=limit/\limit<least/\(bounded=true->low<=limit):=by
          rcases hlim with⟨hb,rfl⟩|⟨hb,hg,rfl⟩
          . have:=(hI.ub hb).1;exact⟨by omega,by omega,λe=>by rw[hb]at e;cases e⟩
          . have:=(hI.bd hb).2.1;have hf:=mb (a:=low+least) (p:=2) (by decide);exact⟨by omega,by omega,λ_=>by omega⟩
        have dlim:=w2 limit (by omega) (by omega);have hOk:ml n 950030 (sys++[rH n v 1 limit]):=⟨by decide,by decide,hn,by rw[di,jN];omega,λq hq=>by
          rcases fe.1 hq with hq|hq
          . obtain⟨a,b,c⟩:=h.q q hq;exact⟨a,b,by omega⟩
          . rw[cG.1 hq];exact Ns (by omega)⟩
        refine aV (a:=sys.map AQ.to) (aI rfl) (aV (IP (by omega) hv (by decide)) (aL (eb (by simp only[cT,cJ,dZ];omega) (by decide)) ?_));rw[<-Ba];refine Tm.bind (AJ hOk) ?_;intro r hr;cases hr with
        |solved x xl xd xs=>
          refine cR rfl (aL (eD (l:=x) (by omega)) (aV (mf (by omega) (by omega)) (aI (.inl ⟨vf x v,low,bounded,step+step,rfl,?_,?_⟩))))
          . have hx:mn n v sys (vf x v):=⟨x,xl,λq hq=>xs q (rP _ hq),rfl⟩;have hle:vf x v<=limit:=by
              have:=xs _ (o8 _ (cG.2 rfl));unfold eX at this;rw[xq hv,rR]at this;exact this
            have hxl:=hlow' _ hx;refine⟨hx,by omega,by omega,?_,λhb=>?_,λhb=>?_⟩
            . cases hb:bounded with
              |false=>have:=(hI.ub hb).1;omega
              |true=>
                rcases hlim with⟨hb',_⟩|⟨_,hg,_⟩
                . rw[hb]at hb';cases hb'
                . have:=ff (show(1:Int)<=least-low-1 by omega) (show 0<=step by omega);have:=(hI.bd hb).2.2;omega
            . rcases hlim with⟨_,rfl⟩|⟨hb',_⟩
              . exact⟨by omega,(hI.ub hb).2⟩
              . rw[hb]at hb';cases hb'
            . obtain⟨b1,b2,b3⟩:=hI.bd hb;refine⟨b1,b2,?_⟩;rcases hlim with⟨hb',_⟩|⟨_,hg,rfl⟩
              . rw[hb]at hb';cases hb'
              . have hf:=mb (a:=low+least) (p:=2) (by decide);have hgt:=b1 _ hx;have h5:=ff (show 2*(vf x v-low-1)<=least-low-1 by omega) (show 0<=step by omega);have e:(step+step)*(vf x v-low-1)=step*(2*(vf x v-low-1)):=by grind
                omega
          . have hx:mn n v sys (vf x v):=⟨x,xl,λq hq=>xs q (rP _ hq),rfl⟩;have hle:vf x v<=limit:=by
              have:=xs _ (o8 _ (cG.2 rfl));unfold eX at this;rw[xq hv,rR]at this;exact this
            have hxl:=hlow' _ hx;cases hb:bounded with
            |false=>simp only[lr,if_false];omega
            |true=>
              have:=(hI.bd hb).1 _ hx;simp only[if_true];omega
        |gG p hp=>
          have hno:∀k,mn n v sys k->limit<k:=by
            rintro k ⟨x,xl,xs,rfl⟩;refine Int.not_le.1 λhle=>hp.sound (vf x) λq hq=>?_;rcases fe.1 hq with hq|hq
            . exact xs q hq
            . rw[cG.1 hq];unfold eX;rw[xq hv,rR];exact hle
          refine cD (by show¬(1:Int)=0;decide) (aI (.inl ⟨least,limit,true,step,rfl,⟨hI.att,hhi,hs1,hs2,λe=>(by cases e),λ_=>⟨hno,hlim2.1,?_⟩⟩,?_⟩))
          . rcases hlim with⟨hb,rfl⟩|⟨hb,hg,rfl⟩
            . have h4:=(hI.ub hb).1;have:=mW h4 (show step-1<=4*W by omega) (by omega) (by omega);have e:step*(least-(least-step)-1)=step*(step-1):=by congr 1;omega
              have e2:4*W*(4*W)=16*(W*W):=by grind
              omega
            . have hf:=mb (a:=low+least) (p:=2) (by decide);have h5:=ff (show least-(low+least).fdiv 2-1<=least-low-1 by omega) (show 0<=step by omega);have:=(hI.bd hb).2.2;omega
          . rcases hlim with⟨hb,rfl⟩|⟨hb,hg,rfl⟩
            . have h4:=(hI.ub hb).1;rw[hb];simp only[if_true,lr,if_false];omega
            . have hf:=mb (a:=low+least) (p:=2) (by decide);rw[hb];simp only[if_true];omega
      . refine aI (.inr ⟨rfl,λk' hk'=>?_⟩);have:=(hI.bd hb).1 k' hk';omega
  . rintro _ (⟨least',low',bounded',step',rfl,hI',hμ⟩|⟨rfl,hmin⟩)
    . exact aI ⟨(least',low',bounded',step'),⟨rfl,hI'⟩,hμ⟩
    . exact aI ⟨least,rfl,dle,hI.att,hmin⟩
end
inductive zJ (n v:Nat)(l:List Constraint):aC×Bool->Prop where
 |none (h:¬Ah n l):zJ n v l (aC.mk false [],false)
 |ML (x:List Int) (z:List Int) (hx:x.length=n) (hs:kL l x) (hz:∀q∈oe n v (gU n l),eX n (vf z) q):zJ n v l (aC.mk false [],false)
 |least (k:Int) (hd:dl k<=950022) (x:List Int) (hx:x.length=n) (hs:kL l x) (hk:vf x v=k) (hm:∀x:List Int,x.length=n->kL l x->k<=vf x v):zJ n v l (B k,true)
theorem TX{n v:Nat}{l:List Constraint}(h:jv n l)(h6:l.length<=6)(hv:v<n):Tm (λN=>wC N (n:Int) l (v:Int)) (zJ n v l):=by
 have hS:=h.sys;have hSl:(gU n l).length<=12:=by have:=E9 (n:=n) (l:=l);omega
 unfold wC;refine aV (a:=(gU n l).map AQ.to) ((J3 h.okc (by omega)).mono λr hr=>hr.uniq (Gz h.right)) (Tm.bind (AJ hS) ?_);intro r hr;cases hr with
 |gG p hp=>
  refine aV (a:=true) (cR (by show(1:Int)≠0;decide) (aI rfl)) (cR rfl (aI (.none (HR h.right hp))))
 |solved x xl xd xs=>
  refine Tm.bind (Q:=λb:Bool=>(b=true/\∃z:List Int,∀q∈oe n v (gU n l),eX n (vf z) q)\/(b=false/\¬∃z:Nat->Int,∀q∈oe n v (gU n l),eX n z q)) (cD (by show¬(0:Int)≠0;decide) (Tm.bind (QK hS hSl hv) λr hr=>aI hr)) ?_;have hxs:=(sat_iff xl h.right).1 xs;rintro b (⟨rfl,z,hz⟩|⟨rfl,hno⟩)
  . exact cR rfl (aI (.ML x z xl hxs hz))
  . refine cD (by simp) (aV (iO (by decide) (by decide)) (aL (eD (l:=x) (by omega)) ?_));have hrow:∀q∈gU n l,q.c.length=n/\(∀w∈q.c,w.natAbs<=50)/\q.b.natAbs<=18446744073709551616:=λq hq=>by
     obtain⟨a,b,c⟩:=hS.q q hq;refine⟨a,b,?_⟩;have h1:=rB q.b;have h2:=wx c;have h3:aE^2=18446744073709551616:=by decide
     omega
    have hlow:∀k,mn n v (gU n l) k→-(2^200)<=k:=by
     rintro k ⟨y,yl,ys,rfl⟩;exact PV h.hn hv hrow hno ys
    refine Tm.bind (OX hS hSl hv hlow ⟨x,xl,xs,rfl⟩ (bU (xd _ (gz (by omega))) (by decide))) ?_;rintro _ ⟨k,rfl,hd,⟨y,yl,ys,yk⟩,hmin⟩;exact aI (.least k hd y yl ((sat_iff yl h.right).1 ys) yk λw wl ws=>hmin _ ⟨w,wl,(sat_iff wl h.right).2 ws,rfl⟩)
end Go.D

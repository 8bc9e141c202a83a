/- Plain theorems and definitions of this seat, several texts in one. -/
import Derived.Test.YtipdkfmhfakbnaaGreatDoorAe
import Derived.Test.YtipdkfmhfakbnaaGreatDoorAd
import Derived.KernelRfl
import Derived.Shelf.Strings.Builder1
import Derived.Shelf.Strings.Builder2
import Derived.Shelf.Strings.OnBuilder
import Derived.Shelf.Small.Bits
import Derived.Shelf.Strings.BuilderF
import Derived.Shelf.Strconv.Itoa0
import Derived.Shelf.Strconv.Itoa1
import Derived.Shelf.LaysM
import Derived.Shelf.Strconv.Itoa2
import Derived.Shelf.Strings.Prefix
import Derived.Shelf.Bits.Mul64
import Derived.Shelf.Strings.Repeat
import Derived.Ground.Names2Prog
import Derived.Shelf.Slices.ReverseS
import Derived.Shelf.Slices.Clone
import Derived.Shelf.Slices.Cells
import Derived.Ground.SlgnProg
import Derived.Shelf.SlicesE.Clone
import Derived.Test.YtipdkfmhfakbnaaGreatDoorProg
import Derived.Shelf.Strconv.Itoa3
import Derived.Lib.AppendIntMem
import Derived.Test.YtipdkfmhfakbnaaGreatDoorAb
import Derived.Test.YtipdkfmhfakbnaaGreatDoorAc
import Derived.RangeFuncNested
import Derived.RangeFuncLeaves
import Derived.TacticsIn
import Derived.LoopNIn
set_option linter.unusedVariables false
set_option linter.unusedSimpArgs false
set_option linter.unusedSectionVars false
set_option maxHeartbeats 1000000
namespace Go.D
open Go Go.X
theorem Kf{α:Type}{a c:α->Int}:∀{U:List α},(∀x∈U,0<a x)->∃z:Int,∀x∈U,a x*z<=c x
 |[],_=>⟨0,fun x hx=>by cases hx⟩
 |u::U,h=>by
  obtain⟨z,hz⟩:=Kf (c:=c) (U:=U) fun x hx=>h x (cH _ hx);have hu:=h u cK;refine⟨min z ((c u).fdiv (a u)),fun x hx=>?_⟩;rcases dY.1 hx with rfl|hx
  . have h1:=pQ (a:=c x) hu;have h2:=gg (Int.min_le_right z ((c x).fdiv (a x))) (dZ hu);rw[fE (a x) ((c x).fdiv (a x))]at h2;omega
  . have h1:=hz x hx;have h2:=gg (Int.min_le_left z ((c u).fdiv (a u))) (dZ (h x (cH _ hx)));omega
theorem J3{α:Type}{b d:α->Int}:∀{W:List α},W≠[]->(∀x∈W,0<b x)->∃z:Int,(∀x∈W,d x<=b x*z)/\∃x∈W,b x*z<=d x+b x-1
 |[],h0,_=>absurd rfl h0
 |w::W,_,h=>by
  have hw:=h w cK;have h1:=pQ (a:=-d w) hw;generalize hq:(-d w).fdiv (b w)=q at h1;have e1:b w*-q=-(q*b w):=by rw[nj,fE]
  by_cases hW:W=[]
  . subst hW;exact⟨-q,fun x hx=>by rw[cL.1 hx];omega,w,cK,by omega⟩
  . obtain⟨z,hz,x,hx,hxz⟩:=J3 (d:=d) hW fun x hx=>h x (cH _ hx);rcases vL (-q) z with hc|hc
    . refine⟨z,fun y hy=>?_,x,cH _ hx,hxz⟩;rcases dY.1 hy with rfl|hy
      . have:=gg hc (dZ hw);omega
      . exact hz y hy
    . refine⟨-q,fun y hy=>?_,w,cK,by omega⟩;rcases dY.1 hy with rfl|hy
      . omega
      . have:=gg hc (dZ (h y (cH _ hy)));have:=hz y hy;omega
theorem Rw{α:Type}{U W:List α}{a c b d:α->Int}(ha:∀x∈U,0<a x)(hb:∀w∈W,0<b w)(h:∀x∈U,∀w∈W,(a x-1)*(b w-1)<=b w*c x-a x*d w):
 ∃z:Int,(∀x∈U,a x*z<=c x)/\∀w∈W,d w<=b w*z:=by
 by_cases hW:W=[]
 . subst hW;obtain⟨z,hz⟩:=Kf (c:=c) ha;exact⟨z,hz,fun w hw=>by cases hw⟩
 . obtain⟨z,hz,w,hw,hwz⟩:=J3 (d:=d) hW hb;refine⟨z,fun x hx=>?_,hz⟩;have h1:=h x hx w hw;have hap:=ha x hx;have hbp:=hb w hw;have h2:=gg hwz (dZ hap);have e1:a x*(b w*z)=b w*(a x*z):=by grind
   have e2:a x*(d w+b w-1)=a x*d w+a x*b w-a x:=by grind
   have e3:(a x-1)*(b w-1)=a x*b w-a x-b w+1:=by grind
   have h3:b w*(a x*z)<b w*(c x+1):=by rw[vJ,yq];omega
   have:=F9 h3 (dZ hbp);omega
def fw(s:St)(v:Nat)(dz:Bool)(ats:List Nat):St:={s with status:=s.status.set v 2,items:=s.items.filter (fun x=>!decide (vf x.g v≠0)),stack:=s.stack++[⟨v,ats,dz⟩]}
def ff(s:St)(v:Nat):List Nat:=(cx v s.items++dh v s.items).map AI.pos
theorem Sy(s:St)(v:Nat)(dz:Bool):eG s v dz=fw s v dz (ff s v):=rfl
theorem qF{s:St}{v:Nat}{t:Bool}{ats:List Nat}{x:AI}:x∈(fw s v t ats).items↔x∈s.items/\vf x.g v=0:=by
 show x∈s.items.filter _↔_;simp[FO]
def vM(s:St)(v:Nat)(ats:List Nat):Prop:=∀p∈ats,p<s.known.length/\(∀j,j<s.n->vf s.status j≠0->cu s.u s.n (aI s.known p).c j=0)/\cu s.u s.n (aI s.known p).c v≠0
theorem GZ{s:St}{v:Nat}(hI:Inv s)(hv:v<s.n):vM s v (ff s v):=by
 intro p hp;obtain⟨x,hx,rfl⟩:=dL.1 hp;have hx':x∈s.items/\vf x.g v≠0:=by
  rcases fN.1 hx with h|h
  . have:=j3.1 h;exact⟨this.1,by omega⟩
  . have:=gV.1 h;exact⟨this.1,by omega⟩
 refine⟨(hI.it x hx'.1).1,fun j hj hst=>?_,?_⟩
 . rw[<-hI.dd x hx'.1 j hj];exact hI.nf x hx'.1 j hj hst
 . rw[<-hI.dd x hx'.1 v hv];exact hx'.2
section
variable {s:St} {v:Nat} {t:Bool} {ats:List Nat}
theorem pL(hI:Inv s)(hv:v<s.n)(j:Nat):vf (fw s v t ats).status j=if v=j then 2 else vf s.status j:=jO (by rw[hI.fV];exact hv)
theorem Inv.fw(hI:Inv s)(hv:v<s.n)(hst:vf s.status v=0)(ha:vM s v ats):Inv (fw s v t ats)where
 ul:=hI.ul
 fV:=by show(s.status.set v 2).length=_;rw[iO];exact hI.fV
 vl:=hI.vl
 kl:=hI.kl
 it x hx:=hI.it x (qF.1 hx).1
 dd x hx:=hI.dd x (qF.1 hx).1
 nf x hx j hj h:=by
  rw[pL hI hv]at h;by_cases e:v=j
  . subst e;exact(qF.1 hx).2
  . rw[if_neg e]at h;exact hI.nf x (qF.1 hx).1 j hj h
 gz x hx:=hI.gz x (qF.1 hx).1
 kh:=List.Pairwise.filter _ hI.kh
 jZ:=hI.jZ
 stat j hj:=by
  rw[pL hI hv];split
  . exact .inr (.inr rfl)
  . exact hI.stat j hj
 sv e he:=by
  rcases fN.1 he with he|he
  . obtain⟨e1,e2,e3⟩:=hI.sv e he;refine⟨e1,?_,e3⟩;rw[pL hI hv];split
    . rfl
    . exact e2
  . rw[cL.1 he];exact⟨hv,by rw[pL hI hv,if_pos rfl],fun p hp=>(ha p hp).1⟩
 s2 j hj h:=by
  rw[pL hI hv]at h;by_cases e:v=j
  . exact⟨_,vI _ (cL.2 rfl),e⟩
  . rw[if_neg e]at h;obtain⟨e',he',hv'⟩:=hI.s2 j hj h;exact⟨e',BV _ he',hv'⟩
 sd:=by
  refine List.pairwise_append.2 ⟨hI.sd,List.pairwise_singleton _ _,fun a ha' b hb=>?_⟩;rw[cL.1 hb];obtain⟨a1,a2,_⟩:=hI.sv a ha';refine⟨fun e=>?_,fun p hp=>(ha p hp).2.1 a.v a1 (by omega)⟩;have e:a.v=v:=e;rw[e,hst]at a2;omega
theorem Lv{n:Nat}{x y:AI}:(comb n v x y).length=n:=eZ
theorem Bl{n j:Nat}{x y:AI}(hj:j<n):vf (comb n v x y) j=-vf y.g v*vf x.g j+vf x.g v*vf y.g j:=dJ hj
theorem H7{a b:Int}{A B:Nat}(ha:a.natAbs<=A)(hb:b.natAbs<=B):(a*b).natAbs<=A*B:=by rw[yr];exact iN ha hb
theorem Kl{Kk C:Nat}(hI:Inv s)(hs:gu Kk s)(hv:v<s.n)(hC:∀x∈s.items,∀j,j<s.n->(vf x.g j).natAbs<=C)(hCb:C<=4294967296):
 ∀a∈cT s v,(kM Kk (fw s v t ats) a/\wW (4*(C*C)) a)/\mv Kk (fw s v t ats) a:=by
 intro a ha;obtain⟨x,hx,y,hy,rfl⟩:=HX.1 ha;obtain⟨hxm,hxv⟩:=j3.1 hx;obtain⟨hym,hyv⟩:=gV.1 hy;obtain⟨x1,x2⟩:=hI.it x hxm;obtain⟨y1,y2⟩:=hI.it y hym;have hC2:C*C<=4294967296*4294967296:=iN hCb hCb;have hb:∀j,j<s.n->(vf (comb s.n v x y) j).natAbs<=2*(C*C):=fun j hj=>by
  rw[Bl hj];have h1:=H7 (a:=-vf y.g v) (b:=vf x.g j) (A:=C) (B:=C) (by rw[B8];exact hC y hym v hv) (hC x hxm j hj);have h2:=H7 (hC x hxm v hv) (hC y hym j hj);omega
 have hgb:GB (4*(C*C)) (comb s.n v x y):=fun w hw=>by
  obtain⟨j,hj,rfl⟩:=gE hw;rw[Lv]at hj;have:=hb j hj;omega
 have hd4:∀w∈comb s.n v x y,dl w<=4:=fun w hw=>BE (BU (hgb w hw) (by omega));have hU:∀{z:AI} {m:Int},z∈s.items->0<=m->m.natAbs<=C->lV s.n Kk s.known ⟨z.pos,m⟩:=fun{z m} hz hm hmC=>by
  have h1:=(hI.it z hz).1;have h2:=hs.k _ (eK h1);exact⟨h1,hm,BE (show m.natAbs<_ by omega),h2.1,h2.2⟩
 have hP:gA Kk (fw s v t ats) (comb s.n v x y) [⟨x.pos,-vf y.g v⟩,⟨y.pos,vf x.g v⟩]:=⟨Lv,fun w hw=>bO (hd4 w hw) (by decide),by simp,by simp,fun u hu=>by
  rcases dY.1 hu with rfl|hu
  . exact hU hxm (by omega) (by rw[B8];exact hC y hym v hv)
  . rw[cL.1 hu];exact hU hym (by omega) (hC x hxm v hv)⟩
 refine⟨⟨hP,hgb⟩,hP,⟨fun j hj=>?_,fun j hj h=>?_⟩,?_⟩
 . have hj:j<s.n:=hj;rw[Bl hj];show _=cu s.u s.n (vec s.n (dU s.known _)) j;have e:cu s.u s.n (vec s.n (dU s.known [⟨x.pos,-vf y.g v⟩,⟨y.pos,vf x.g v⟩])) j=cu s.u s.n (vec s.n fun i=>-vf y.g v*vf (aI s.known x.pos).c i) j+vf x.g v*cu s.u s.n (aI s.known y.pos).c j:=Ac fun r hr=>by
    rw[dJ hr,dJ hr];show-vf y.g v*vf (aI s.known x.pos).c r+(vf x.g v*vf (aI s.known y.pos).c r+0)=_;omega
   have e2:cu s.u s.n (vec s.n fun i=>-vf y.g v*vf (aI s.known x.pos).c i) j=-vf y.g v*cu s.u s.n (aI s.known x.pos).c j:=BG fun r hr=>dJ hr;rw[e,e2,<-hI.dd x hxm j hj,<-hI.dd y hym j hj]
 . have hj:j<s.n:=hj;rw[pL hI hv]at h;rw[Bl hj];by_cases e:v=j
   . subst e;rw[lE,fE (vf x.g v)];omega
   . rw[if_neg e]at h;rw[hI.nf x hxm j hj h,hI.nf y hym j hj h];simp
 . unfold dv;split
   . exact bO jt (by decide)
   . exact uS hd4
def Bp(s:St)(v:Nat)(y:Nat->Int):Prop:=∀x∈cx v s.items,∀w∈dh v s.items,-vf w.g v*bE (vf x.g) y s.n+vf x.g v*bE (vf w.g) y s.n≤-vf w.g v*(aI s.known x.pos).b+vf x.g v*(aI s.known w.pos).b
theorem OT{n:Nat}{x w:AI}{y:Nat->Int}:bE (vf (comb n v x w)) y n=-vf w.g v*bE (vf x.g) y n+vf x.g v*bE (vf w.g) y n:=by
 rw[eF (f':=fun j=>-vf w.g v*vf x.g j+vf x.g v*vf w.g j) (g':=y) (fun j hj=>Bl hj) fun _ _=>rfl,u4,rj]
theorem IT{Kk M:Nat}{c:St}(hA:vW Kk M (fw s v t ats) (cT s v) true c){y:Nat->Int}(hy:∀z∈c.items,IH c y z):(∀z∈s.items,vf z.g v=0->IH s y z)/\Bp s v y:=by
 obtain⟨h1,h2⟩:=hA.imp rfl y hy;refine⟨fun z hz h0=>h1 z (qF.2 ⟨hz,h0⟩),fun x hx w hw=>?_⟩;have:bE (vf (comb s.n v x w)) y s.n≤-vf w.g v*(aI s.known x.pos).b+(vf x.g v*(aI s.known w.pos).b+0):=h2 (mu s.n v x w) (HX.2 ⟨x,hx,w,hw,rfl⟩);rw[OT]at this;omega
theorem Rm{s0 c:St}{Kk M:Nat}(hI0:Inv s0)(hI:Inv s)(hk:Kept s0 s)(hv:v<s.n)(hst:vf s.status v=0)
 (hcov:∀y,(∀x∈s.items,vf x.g v=0->IH s y x)->(∀p∈ats,hx s (ux s y) p)->∀x∈s0.items,IH s0 y x)
 (hats:vM s v ats)(hA:vW Kk M (fw s v t ats) (cT s v) true c):gT s0 c:=by
 obtain⟨e1,he1⟩:=hk.kn;obtain⟨e2,he2⟩:=hA.kept.kn;have he2:c.known=s.known++e2:=he2;have hn:c.n=s.n:=hA.kept.n;have hn0:s.n=s0.n:=hk.n;have hu:c.u=s.u:=hA.kept.u;have hux:∀y i,ux c y i=ux s y i:=fun y i=>by unfold ux;rw[hu,hn]
 have hux0:∀y i,ux s y i=ux s0 y i:=fun y i=>by unfold ux;rw[hk.u,hk.n]
 have hstat:∀j,vf c.status j=if v=j then 2 else vf s.status j:=fun j=>by rw[hA.kept.status];exact pL hI hv j
 have hstk:c.stack=s0.stack++[⟨v,ats,t⟩]:=by rw[hA.kept.dM,<-hk.dM];rfl
 refine⟨hn.trans hn0,⟨e1++e2,by rw[he2,he1,iZ]⟩,⟨_,hstk⟩,fun j hj hs=>?_,fun y=>⟨y,fun i _=>(hux y i).trans (hux0 y i),fun _ _ _=>rfl,fun k hkl ⟨h1,h2,h3⟩=>?_⟩⟩
 . have hvj:v≠j:=fun e=>hs (by rw[<-e,<-hk.status];exact hst);exact⟨by rw[hstat,if_neg hvj,hk.status],fun _=>by rw[hA.kept.value];show vf s.value j=_;rw[hk.value],fun i _=>by rw[hu,hk.u]⟩
 . obtain⟨g1,_⟩:=IT hA h2;have hats2:∀p∈ats,hx s (ux s y) p:=fun p hp=>by
    have h4:=h3 ⟨v,ats,t⟩ (by rw[hstk,BT hkl];simp) p hp;exact(rI hn he2 (hats p hp).1 fun i _=>hux y i).1 h4
   refine⟨fun j hj hs=>?_,hcov y g1 hats2,fun e' he' p hp=>?_⟩
   . have hvj:v≠j:=fun e=>by rw[<-e,<-hk.status,hst]at hs;omega
     have:=h1 j (by rw[hn,hn0];exact hj) (by rw[hstat,if_neg hvj,hk.status];exact hs);rw[this,hA.kept.value];show vf s.value j=_;rw[hk.value]
   . have h4:=h3 e' (by rw[hstk,BT hkl];exact BV _ he') p hp;exact(rI (hn.trans hn0) (e:=e1++e2) (by rw[he2,he1,iZ]) ((hI0.sv e' (FZ he')).2.2 p hp) fun i _=>(hux y i).trans (hux0 y i)).1 h4
theorem OK{c:St}{Kk M k:Nat}(hI:Inv s)(hv:v<s.n)(hats:vM s v ats)(hA:vW Kk M (fw s v t ats) (cT s v) true c)(hz:∀y,Bp s v y->∃z,∀p∈ats,hx s (ux s (cI y v z)) p):
 ∀y,Hs c y k->∃z,∀p∈ats,hx c (ux c (cI y v z)) p:=by
 intro y ⟨_,h2,_⟩;obtain⟨z,hz⟩:=hz y (IT hA h2).2;obtain⟨e2,he2⟩:=hA.kept.kn;have hn:c.n=s.n:=hA.kept.n;refine⟨z,fun p hp=>(rI hn he2 (hats p hp).1 fun i _=>?_).2 (hz p hp)⟩;unfold ux;rw[hA.kept.u,hn];rfl
theorem E5{x:AI}{y:Nat->Int}{z:Int}(hv:v<s.n):IH s (cI y v z) x↔vf x.g v*z<=(aI s.known x.pos).b-bE (vf x.g) y s.n+vf x.g v*y v:=by
 unfold IH;rw[tO hv,Int.mul_sub];omega
theorem HR{y:Nat->Int}(hv:v<s.n)(Wb:AI->Int)
 (h:∀x∈cx v s.items,∀w∈dh v s.items,(vf x.g v-1)*(-vf w.g v-1)<=(-vf w.g v*(aI s.known x.pos).b+vf x.g v*Wb w)-(-vf w.g v*bE (vf x.g) y s.n+vf x.g v*bE (vf w.g) y s.n)):
 ∃z,(∀x∈cx v s.items,IH s (cI y v z) x)/\∀w∈dh v s.items,vf w.g v*z<=Wb w-bE (vf w.g) y s.n+vf w.g v*y v:=by
 obtain⟨z,h1,h2⟩:=Rw (U:=cx v s.items) (W:=dh v s.items) (a:=fun x=>vf x.g v) (b:=fun w=>-vf w.g v) (c:=fun x=>(aI s.known x.pos).b-bE (vf x.g) y s.n+vf x.g v*y v) (d:=fun w=>-(Wb w-bE (vf w.g) y s.n+vf w.g v*y v))
  (fun x hx=>(j3.1 hx).2) (fun w hw=>by have:=(gV.1 hw).2;omega) (fun x hx w hw=>by
   have:=h x hx w hw;generalize vf x.g v=a at*;generalize vf w.g v=b at*;generalize(aI s.known x.pos).b=B at*;generalize bE (vf x.g) y s.n=X at*;generalize bE (vf w.g) y s.n=Y at*;grind)
 refine⟨z,fun x hx=>(E5 hv).2 (h1 x hx),fun w hw=>?_⟩;have:=h2 w hw;rw[lE]at this;omega
end
open Go Go.X
def yM(N:Nat)(s:aR)(x1:(List aB)):((List aB)×Int)->Option (aK ((List aB)×Int) (List aB))
 |(b,a)=>(if(a:Int)<(List.length x1:Int)then ((((idx s.status a).bind fun c=>(if(c:Int)=1 then (idx s.value a).bind fun d=>(idx b a).bind fun g=>(di b a d).bind fun e=>some e else some b)):Option (List aB))).bind fun ss=>match ss with
    |f=>some (aK.next (f,(iw (a+1)))) else some (aK.done b))
def nY(N:Nat)(s:aR):Nat->List aB->Bool
 |0,_=>true
 |k+1,y=>s.stack.all fun e=>match nt N s e y with
  |none=>false
  |some (n,ok)=>if ok then(match di y e.v n with
   |none=>false
   |some y=>nY N s k y)else true
def ia(N:Nat)(s:aR):List dI->List aB->Option (Sum (List aB) Int)
 |[],y=>some (.inl y)
 |e::r,y=>(nt N s e y).bind fun(n,ok)=>if ok then(di y e.v n).bind (ia N s r)else some (.inr e.v)
def sh(N:Nat)(s:aR):Option bX:=(fW (α:=aB) 32 (aB.mk false ([]:(List Int))) s.n).bind fun x1=>(bJ (yM N s x1) N (x1,0)).bind fun y=>if s.stack.length<=9223372036854775807/\nY N s s.stack.length y=true then (ia N s s.stack.reverse y).bind fun
  |.inr v=>some (bX.mk 2 [] (Proof.mk [] [] (aB.mk false []) []) v)
  |.inl y=>(pN N s y).bind fun x=>some (bX.mk 0 x (Proof.mk [] [] (aB.mk false []) []) 0) else none
def sC(N:Nat)(run:aR->Option bX)(self:aR->aX->aB->aB->Option bX)(s:aR)(low:aX)(k:aB)(most:aB):Option bX:=(iz N k most).bind fun r1=>(if(r1:Int)=0 then (p5 N s).bind fun r7=>(run r7).bind fun r8=>some r8 else (idx s.known low.pos).bind fun x9=>(mW N x9.aZ).bind fun f=>(jd N x9.dw).bind fun i=>(mD N s (bB.mk f i)).bind fun c=>(mW N low.g).bind fun j=>(kW N c (aX.mk (iw ((List.length c.known:Int)-1)) j)).bind fun b=>(run (aR.mk c.n b.known b.steps b.u b.status b.value b.items b.stack)).bind fun d=>(if(d.kind:Int)≠1 then some d else (fK N 1).bind fun l=>(iS N x9.dw l).bind fun m=>(mD N s (bB.mk x9.aZ m)).bind fun a=>(tU N a.items low.pos (iw ((List.length a.known:Int)-1))).bind fun o=>(fK N 1).bind fun p=>(iV N k p).bind fun v=>(self (aR.mk a.n a.known a.steps a.u a.status a.value o a.stack) (aX.mk (iw ((List.length a.known:Int)-1)) low.g) v most).bind fun e=>(if(e.kind:Int)≠1 then some e else (qz N s f i d e).bind fun y=>some y)))
def qw:Nat->(aR->Option bX)->aR->aX->aB->aB->Option bX
 |0=>fun _ _ _ _ _=>none
 |N+1=>fun run=>sC N run (qw N run)
def tW(N:Nat)(run:aR->Option bX)(self:aR->Int->(List aX)->(List Int)->Option bX)(v:Int)(r1:((List aX)×(List aX))):(List aX)->Option (aK (List aX) (List aX))
 |a=>((((if((List.length a:Int):Int)>0 then (idx a 0).bind fun b=>(oE N v b r1.1).bind fun c=>(gC N c).bind fun d=>some (decide ((d:Int)<0)) else some false)):Option Bool)).bind fun ss=>match ss with
   |e=>(if e=true then (cut a 1 (List.length a:Int)).bind fun f=>some (aK.next f) else some (aK.done a))
def pA(N:Nat)(run:aR->Option bX)(self:aR->Int->(List aX)->(List Int)->Option bX)(s:aR)(v:Int)(lows:(List aX))(vat3:(List Int)):Option bX:=(sM N s v).bind fun r1=>(bJ (tW N run self v r1) N lows).bind fun ss=>match ss with
  |d=>(if((List.length d:Int):Int)=0 then (p5 N s).bind fun i=>(nJ N i v false).bind fun a=>(idx a.2.stack (iw ((List.length a.2.stack:Int)-1))).bind fun o=>(di a.2.stack (iw ((List.length a.2.stack:Int)-1)) (dI.mk o.v vat3 o.dz)).bind fun p=>(if(!a.1)=true then (jy N (aR.mk i.n a.2.known a.2.steps a.2.u a.2.status a.2.value a.2.items p)).bind fun a1=>some a1 else (run (aR.mk i.n a.2.known a.2.steps a.2.u a.2.status a.2.value a.2.items p)).bind fun a2=>some a2) else (idx d 0).bind fun e=>(idx d 0).bind fun a3=>(oE N v a3 r1.1).bind fun j=>(idx s.known e.pos).bind fun f=>(mW N f.aZ).bind fun y=>(iS N f.dw j).bind fun a4=>(fK N 1).bind fun a5=>(iS N a4 a5).bind fun a6=>(mD N s (bB.mk f.aZ a6)).bind fun b=>(tU N b.items e.pos (iw ((List.length b.known:Int)-1))).bind fun a7=>(cut d 1 (List.length d:Int)).bind fun a8=>(self (aR.mk b.n b.known b.steps b.u b.status b.value a7 b.stack) v a8 vat3).bind fun k=>(if(k.kind:Int)≠1 then some k else (iS N j f.dw).bind fun a0=>(mD N s (bB.mk y a0)).bind fun l=>(mW N e.g).bind fun a9=>(kW N l (aX.mk (iw ((List.length l.known:Int)-1)) a9)).bind fun c=>(qw N run (aR.mk l.n c.known c.steps c.u c.status c.value c.items c.stack) e (aB.mk false ([]:(List Int))) j).bind fun m=>(if(m.kind:Int)≠1 then some m else (qz N s y a0 m k).bind fun aa=>some aa)))
def mA:Nat->(aR->Option bX)->aR->Int->(List aX)->(List Int)->Option bX
 |0=>fun _ _ _ _ _=>none
 |N+1=>fun run=>pA N run (mA N run)
def wi(N:Nat)(run:aR->Option bX)(s:aR)(c:gJ):Option bX:=(iV N c.low c.high).bind fun r1=>(fK N 2).bind fun r2=>(kx N r1 r2).bind fun r3=>(idx s.known c.up.pos).bind fun x4=>(mD N s (bB.mk x4.aZ r3.1)).bind fun r5=>(kW N r5 (aX.mk (iw ((List.length r5.known:Int)-1)) c.up.g)).bind fun r6=>(run (aR.mk r5.n r6.known r6.steps r6.u r6.status r6.value r6.items r6.stack)).bind fun r7=>(if(r7.kind:Int)≠1 then some r7 else (mW N x4.aZ).bind fun e=>(jd N r3.1).bind fun f=>(fK N 1).bind fun i=>(iS N f i).bind fun j=>(mD N s (bB.mk e j)).bind fun b=>(mW N c.up.g).bind fun k=>(kW N b (aX.mk (iw ((List.length b.known:Int)-1)) k)).bind fun a=>(run (aR.mk b.n a.known a.steps a.u a.status a.value a.items a.stack)).bind fun d=>(if(d.kind:Int)≠1 then some d else (qz N s x4.aZ r3.1 r7 d).bind fun l=>some l))
def Dd(N:Nat)(run:aR->Option bX)(b:(List aX)):((List Int)×Int)->Option (aK ((List Int)×Int) (List Int))
 |(c,a)=>(if(a:Int)<(List.length b:Int)then (idx b a).bind fun d=>(cS 8 c [d.pos]).bind fun e=>some (aK.next (e,(iw (a+1)))) else some (aK.done c))
def vz(N:Nat)(run:aR->Option bX)(s:aR)(v:Int):Option bX:=(wF N s).bind fun r1=>((((if r1.2=true then (iS N r1.1.high r1.1.low).bind fun e=>((((fK N 64).bind fun f=>(iz N e f).bind fun g=>(if(g:Int)<=0 then (xS N s v).bind fun i=>(iz N e i).bind fun j=>some (decide ((j:Int)<0)) else some false)):Option Bool)).bind fun ss=>match ss with
   |k=>(if k=true then (wi N run s r1.1).bind fun l=>some (Sum.inr l) else some (Sum.inl ())) else some (Sum.inl ()))):Option (Sum Unit bX))).bind fun ss=>match ss with
  |(Sum.inl _)=>(p5 N s).bind fun b=>(nJ N b v true).bind fun a=>(if(!a.1)=true then (jy N (aR.mk b.n a.2.known a.2.steps a.2.u a.2.status a.2.value a.2.items a.2.stack)).bind fun m=>some m else (run (aR.mk b.n a.2.known a.2.steps a.2.u a.2.status a.2.value a.2.items a.2.stack)).bind fun c=>((((if(c.kind:Int)≠2 then some true else some (decide ((c.v:Int)≠v)))):Option Bool)).bind fun ss=>match ss with
     |o=>(if o=true then some c else (sM N s v).bind fun d=>(tA N [d.1,d.2]).bind fun p=>(bJ (Dd N run p) N (([]:(List Int)),0)).bind fun ss=>match ss with
        |y=>(mA N run s v d.2 y).bind fun a0=>some a0))
  |(Sum.inr z)=>some z
def uc(N:Nat)(self:aR->Option bX)(s:aR):((List bB)×(List Step)×(List (List aB))×(List Int)×(List aB)×(List aX)×(List dI))->Option (aK ((List bB)×(List Step)×(List (List aB))×(List Int)×(List aB)×(List aX)×(List dI)) bX)
 |(e,f,g,i,j,k,l)=>(uZ N (aR.mk s.n e f g i j k l)).bind fun a=>(if(!a.2.2.2.1)=true then (jy N (aR.mk s.n a.2.2.2.2.known a.2.2.2.2.steps a.2.2.2.2.u a.2.2.2.2.status a.2.2.2.2.value a.2.2.2.2.items a.2.2.2.2.stack)).bind fun m=>some (aK.done m) else (if a.2.2.1=true then (rA N (aR.mk s.n a.2.2.2.2.known a.2.2.2.2.steps a.2.2.2.2.u a.2.2.2.2.status a.2.2.2.2.value a.2.2.2.2.items a.2.2.2.2.stack) a.1 a.2.1).bind fun b=>(if(!b.1)=true then (jy N (aR.mk s.n b.2.known b.2.steps b.2.u b.2.status b.2.value b.2.items b.2.stack)).bind fun o=>some (aK.done o) else some (aK.next (b.2.known,b.2.steps,b.2.u,b.2.status,b.2.value,b.2.items,b.2.stack))) else (tN N (aR.mk s.n a.2.2.2.2.known a.2.2.2.2.steps a.2.2.2.2.u a.2.2.2.2.status a.2.2.2.2.value a.2.2.2.2.items a.2.2.2.2.stack)).bind fun d=>(if(!d.2)=true then (sh N (aR.mk s.n a.2.2.2.2.known a.2.2.2.2.steps a.2.2.2.2.u a.2.2.2.2.status a.2.2.2.2.value a.2.2.2.2.items a.2.2.2.2.stack)).bind fun p=>some (aK.done p) else (uH N (aR.mk s.n a.2.2.2.2.known a.2.2.2.2.steps a.2.2.2.2.u a.2.2.2.2.status a.2.2.2.2.value a.2.2.2.2.items a.2.2.2.2.stack) d.1).bind fun v=>(if(!v)=true then (vz N self (aR.mk s.n a.2.2.2.2.known a.2.2.2.2.steps a.2.2.2.2.u a.2.2.2.2.status a.2.2.2.2.value a.2.2.2.2.items a.2.2.2.2.stack) d.1).bind fun y=>some (aK.done y) else (nJ N (aR.mk s.n a.2.2.2.2.known a.2.2.2.2.steps a.2.2.2.2.u a.2.2.2.2.status a.2.2.2.2.value a.2.2.2.2.items a.2.2.2.2.stack) d.1 false).bind fun c=>(if(!c.1)=true then (jy N (aR.mk s.n c.2.known c.2.steps c.2.u c.2.status c.2.value c.2.items c.2.stack)).bind fun a0=>some (aK.done a0) else some (aK.next (c.2.known,c.2.steps,c.2.u,c.2.status,c.2.value,c.2.items,c.2.stack)))))))
def wz(N:Nat)(self:aR->Option bX)(s:aR):Option bX:=(bJ (uc N self s) N (s.known,s.steps,s.u,s.status,s.value,s.items,s.stack)).bind fun ss=>match ss with
  |z=>some z
def jQ:Nat->aR->Option bX
 |0=>fun _=>none
 |N+1=>wz N (jQ N)
def qC(N:Nat)(n:Int)(system:(List bB)):Option bX:=(xX N n system).bind fun r1=>(uk N r1).bind fun r2=>(if(!r2.1)=true then (jy N (aR.mk r1.n r2.2.known r2.2.steps r2.2.u r2.2.status r2.2.value r2.2.items r2.2.stack)).bind fun r7=>some r7 else (jQ N (aR.mk r1.n r2.2.known r2.2.steps r2.2.u r2.2.status r2.2.value r2.2.items r2.2.stack)).bind fun r8=>some r8)
def qg(N:Nat)(n:Int)(l:(List Constraint)):Option ((List aB)×Proof×Bool):=(uQ N l n).bind fun r1=>(qC N n r1).bind fun r2=>(if(r2.kind:Int)=0 then some (r2.x,(Proof.mk ([]:(List Step)) ([]:(List aB)) (aB.mk false ([]:(List Int))) ([]:(List Proof))),true) else some (([]:(List aB)),r2.proof,false))
def Hq(N:Nat)(system:(List bB)):((List bB)×Int)->Option (aK ((List bB)×Int) (List bB))
 |(b,a)=>(if(a:Int)<(List.length system:Int)then (idx system a).bind fun c=>(cS 56 b [(bB.mk c.aZ (aB.mk false ([]:(List Int))))]).bind fun d=>some (aK.next (d,(iw (a+1)))) else some (aK.done b))
def EU(N:Nat)(n:Int)(system:(List bB))(v:Int):Option Bool:=(bJ (Hq N system) N (([]:(List bB)),0)).bind fun ss=>match ss with
  |a=>(fK N (-1)).bind fun b=>(Bz N n v 1 b).bind fun c=>(cS 56 a [c]).bind fun d=>(qC N n d).bind fun e=>some (decide ((e.kind:Int)=0))
def HK(N:Nat)(n:Int)(v:Int)(g:aB)(r1:(List bB)):(aB×aB×Bool×aB)->Option (aK (aB×aB×Bool×aB) (aB×Bool))
 |(a,c,d,b)=>((((iS N a b).bind fun i=>((((if d=true then (iV N c a).bind fun j=>(fK N 2).bind fun k=>(kx N j k).bind fun l=>(iS N a c).bind fun m=>(iz N m g).bind fun o=>(if(o:Int)<=0 then some (Sum.inr (a,true)) else some (Sum.inl l.1)) else some (Sum.inl i))):Option (Sum aB (aB×Bool)))).bind fun ss=>match ss with
   |(Sum.inl e)=>(zB N r1).bind fun p=>(Bz N n v 1 e).bind fun s=>(cS 56 p [s]).bind fun u=>(qC N n u).bind fun f=>(if(f.kind:Int)=0 then (idx f.x v).bind fun y=>(iV N b b).bind fun a0=>some (Sum.inl (y,c,d,a0)) else some (Sum.inl (a,e,true,b)))
   |(Sum.inr z)=>some (Sum.inr z)):Option (Sum (aB×aB×Bool×aB) (aB×Bool)))).bind fun ss=>match ss with
   |(Sum.inl (a1,a2,a3,a4))=>some (aK.next (a1,a2,a3,a4))
   |(Sum.inr z)=>some (aK.done z)
def Dx(N:Nat)(n:Int)(l:(List Constraint))(v:Int):Option (aB×Bool):=(uQ N l n).bind fun r1=>(qC N n r1).bind fun r2=>((((if(r2.kind:Int)≠0 then some true else (EU N n r1 v).bind fun b=>some b)):Option Bool)).bind fun ss=>match ss with
  |x6=>(if x6=true then some ((aB.mk false ([]:(List Int))),false) else (fK N 1).bind fun a=>(idx r2.x v).bind fun c=>(bJ (HK N n v a r1) N (c,(aB.mk false ([]:(List Int))),false,a)).bind fun ss=>match ss with
     |z=>some z)
end Go.D
set_option maxHeartbeats 1000000
namespace Go.D
open Go Go.X
structure jY (K Ku:Nat)(s:St):Prop where
 n:s.n<=4
 hK:K<=536870912
 nK:Ku<=17179869184
 u:SU Ku s
 k:∀q∈s.known,fA K q/\q.c.length=s.n
 kl:s.known.length<=1073741824
theorem rP{f g:Nat->Int}{A B:Nat}(hf:∀j,dl (f j)<=A)(hg:∀j,dl (g j)<=B):∀n,dl (bE f g n)<=A+B+n
 |0=>by show dl 0<=_;rw[ie];omega
 |n+1=>by
  have h1:=rP hf hg n;have h2:=j5 (f n) (g n);have:=hf n;have:=hg n;exact oK (K:=A+B+n) h1 (by omega)
section
variable {K Ku:Nat} {s:St}
theorem jY.mx(h:jY K Ku s)(i j:Nat):dl (mx s.u i j)<=Ku:=by
 unfold D.mx;rcases cv i s.u.length with hi|hi
 . rw[cy,bV hi];exact(h.u.u.2 _ (du hi)).vf j
 . rw[cy,fM hi];show dl (vf [] j)<=_;rw[mG (by simp),ie];omega
theorem jY.q(h:jY K Ku s)(p j:Nat):dl (vf (aI s.known p).c j)<=K:=by
 rcases cv p s.known.length with hp|hp
 . exact(h.k _ (eK hp)).1.vf j
 . unfold aI;rw[cy,fM hp];show dl (vf [] j)<=_;rw[mG (by simp),ie];omega
theorem jY.cu(h:jY K Ku s)(p j:Nat):dl (cu s.u s.n (aI s.known p).c j)<=K+Ku+4:=by
 have:=rP (f:=vf (aI s.known p).c) (g:=fun i=>D.mx s.u i j) (h.q p) (fun i=>h.mx i j) s.n;have:=h.n;show dl (bE _ _ _)<=_;omega
theorem GY(h:jY K Ku s){i:Nat}(hi:i<s.n):∃r:List Int,idx s.to.u (i:Int)=some (mB r)/\r.length=s.n/\∀j,vf r j=mx s.u i j:=by
 have hl:i<s.u.length:=by rw[h.u.u.1];exact hi
 refine⟨s.u[i],?_,(h.u.u.2 _ (du hl)).1,fun j=>?_⟩
 . show idx (s.u.map mB) _=_;rw[de (by simpa using hl),kK]
 . unfold mx;rw[cy,bV hl];rfl
theorem KN(h:jY K Ku s){p j:Nat}(hp:p<s.known.length)(hj:j<s.n):Tm (fun N=>uY N s.to (p:Int) (j:Int)) (·=B (cu s.u s.n (aI s.known p).c j)):=by
 have hL:cX=1099511627776:=rfl;have hK:=h.hK;have nK:=h.nK;have hn:=h.n;have hql:=(h.k _ (eK hp)).2;unfold uY;refine aN (nM hp) ?_;refine aU (a:=B (cu s.u s.n (aI s.known p).c j)) (eL s.n (fun k t=>t=(B (bE (vf (aI s.known p).c) (fun i=>mx s.u i j) k),(k:Int))) (by show(_,_)=_;rw[show bE _ _ 0=0 from rfl,B0];rfl) ?_) (aM rfl);rintro k hk _ rfl;dsimp only[Ci];have hcl:(aI s.known p).to.aZ.length=s.n:=(dG _).trans hql;rw[hcl];refine aY (fun hlt=>?_) (fun hge=>aM ?_)
 . have hlt:k<s.n:=by omega
   obtain⟨r,hr,hrl,hrv⟩:=GY h hlt;have d1:=h.q p k;have d2:=h.mx k j;have d3:=rP (f:=vf (aI s.known p).c) (g:=fun i=>mx s.u i j) (h.q p) (fun i=>h.mx i j) k;have d4:=j5 (vf (aI s.known p).c k) (mx s.u k j);refine aN (ei (l:=(aI s.known p).c) (by omega)) (aN hr (aN (ei (l:=r) (by omega)) ?_));rw[hrv];exact aU (nB (by omega) (by omega)) (aU (mC (by omega) (by omega)) (aM ⟨hlt,by rw[ep (by omega)];rfl⟩))
 . have:k=s.n:=by omega
   subst this;rfl
def rst(s:St)(v:Nat)(y:Nat->Int)(p:Nat):Int:=(aI s.known p).b-bE (cu s.u s.n (aI s.known p).c) (cI y v 0) s.n
theorem R8{y:Nat->Int}{v:Nat}{z w:Int}:cI (cI y v z) v w=cI y v w:=by
 funext j;unfold cI;split<;>rfl
theorem Pg{v p:Nat}{y:Nat->Int}{z:Int}(hv:v<s.n):hx s (ux s (cI y v z)) p↔cu s.u s.n (aI s.known p).c v*z<=rst s v y p:=by
 unfold hx rst;rw[zH];have h:=tO (f:=cu s.u s.n (aI s.known p).c) (y:=cI y v 0) (z:=z) hv;rw[R8]at h;rw[h];have:cI y v 0 v=0:=by unfold cI;rw[if_pos rfl]
 rw[this,Gi];omega
theorem IZ{y:Nat->Int}{v D:Nat}(hy:∀j,dl (y j)<=D)(j:Nat):dl (cI y v 0 j)<=D:=by
 unfold cI;split
 . rw[ie];omega
 . exact hy j
theorem Py(h:jY K Ku s){v p D:Nat}{y:Nat->Int}(hp:p<s.known.length)(hy:∀j,dl (y j)<=D):dl (rst s v y p)<=K+Ku+D+9:=by
 have hn:=h.n;have h1:=rP (f:=cu s.u s.n (aI s.known p).c) (g:=cI y v 0) (fun j=>h.cu p j) (IZ hy) s.n;have h2:=(h.k _ (eK hp)).1.2;exact jG (K:=K+Ku+D+8) (by omega) (by omega)
theorem QT(h:jY K Ku s){e:dI}{v p D:Nat}{y:List Int}(hev:e.v=(v:Int))(hp:p<s.known.length)(hyl:y.length=s.n)(hy:∀j,dl (vf y j)<=D)(hD:D<=549755813888):
 Tm (fun N=>bJ (A6 N s.to e (mB y) (p:Int)) N (B (aI s.known p).b,0)) (·=B (rst s v (vf y) p)):=by
 have hL:cX=1099511627776:=rfl;have hK:=h.hK;have nK:=h.nK;have hn:=h.n;refine(eL s.n (fun k t=>t=(B ((aI s.known p).b-bE (cu s.u s.n (aI s.known p).c) (cI (vf y) v 0) k),(k:Int))) (by rw[show bE (cu s.u s.n (aI s.known p).c) (cI (vf y) v 0) 0=0 from rfl,Gi];rfl) ?_);rintro k hk _ rfl;dsimp only[A6];rw[dG,hyl];refine aY (fun hlt=>?_) (fun hge=>aM ?_)
 . have hlt:k<s.n:=by omega
   have d1:=h.cu p k;have d2:=hy k;have d3:=rP (f:=cu s.u s.n (aI s.known p).c) (g:=cI (vf y) v 0) (fun j=>h.cu p j) (IZ hy) k;have d4:=(h.k _ (eK hp)).1.2;have d5:=j5 (cu s.u s.n (aI s.known p).c k) (vf y k);have d6:=jG (K:=K+Ku+D+8) (a:=(aI s.known p).b) (b:=bE (cu s.u s.n (aI s.known p).c) (cI (vf y) v 0) k) (by omega) (by omega);refine aU (a:=B ((aI s.known p).b-bE (cu s.u s.n (aI s.known p).c) (cI (vf y) v 0) (k+1))) (aY (fun hc=>?_) (fun hc=>aM ?_)) (aM ⟨hlt,by rw[ep (by omega)]⟩)
   . rw[hev]at hc;have hkv:k≠v:=by omega
     refine aU (KN h hp hlt) (aN (ei (l:=y) (by omega)) (aU (nB (by omega) (by omega)) (aU (l6 (by omega) (by omega)) (aM ?_))));congr 1;show _=_-(bE _ _ k+_*cI (vf y) v 0 k);rw[show cI (vf y) v 0 k=vf y k by unfold cI;rw[if_neg hkv]];omega
   . rw[hev]at hc;have hkv:k=v:=by omega
     congr 1;show _=_-(bE _ _ k+_*cI (vf y) v 0 k);rw[show cI (vf y) v 0 k=0 by unfold cI;rw[if_pos hkv]];omega
 . have:k=s.n:=by omega
   subst this;rfl
theorem KO{a c z:Int}(hc:0<c):z<=a.fdiv c↔c*z<=a:=by
 have h1:=pQ (a:=a) hc;constructor
 . intro h;have:=gg h (dZ hc);rw[fE c (a.fdiv c)]at this;omega
 . intro h;refine Int.le_of_lt_add_one (F9 (a:=c) ?_ (dZ hc));rw[vJ,yq,fE c (a.fdiv c)];omega
theorem Qf{a c z:Int}(hc:c<0):-(a.fdiv (-c))<=z↔c*z<=a:=by
 have:=KO (a:=a) (c:=-c) (z:=-z) (by omega);rw[Int.neg_mul_neg]at this;rw[<-this];omega
structure pg (s:St)(e:AE):Prop where
 il:e.items.length<=1073741824
 v:e.v<s.n
 p:∀p∈e.items,p<s.known.length/\cu s.u s.n (aI s.known p).c e.v≠0
theorem Jw(h:jY K Ku s){e:AE}(he:pg s e){D:Nat}{y:List Int}(hyl:y.length=s.n)(hy:∀j,dl (vf y j)<=D)(hD:D<=549755813888):
    Tm (fun N=>nt N s.to e.to (mB y)) (fun r=>∃z,r.1=B z/\dl z<=K+Ku+D+9/\(r.2=true->∀p∈e.items,hx s (ux s (cI (vf y) e.v z)) p)/\(r.2=false->¬∃z,∀p∈e.items,hx s (ux s (cI (vf y) e.v z)) p)):=by
  have hL:cX=1099511627776:=rfl;have hK:=h.hK;have nK:=h.nK;have hn:=h.n;have hev:=he.v;generalize hcf:(fun p=>cu s.u s.n (aI s.known p).c e.v)=c;have hc':∀p,cu s.u s.n (aI s.known p).c e.v=c p:=fun p=>by rw[<-hcf]
  generalize hrf:rst s e.v (vf y)=rs;have hxr:∀p z,hx s (ux s (cI (vf y) e.v z)) p↔c p*z<=rs p:=fun p z=>by rw[Pg hev,hc',hrf]
  have hil:e.to.items.length=e.items.length:=cN ..;unfold nt;refine Tm.bind (Q:=fun t=>∃(lo hi:Int) (hl hh:Bool),t=(B lo,B hi,hl,hh)/\dl lo<=K+Ku+D+9/\dl hi<=K+Ku+D+9/\
      (hl=true->∀z,lo<=z↔∀p∈e.items,c p<0->c p*z<=rs p)/\(hl=false->∀p∈e.items,¬c p<0)/\(hh=true->∀z,z<=hi↔∀p∈e.items,0<c p->c p*z<=rs p)/\(hh=false->∀p∈e.items,¬0<c p))
    (eL e.items.length (fun k t=>∃(lo hi:Int) (hl hh:Bool),t=(B lo,B hi,hl,hh,(k:Int))/\dl lo<=K+Ku+D+9/\dl hi<=K+Ku+D+9/\
      (hl=true->∀z,lo<=z↔∀p∈e.items.take k,c p<0->c p*z<=rs p)/\(hl=false->∀p∈e.items.take k,¬c p<0)/\(hh=true->∀z,z<=hi↔∀p∈e.items.take k,0<c p->c p*z<=rs p)/\(hh=false->∀p∈e.items.take k,¬0<c p))
      ⟨0,0,false,false,by rw[B0];rfl,by rw[ie];omega,by rw[ie];omega,fun e=>(by cases e),fun _ p hp=>(by cases hp),fun e=>(by cases e),fun _ p hp=>(by cases hp)⟩ ?_) ?_
  . rintro k hk _ ⟨lo,hi,hl,hh,rfl,dlo,dhi,l1,l2,h1,h2⟩;dsimp only[EP];rw[hil];refine aY (fun hlt=>?_) (fun hge=>aM ?_)
    . have hlt:k<e.items.length:=by omega
      obtain⟨q1,q2⟩:=he.p _ (du hlt);have htk:=jV hlt;rw[<-htk];generalize hp0:e.items[k]=p at*;have hrd:=Py h (v:=e.v) q1 hy;rw[hrf]at hrd;rw[hc']at q2;have hcd:dl (c p)<=K+Ku+4:=by rw[<-hc'];exact h.cu p e.v
      have hcoef:=KN h q1 hev;rw[hc']at hcoef;have hrest:=QT h (e:=e.to) (v:=e.v) rfl q1 hyl hy hD;rw[hrf]at hrest;have hidx:idx e.to.items (k:Int)=some (p:Int):=by
        show idx (e.items.map Int.ofNat) _=_;rw[de (by simpa using hlt),kK];rw[hp0];rfl
      refine Tm.bind (Q:=fun t=>∃(lo' hi':Int) (hl' hh':Bool),t=(B lo',B hi',hl',hh')/\dl lo'<=K+Ku+D+9/\dl hi'<=K+Ku+D+9/\((c p<0/\hi'=hi/\hh'=hh/\hl'=true/\((hl=true/\lo'=max lo (-((rs p).fdiv (-c p))))\/(hl=false/\lo'=-((rs p).fdiv (-c p)))))\/(0<c p/\lo'=lo/\hl'=hl/\hh'=true/\((hh=true/\hi'=min hi ((rs p).fdiv (c p)))\/(hh=false/\hi'=(rs p).fdiv (c p))))))
        (aN hidx (aN (nM q1) (aU hrest (aU hcoef (aU (jg (by omega)) ?_))))) ?_
      . refine aY (fun hs=>?_) (fun hs=>?_)
        . have hpos:0<c p:=by unfold bM at hs;(repeat' split at hs)<;>omega
          refine Tm.bind (qx (a:=rs p) (b:=c p) (by omega) (by omega)) ?_;rintro⟨q,qr,qo⟩ hq;dsimp only at hq⊢;subst hq;have hfd:=rE (rs p) (c p);refine Tm.bind (Q:=fun b=>b=decide (hh=false\/(rs p).fdiv (c p)<hi)) (aY (fun h3=>aM ?_) (fun h3=>?_)) ?_
          . have:hh=false:=by simpa using h3
            simp[this]
          . have:hh=true:=by simpa using h3
            refine aU (kg (by omega) (by omega)) (aM ?_);subst this;simp[np]
          . rintro _ rfl;refine aY (fun h3=>aM ⟨lo,(rs p).fdiv (c p),hl,true,rfl,dlo,by omega,.inr ⟨hpos,rfl,rfl,rfl,?_⟩⟩) (fun h3=>aM ⟨lo,hi,hl,hh,rfl,dlo,dhi,.inr ⟨hpos,rfl,rfl,?_,?_⟩⟩)
            . rcases of_decide_eq_true h3 with h4|h4
              . exact .inr ⟨h4,rfl⟩
              . cases hh with
                |false=>exact .inr ⟨rfl,rfl⟩
                |true=>exact .inl ⟨rfl,by omega⟩
            . cases hh with
              |false=>exact absurd (decide_eq_true (.inl rfl)) h3
              |true=>rfl
            . cases hh with
              |false=>exact absurd (decide_eq_true (.inl rfl)) h3
              |true=>
                have:¬(rs p).fdiv (c p)<hi:=fun e=>h3 (decide_eq_true (.inr e));exact .inl ⟨rfl,by omega⟩
        . have hneg:c p<0:=by unfold bM at hs;(repeat' split at hs)<;>omega
          refine aU (nu (by omega)) (Tm.bind (qx (a:=rs p) (b:=-c p) (by omega) (by rw[fR];omega)) ?_);rintro⟨q,qr,qo⟩ hq;dsimp only at hq⊢;subst hq;have hfd:=rE (rs p) (-c p);refine aU (nu (by omega)) ?_;have hfd2:dl (-((rs p).fdiv (-c p)))<=K+Ku+D+9:=by rw[fR];omega
          refine Tm.bind (Q:=fun b=>b=decide (hl=false\/lo< -((rs p).fdiv (-c p)))) (aY (fun h3=>aM ?_) (fun h3=>?_)) ?_
          . have:hl=false:=by simpa using h3
            simp[this]
          . have:hl=true:=by simpa using h3
            refine aU (kg (by omega) (by omega)) (aM ?_);subst this;have e:bM (-((rs p).fdiv (-c p))) lo>0↔lo< -((rs p).fdiv (-c p)):=by unfold bM;(repeat' split)<;>omega
            simp[e]
          . rintro _ rfl;refine aY (fun h3=>aM ⟨-((rs p).fdiv (-c p)),hi,true,hh,rfl,by omega,dhi,.inl ⟨hneg,rfl,rfl,rfl,?_⟩⟩) (fun h3=>aM ⟨lo,hi,hl,hh,rfl,dlo,dhi,.inl ⟨hneg,rfl,rfl,?_,?_⟩⟩)
            . rcases of_decide_eq_true h3 with h4|h4
              . exact .inr ⟨h4,rfl⟩
              . cases hl with
                |false=>exact .inr ⟨rfl,rfl⟩
                |true=>exact .inl ⟨rfl,by omega⟩
            . cases hl with
              |false=>exact absurd (decide_eq_true (.inl rfl)) h3
              |true=>rfl
            . cases hl with
              |false=>exact absurd (decide_eq_true (.inl rfl)) h3
              |true=>
                have:¬lo< -((rs p).fdiv (-c p)):=fun e=>h3 (decide_eq_true (.inr e));exact .inl ⟨rfl,by omega⟩
      . rintro _ ⟨lo',hi',hl',hh',rfl,d1,d2,hcase⟩;refine aM ⟨hlt,lo',hi',hl',hh',by rw[ep (by have:=he.il;omega)],d1,d2,?_⟩;have happ:∀{P:Nat->Prop},(∀q∈e.items.take k++[p],P q)↔(∀q∈e.items.take k,P q)/\P p:=fun{P}=>by
          simp only[fN,cL];exact⟨fun h=>⟨fun q hq=>h q (.inl hq),h p (.inr rfl)⟩,fun h q hq=>hq.elim (h.1 q) fun e=>e▸h.2⟩
        rcases hcase with⟨hneg,rfl,rfl,rfl,hlo⟩|⟨hpos,rfl,rfl,rfl,hhi⟩
        . refine⟨fun _ z=>?_,fun e=>(by cases e),fun e z=>?_,fun e=>happ.2 ⟨h2 e,by omega⟩⟩
          . rw[happ];have hg:=Qf (a:=rs p) (z:=z) hneg;rcases hlo with⟨g1,g2⟩|⟨g1,g2⟩
            . have:=l1 g1 z;constructor
              . intro g;exact⟨this.1 (by omega),fun _=>hg.1 (by omega)⟩
              . intro g;have:=this.2 g.1;have:=hg.2 (g.2 hneg);omega
            . constructor
              . intro g;exact⟨fun q hq hq0=>absurd hq0 (l2 g1 q hq),fun _=>hg.1 (by omega)⟩
              . intro g;have:=hg.2 (g.2 hneg);omega
          . rw[happ,h1 e z];exact⟨fun g=>⟨g,fun g'=>by omega⟩,fun g=>g.1⟩
        . refine⟨fun e z=>?_,fun e=>happ.2 ⟨l2 e,by omega⟩,fun _ z=>?_,fun e=>(by cases e)⟩
          . rw[happ,l1 e z];exact⟨fun g=>⟨g,fun g'=>by omega⟩,fun g=>g.1⟩
          . rw[happ];have hg:=KO (a:=rs p) (z:=z) hpos;rcases hhi with⟨g1,g2⟩|⟨g1,g2⟩
            . have:=h1 g1 z;constructor
              . intro g;exact⟨this.1 (by omega),fun _=>hg.1 (by omega)⟩
              . intro g;have:=this.2 g.1;have:=hg.2 (g.2 hpos);omega
            . constructor
              . intro g;exact⟨fun q hq hq0=>absurd hq0 (h2 g1 q hq),fun _=>hg.1 (by omega)⟩
              . intro g;have:=hg.2 (g.2 hpos);omega
    . rw[fh (by omega)]at l1 l2 h1 h2;exact⟨lo,hi,hl,hh,rfl,dlo,dhi,l1,l2,h1,h2⟩
  . rintro _ ⟨lo,hi,hl,hh,rfl,dlo,dhi,l1,l2,h1,h2⟩;have hall:∀z,(∀p∈e.items,hx s (ux s (cI (vf y) e.v z)) p)↔(∀p∈e.items,c p<0->c p*z<=rs p)/\∀p∈e.items,0<c p->c p*z<=rs p:=fun z=>by
      constructor
      . exact fun g=>⟨fun p hp _=>(hxr p z).1 (g p hp),fun p hp _=>(hxr p z).1 (g p hp)⟩
      . rintro⟨g1,g2⟩ p hp;have hne:=(he.p p hp).2;rw[hc']at hne;rcases tk hne with g|g
        . exact(hxr p z).2 (g1 p hp g)
        . exact(hxr p z).2 (g2 p hp g)
    dsimp only;refine aY (fun g=>aM ⟨hi,rfl,dhi,fun _=>(hall hi).2 ⟨fun p hp hp0=>absurd hp0 (l2 (by simpa using g) p hp),?_⟩,fun e=>(by cases e)⟩) (fun g=>?_)
    . cases hh with
      |true=>exact(h1 rfl hi).1 (mZ _)
      |false=>exact fun p hp hp0=>absurd hp0 (h2 rfl p hp)
    . have hl1:hl=true:=by simpa using g
      refine aY (fun g2=>aM ⟨lo,rfl,dlo,fun _=>(hall lo).2 ⟨(l1 hl1 lo).1 (mZ _),fun p hp hp0=>absurd hp0 (h2 (by simpa using g2) p hp)⟩,fun e=>(by cases e)⟩) (fun g2=>?_);have hh1:hh=true:=by simpa using g2
      refine aU (kg (by omega) (by omega)) (aM ⟨lo,rfl,dlo,fun g3=>(hall lo).2 ⟨(l1 hl1 lo).1 (mZ _),(h1 hh1 lo).1 (E3.1 (of_decide_eq_true g3))⟩,fun g3=>?_⟩);rintro⟨z,hz⟩;obtain⟨z1,z2⟩:=(hall z).1 hz;have:=(l1 hl1 z).2 z1;have:=(h1 hh1 z).2 z2;exact of_decide_eq_false g3 (E3.2 (by omega))
end
end Go.D
set_option maxHeartbeats 1000000
namespace Go.D
open Go Go.X
section
variable {K Ku:Nat} {s:St}
theorem DJ{c:List aB}{k:Nat}{b:aB}(h:idx c (k:Int)=some b)(hk:k<c.length):c.set k b=c:=by
 rw[de hk]at h;obtain rfl:=iM h;exact List.set_getElem_self hk
theorem Ta(h:jY K Ku s){D:Nat}{y:List Int}(hyl:y.length=s.n)(hy:∀j,dl (vf y j)<=D)(hD:D<=549755813888):
 Tm (fun N=>pN N s.to (mB y)) (·=mB (vec s.n fun i=>ux s (vf y) i)):=by
 have hL:cX=1099511627776:=rfl;have hK:=h.hK;have nK:=h.nK;have hn:=h.n;unfold pN;refine aN (gW (n:=s.n) rfl (by omega) (by decide)) ?_;rw[<-pf];refine aU (Tm.sG (n:=s.n) (by omega) (fun i=>ux s (vf y) i) (by simp) (fin:=id) ?_ ?_) (aM rfl)
 . intro k hk c hc hi;dsimp only[zZ];rw[show vf (List.replicate s.n (0:Int)) k=0 by rw[xg,dJ hk]]at hi;refine cY (by rw[dG,kJ];omega) ?_;obtain⟨r,hr,hrl,hrv⟩:=GY h hk;refine aU (a:=c.set k (B (ux s (vf y) k))) (eL s.n (fun j t=>t=(c.set k (B (bE (mx s.u k) (vf y) j)),(j:Int))) (by show(_,_)=_;rw[show bE (mx s.u k) (vf y) 0=0 from rfl,DJ hi (by omega)];rfl) ?_) (aM rfl);rintro j hj _ rfl;dsimp only[CS];rw[dG,hyl];refine aY (fun hlt=>?_) (fun hge=>aM ?_)
   . have hlt:j<s.n:=by omega
     have d1:=h.mx k j;have d2:=hy j;have d3:=rP (f:=mx s.u k) (g:=vf y) (fun j=>h.mx k j) hy j;have d4:=j5 (mx s.u k j) (vf y j);have hci:∀b:aB,idx (c.set k b) (k:Int)=some b:=fun b=>kG (by rw[yf (by omega)]);refine aN (hci _) (aN hr (aN (ei (l:=r) (by omega)) (aN (ei (l:=y) (by omega)) ?_)));rw[hrv];refine aU (nB (by omega) (by omega)) (aU (mC (by omega) (by omega)) (aN (hci _) (aN (ed rfl (by rw[iO];omega)) (aM ⟨hlt,?_⟩))));rw[List.set_set,ep (by omega)];rfl
   . have:j=s.n:=by omega
     subst this;rfl
 . intro c hc;dsimp only[zZ];exact cz (by rw[dG,kJ];omega) (aM rfl)
theorem P4{y:List Int}{v:Nat}{z:Int}(hv:v<y.length):vf (y.set v z)=cI (vf y) v z:=by
 funext j;rw[jO hv];unfold cI;by_cases e:v=j
 . rw[if_pos e,if_pos e.symm]
 . rw[if_neg e,if_neg fun h=>e h.symm]
theorem Ix{α:Type}{P:Nat->α->Prop}:∀{l:List α},(∀e∈l,∃N0,∀N,N0<=N->P N e)->∃N0,∀N,N0<=N->∀e∈l,P N e
 |[],_=>⟨0,fun _ _ e he=>by cases he⟩
 |a::l,h=>by
  obtain⟨N1,h1⟩:=h a cK;obtain⟨N2,h2⟩:=Ix (P:=P) (l:=l) fun e he=>h e (cH _ he);refine⟨max N1 N2,fun N hN e he=>?_⟩;rcases dY.1 he with rfl|he
  . exact h1 N (by omega)
  . exact h2 N (by omega) e he
theorem KG{y:List Int}{e:AE}{z:Int}(hv:e.v<y.length):di (mB y) e.to.v (B z)=some (mB (y.set e.v z)):=by
 rw[show e.to.v=(e.v:Int) from rfl,ed (n:=e.v) rfl (by rw[dG];exact hv),va]
theorem KZ{y:List Int}{v D D':Nat}{z:Int}(hv:v<y.length)(hy:∀j,dl (vf y j)<=D)(hz:dl z<=D')(h:D<=D')(j:Nat):dl (vf (y.set v z) j)<=D':=by
 rw[jO hv];split
 . exact hz
 . exact bO (hy j) h
theorem JW(h:jY K Ku s)(hE:∀e∈s.stack,pg s e):∀(k D:Nat) (y:List Int),y.length=s.n->(∀j,dl (vf y j)<=D)->D+k*(K+Ku+9)<=549755813888->∃N0,∀N,N0<=N->nY N s.to k (mB y)=true
 |0,D,y,_,_,_=>⟨0,fun _ _=>rfl⟩
 |k+1,D,y,hyl,hy,hD=>by
  rw[gL]at hD;have key:=Ix (P:=fun N (e:AE)=>(match nt N s.to e.to (mB y)with|none=>false|some (n,ok)=>if ok then(match di (mB y) e.to.v n with|none=>false|some y=>nY N s.to k y)else true)=true) (l:=s.stack) fun e he=>by
   obtain⟨⟨zb,ok⟩,N1,⟨z,hz,hzd,-,-⟩,hN⟩:=Jw h (hE e he) hyl hy (by omega);dsimp only at hz;subst hz;have hv:e.v<y.length:=by rw[hyl];exact(hE e he).v
   obtain⟨N2,h2⟩:=JW h hE k (K+Ku+D+9) (y.set e.v z) (by rw[iO];exact hyl) (KZ hv hy hzd (by omega)) (by omega);refine⟨max N1 N2,fun N hNN=>?_⟩;rw[show nt N s.to e.to (mB y)=some (B z,ok) from hN N (by omega)];dsimp only;cases ok with
   |false=>rfl
   |true=>
    rw[if_pos rfl,KG hv];exact h2 N (by omega)
  obtain⟨N0,h0⟩:=key;refine⟨N0,fun N hN=>?_⟩;show(s.stack.map AE.to).all _=true;rw[sX];intro x hx;obtain⟨e,he,rfl⟩:=dL.1 hx;exact h0 N hN e he
theorem TU{c:List Int}{v:Nat}{y:Nat->Int}{z:Int}(hv:v<s.n)(h:cu s.u s.n c v=0):bE (vf c) (ux s (cI y v z)) s.n=bE (vf c) (ux s y) s.n:=by
 rw[zH,zH,tO hv,h];simp
theorem S9(hI:Inv s)(hi:s.items=[]){k:Nat}{e:AE}(hk:s.stack[k]?=some e){y:Nat->Int}{z:Int}(hy:Hs s y (k+1))(hz:∀p∈e.items,hx s (ux s (cI y e.v z)) p):Hs s (cI y e.v z) k:=by
 obtain⟨h1,h2,h3⟩:=hy;have hm:=mX hk;obtain⟨e1,e2,e3⟩:=hI.sv e hm;have hkl:k<s.stack.length:=(dR.1 hk).1;have hek:s.stack[k]=e:=(dR.1 hk).2;refine⟨fun j hj hst=>?_,fun x hx=>(by rw[hi]at hx;cases hx),fun e' he' p hp=>?_⟩
 . have:j≠e.v:=fun h=>by rw[h,e2]at hst;omega
   unfold cI;rw[if_neg this];exact h1 j hj hst
 . rw[fx hkl,hek]at he';rcases dY.1 he' with rfl|he'
   . exact hz p hp
   . have h4:=h3 e' he' p hp;have h5:cu s.u s.n (aI s.known p).c e.v=0:=by
      have h6:=MU.1 hI.sd;obtain⟨m,hm',rfl⟩:=nc he';rw[F1]at hp;rw[vH]at hm';have:=(h6 k (k+1+m) hkl (by omega) (by omega)).2 p hp;rw[hek]at this;exact this
     unfold hx at h4⊢;rw[TU e1 h5];exact h4
theorem HH(h:jY K Ku s)(hI:Inv s)(hi:s.items=[])(hE:∀e∈s.stack,pg s e)(hF:∀k e,s.stack[k]?=some e->e.dz=false->∀y,Hs s y (k+1)->∃z,∀p∈e.items,hx s (ux s (cI y e.v z)) p):
 ∀(k D:Nat) (y:List Int),k<=s.stack.length->y.length=s.n->(∀j,dl (vf y j)<=D)->D+k*(K+Ku+9)<=549755813888->Hs s (vf y) k->
  Tm (fun N=>ia N s.to ((s.stack.take k).map AE.to).reverse (mB y)) (fun r=>(∃y':List Int,r=.inl (mB y')/\y'.length=s.n/\(∀j,dl (vf y' j)<=D+k*(K+Ku+9))/\Hs s (vf y') 0)\/∃e∈s.stack,e.dz=true/\r=.inr (e.v:Int))
 |0,D,y,_,hyl,hy,_,hh=>aM (.inl ⟨y,rfl,hyl,fun j=>by have:=hy j;omega,hh⟩)
 |k+1,D,y,hk,hyl,hy,hD,hh=>by
  rw[gL]at hD;have hkl:k<s.stack.length:=hk;obtain⟨e,he⟩:∃e,s.stack[k]?=some e:=⟨_,bV hkl⟩;have hm:=mX he;have hek:s.stack[k]=e:=(dR.1 he).2;have hv:e.v<y.length:=by rw[hyl];exact(hE e hm).v
  have e1:((s.stack.take (k+1)).map AE.to).reverse=e.to::((s.stack.take k).map AE.to).reverse:=by
   rw[<-jV hkl,hek,jU,MP];rfl
  rw[e1];show Tm (fun N=>(nt N s.to e.to (mB y)).bind _) _;refine Tm.bind (Jw h (hE e hm) hyl hy (by omega)) ?_;rintro⟨zb,ok⟩ ⟨z,hz,hzd,g1,g2⟩;dsimp only at hz g1 g2⊢;subst hz;refine aY (fun h1=>?_) (fun h1=>aM (.inr ⟨e,hm,?_,rfl⟩))
  . refine aN (KG hv) ?_;refine(HH h hI hi hE hF k (K+Ku+D+9) (y.set e.v z) (by omega) (by rw[iO];exact hyl) (KZ hv hy hzd (by omega)) (by omega) ?_).mono ?_
    . rw[P4 hv];exact S9 hI hi he hh (g1 h1)
    . rintro r (⟨y',a1,a2,a3,a4⟩|a)
      . exact .inl ⟨y',a1,a2,fun j=>by have:=a3 j;rw[gL];omega,a4⟩
      . exact .inr a
  . cases ht:e.dz with
    |true=>rfl
    |false=>exact absurd (hF k e he ht (vf y) hh) (g2 (by simpa using h1))
theorem Dm(hI:Inv s):s.stack.length<=s.n:=by
 have hn:(s.stack.map AE.v).Nodup:=by
  unfold List.Nodup;rw[Gg];exact hI.sd.imp fun h=>h.1
 have:=Uz (l₂:=List.range s.n) hn (fun v hv=>by
  obtain⟨e,he,rfl⟩:=dL.1 hv;exact sY.2 (hI.sv e he).1)
 simpa using this
abbrev rX:Proof:=Proof.mk [] [] (aB.mk false []) []
theorem TT(h:jY K Ku s)(hI:Inv s)(hi:s.items=[])(hE:∀e∈s.stack,pg s e)(hF:∀k e,s.stack[k]?=some e->e.dz=false->∀y,Hs s y (k+1)->∃z,∀p∈e.items,hx s (ux s (cI y e.v z)) p):
    Tm (fun N=>sh N s.to) (fun r=>(∃x:List Int,r=bX.mk 0 (mB x) rX 0/\x.length=s.n/\(∀v∈x,dl v<=137438953472)/\∃y,Hs s y 0/\∀i,i<s.n->vf x i=ux s y i)\/∃e∈s.stack,e.dz=true/\r=bX.mk 2 [] rX (e.v:Int)):=by
  have hL:cX=1099511627776:=rfl;have hK:=h.hK;have nK:=h.nK;have hn:=h.n;have hst:=Dm hI;unfold sh;refine aN (gW (n:=s.n) rfl (by omega) (by decide)) ?_;rw[<-pf];refine aU (a:=mB (vec s.n fun j=>if vf s.status j=1 then vf s.value j else 0)) ((Tm.sG (n:=s.n) (by omega) (fun j=>if vf s.status j=1 then vf s.value j else 0) (by simp) (fin:=id) ?_ ?_)) ?_
  . intro k hk c hc hi';rw[show vf (List.replicate s.n (0:Int)) k=0 by rw[xg,dJ hk]]at hi';dsimp only[yM];refine cY (by rw[dG,kJ];omega) (aU (a:=c.set k (B (if vf s.status k=1 then vf s.value k else 0))) (aN (Bi (l:=s.status) (by rw[hI.fV];exact hk)) (aY (fun h1=>?_) (fun h1=>aM ?_))) (aM rfl))
    . refine aN (ei (l:=s.value) (by rw[hI.vl];exact hk)) (aN hi' (aN (ed rfl (by omega)) (aM ?_)));rw[if_pos h1]
    . rw[if_neg h1,DJ hi' (by omega)]
  . intro c hc;dsimp only[yM];exact cz (by rw[dG,kJ];omega) (aM rfl)
  generalize hy0:(vec s.n fun j=>if vf s.status j=1 then vf s.value j else 0)=y0;have y0l:y0.length=s.n:=by rw[<-hy0];exact eZ
  have y0d:∀j,dl (vf y0 j)<=Ku:=fun j=>by
    rcases cv j s.n with hj|hj
    . rw[<-hy0,dJ hj];split
      . exact h.u.v.vf j
      . rw[ie];omega
    . rw[mG (by omega),ie];omega
  have hsl:s.to.stack.length=s.stack.length:=cN ..;have hmul:s.stack.length*(K+Ku+9)<=4*(536870912+17179869184+9):=iN (by omega) (by omega);have hh:Hs s (vf y0) s.stack.length:=⟨fun j hj hs=>by rw[<-hy0,dJ hj,if_pos hs],fun x hx=>(by rw[hi]at hx;cases hx),fun e he=>(by rw[B4]at he;cases he)⟩;obtain⟨N1,hN1⟩:=JW h hE s.stack.length Ku y0 y0l y0d (by omega);have hback:=HH h hI hi hE hF s.stack.length Ku y0 (bI _) y0l y0d (by omega) hh;rw[tg]at hback;have key:Tm (fun N=>(ia N s.to s.to.stack.reverse (mB y0)).bind fun
      |.inr v=>some (bX.mk 2 [] (Proof.mk [] [] (aB.mk false []) []) v)
      |.inl y=>(pN N s.to y).bind fun x=>some (bX.mk 0 x (Proof.mk [] [] (aB.mk false []) []) 0)) (fun r=>(∃x:List Int,r=bX.mk 0 (mB x) rX 0/\x.length=s.n/\(∀v∈x,dl v<=137438953472)/\∃y,Hs s y 0/\∀i,i<s.n->vf x i=ux s y i)\/∃e∈s.stack,e.dz=true/\r=bX.mk 2 [] rX (e.v:Int)):=by
    refine Tm.bind (show Tm (fun N=>ia N s.to s.to.stack.reverse (mB y0)) _ from hback) ?_;rintro _ (⟨y,rfl,yl,yd,yh⟩|⟨e,he,ht,rfl⟩)
    . dsimp only;refine aU (Ta h yl yd (by omega)) (aM (.inl ⟨_,rfl,eZ,fun v hv=>?_,vf y,yh,fun i hi'=>dJ hi'⟩));obtain⟨i,hi',rfl⟩:=gE hv;rw[eZ]at hi';rw[dJ hi'];have:=rP (f:=mx s.u i) (g:=vf y) (fun j=>h.mx i j) yd s.n;show dl (bE _ _ _)<=_;omega
    . exact aM (.inr ⟨e,he,ht,rfl⟩)
  obtain⟨a,N2,ha,hN2⟩:=key;refine⟨a,max N1 N2,ha,fun N hN=>?_⟩;show(if s.to.stack.length<=9223372036854775807/\nY N s.to s.to.stack.length (mB y0)=true then _ else none)=_;rw[hsl,if_pos ⟨by omega,hN1 N (by omega)⟩];exact hN2 N (by omega)
end
open Go Go.X
def oC(N:Nat)(x:Int)(y:Int)(c:Int)(equal:Bool):Option Constraint:= some (Constraint.mk (Linear.mk c [(jN.mk 0 x),(jN.mk 1 y)]) equal)
def Fk(N:Nat)(l:(List Constraint)):((List Constraint)×Int)->Option (aK ((List Constraint)×Int) (List Constraint))
 |(c,a)=>(if(a:Int)<(List.length l:Int)then (idx l a).bind fun b=>(cS 16 ([]:(List jN)) b.Linear.aZ).bind fun d=>(cS 40 c [(Constraint.mk (Linear.mk b.Linear.Const d) b.iA)]).bind fun e=>some (aK.next (e,(iw (a+1)))) else some (aK.done c))
def yb(N:Nat)(l:(List Constraint)):Option (List Constraint):=(bJ (Fk N l) N (([]:(List Constraint)),0)).bind fun ss=>match ss with
  |a=>some a
def vP(N:Nat)(n:Int)(l:(List Constraint)):Option (Bool×Bool):=(yb N l).bind fun r1=>(qg N n r1).bind fun r2=>(if r2.2.2=true then (if((List.length r2.1:Int):Int)=n then (ve N l r2.1).bind fun r9=>some (true,r9) else some (true,false)) else (if((List.length r2.1:Int):Int)=0 then (qV N n l r2.2.1).bind fun a=>some (false,a) else some (false,false)))
def u9(N:Nat):Option Bool:=(oC N 3 (-5) (-1) true).bind fun r1=>(oC N 1 0 (-10) false).bind fun r2=>(oC N (-1) 0 3 false).bind fun r3=>(qg N 2 [r1,r2,r3]).bind fun r4=>(Dx N 2 [r1,r2,r3] 0).bind fun r5=>(oC N 4 (-3) 2 false).bind fun r6=>(oC N (-4) 3 (-1) false).bind fun r7=>(qg N 2 [r6,r7]).bind fun r8=>(oC N 2 (-2) (-1) true).bind fun r9=>(qg N 2 [r9]).bind fun a=>(if r4.2.2=true then (if((List.length r4.1:Int):Int)=2 then (idx r4.1 0).bind fun b=>(lr N 7).bind fun c=>(xC N b c).bind fun d=>(if d=true then (idx r4.1 1).bind fun e=>(lr N 4).bind fun f=>(xC N e f).bind fun g=>(if g=true then (if r5.2=true then (lr N 7).bind fun i=>(xC N r5.1 i).bind fun j=>(if j=true then (if(!r8.2.2)=true then (qV N 2 [r6,r7] r8.2.1).bind fun k=>(if k=true then (if(!a.2.2)=true then (oC N 2 (-2) (-1) true).bind fun l=>(qV N 2 [l] a.2.1).bind fun m=>some m else some false) else some false) else some false) else some false) else some false) else some false) else some false) else some false) else some false)
def yC(N:Nat)(n:Int)(l:(List Constraint)):Option Bool:=((((u9 N).bind fun r8=>(if(!r8)=true then some true else (xb N n l 7).bind fun a=>some (!a))):Option Bool)).bind fun ss=>match ss with
  |x5=>(if x5=true then (u9 N).bind fun b=>some b else (vP N n l).bind fun c=>some c.2)
end Go.D
set_option maxRecDepth 1000000
set_option maxHeartbeats 4000000
namespace Go.D
theorem Ru(N:Nat):u9 (N+100)=some true:=by kernel_rfl
open Go Go.X
theorem JC:Tm (fun N=>u9 N) (fun r=>r=true):=⟨true,100,rfl,fun N hN=>by rw[show N=(N-100)+100 by omega];exact Ru _⟩
def Ce(l:List Constraint)(n:Int):Prop:=(∀c∈l,fI c n)/\0<=n/\n<=512
theorem RS{n:Int}{l:List Constraint}(hl:l.length<=9223372036854775807)(hc:∀c∈l,c.Linear.aZ.length<=9223372036854775807):
 Tm (fun N=>xL N n l) (fun r=>r=true↔Ce l n):=by
 unfold xL;refine Tm.bind (Tm.each (body:=fun N=>we N l n) l (fun c=>fI c n) (Q:=fun r=>(r=.inr false/\¬Ce l n)\/(r=.inl ()/\∀c∈l,fI c n)) hl ?_ ?_) ?_
 . intro k hk _;dsimp only[we];refine cY (by omega) (aN (de hk) (Tm.bind (DG (hc _ (du hk))) fun r hr=>aY (fun h=>aS (.inr ⟨_,rfl,.inl ⟨rfl,fun ha=>?_⟩⟩)) (fun h=>aS (.inl ⟨rfl,hr.1 (by simpa using h)⟩))));have:=hr.2 (ha.1 _ (du hk));simp[this]at h
 . intro h;dsimp only[we];exact cz (by omega) (aS ⟨_,rfl,.inr ⟨rfl,h⟩⟩)
 . rintro _ (⟨rfl,h⟩|⟨rfl,h⟩)
   . exact aS ⟨fun e=>(by cases e),fun e=>absurd e h⟩
   . refine aY (fun h1=>aS ?_) (fun h1=>aS ?_)
     . simp only[decide_eq_true_eq];exact⟨fun h2=>⟨h,h1,h2⟩,fun h2=>h2.2.2⟩
     . exact⟨fun e=>(by cases e),fun e=>absurd e.2.1 h1⟩
def oU(f:Linear)(x:List aB):Nat->Int
 |0=>f.Const
 |k+1=>oU f x k+(f.aZ.getD k ⟨0,0⟩).N*bv (x.getD (f.aZ.getD k ⟨0,0⟩).Var.toNat eN)
def qk(c:Constraint)(x:List aB):Bool:=decide (0<oU c.Linear x c.Linear.aZ.length)||(decide (oU c.Linear x c.Linear.aZ.length<0)&&c.iA)
theorem getDk{l:List jN}{n:Nat}(h:n<l.length):l.getD n ⟨0,0⟩=l[n]:=by rw[cy,bV h];rfl
structure Fz (f:Linear)(x:List aB):Prop where
 len:f.aZ.length<=1073741824
 const:gm f.Const
 my:∀k∈f.aZ,gm k.N/\0<=k.Var/\k.Var<x.length
 x:∀b∈x,jB 137438953472 b
theorem Cv{a:Int}:bM a 0>0↔0<a:=by unfold bM;(repeat' split)<;>omega
theorem TV{f:Linear}{x:List aB}(h:Fz f x):Tm (fun N=>xE N f x) (fun r=>bA aC r.aP/\r.aP.length<=274877906944/\bv r=oU f x f.aZ.length):=by
 unfold xE;refine Tm.bind (tC h.const.1 h.const.2) ?_;rintro b ⟨hb,hbl⟩;refine Tm.bind (Q:=fun r=>bA aC r.aP/\r.aP.length<=274877906944/\bv r=oU f x f.aZ.length) (eL f.aZ.length (fun k s=>s.2=(k:Int)/\bA aC s.1.aP/\s.1.aP.length<=137438953476+k/\bv s.1=oU f x k) ⟨rfl,hb.dg.bL,by dsimp only;omega,hb.bv⟩ ?_) fun r hr=>aM hr;rintro k hk ⟨s,i⟩ ⟨rfl,h1,h2,h3⟩;dsimp only at h1 h2 h3;dsimp only[Ek];have hL:=h.len;refine aY (fun hlt=>?_) (fun hge=>aM ?_)
 . have hlt:k<f.aZ.length:=by omega
   obtain⟨g1,g2,g3⟩:=h.my _ (du hlt);refine aN (de hlt) (Tm.bind (tC g1.1 g1.2) ?_);rintro e ⟨he,hel⟩;have hv:(f.aZ[k].Var).toNat<x.length:=by omega
   obtain⟨x1,x2⟩:=h.x _ (du hv);refine aN (de hlt) (aN (gw (n:=(f.aZ[k].Var).toNat) (by omega) hv) (Tm.bind (DV he.dg.bL x1 (by omega) (by omega)) ?_));rintro p ⟨hp,hpl⟩;refine Tm.bind (wy h1 hp.dg.bL (by omega) (by omega)) ?_;rintro q ⟨hq,hql⟩;refine aM ⟨hlt,ep (by omega),hq.dg.bL,by dsimp only;omega,?_⟩;dsimp only;rw[hq.bv,hp.bv,he.bv,h3,oU,getDk hlt,rm hv]
 . have:k=f.aZ.length:=by omega
   subst this;exact⟨h1,by omega,h3⟩
theorem RM{l:List Constraint}{x:List aB}(hl:l.length<=9223372036854775807)(h:∀c∈l,Fz c.Linear x):Tm (fun N=>ve N l x) (·=l.all (fun c=>!qk c x)):=by
 unfold ve;refine aU (Tm.allL (b:=fun N=>wA N l x) l (fun c=>!qk c x) hl ?_ ?_) ?_
 . intro k hk;dsimp only[wA];refine cY (by omega) (aN (de hk) (Tm.bind (TV (h _ (du hk))) ?_));rintro r ⟨h1,h2,h3⟩;refine Tm.bind (nZ h1 (by omega)) ?_;rintro _ rfl;rw[h3];refine Tm.bind (Q:=(·=qk l[k] x)) (aY (fun hp=>aM ?_) (fun hp=>aY (fun hq=>aN (de hk) (aM ?_)) (fun hq=>aM ?_))) ?_
   . rw[Cv]at hp;simp[qk,hp]
   . rw[AX]at hq;simp[qk,hq];omega
   . rw[Cv]at hp;rw[AX]at hq;simp[qk,hp,hq]
   rintro _ rfl;refine aY (fun h=>aM ?_) (fun h=>aM ?_)
   . simp[h]
   . simp[h]
 . dsimp only[wA];exact cz (by omega) (aM rfl)
 . cases l.all (fun c=>!qk c x)with
   |true=>exact aM rfl
   |false=>exact aM rfl
end Go.D
set_option maxHeartbeats 1000000
namespace Go.D
open Go Go.X
section
variable {K:Nat} {s:St}
structure oZ (s:St):Prop where
 n:s.n<=4
 ul:s.u.length=s.n
 fV:s.status.length=s.n
 vl:s.value.length=s.n
 il:s.items.length<=1073741824
 kl:s.known.length<=1073741824
theorem Inv.cp(h:Inv s)(hn:s.n<=4)(hil:s.items.length<=1073741824)(hkl:s.known.length<=1073741824):oZ s:=⟨hn,h.ul.1,h.fV,h.vl,hil,hkl⟩
theorem A4(h:oZ s):Tm (fun N=>p5 N s.to) (·=s.to):=by
 have:=h.n;have:=h.ul;have:=h.fV;have:=h.vl;have:=h.il;unfold p5;refine aU (a:=s.to.known) (aM rfl) (aU (a:=s.to.steps) (aM rfl) ?_);refine aU (a:=s.to.u) ?_ (aU (a:=s.to.status) ?_ (aU (a:=s.to.value) (Bu (l:=s.value) (by omega)) (aU (a:=s.to.items) ?_ (aU (a:=s.to.stack) (aM rfl) (aM rfl)))))
 . unfold BF;exact aN (dQ (by show(_+(s.u.map mB).length)*_<=_;rw[cN];simp only[dP];omega) (by decide)) (aM (ja _))
 . unfold yH;exact aN (dQ (by show(_+s.status.length)*_<=_;simp only[dP];omega) (by decide)) (aM (ja _))
 . unfold qI;exact aN (dQ (by show(_+(s.items.map AI.to).length)*_<=_;rw[cN];simp only[dP];omega) (by decide)) (aM (ja _))
def cM(s:St)(q:AQ):St:={s with known:=s.known++[q],steps:=[]}
theorem uJ{q:AQ}(h:oZ s):Tm (fun N=>mD N s.to q.to) (·=(cM s q).to):=by
 have:=h.kl;unfold mD;refine aU (A4 h) (aN (dQ (by show((s.known.map AQ.to).length+_)*_<=_;simp only[cN,cA,dP];omega) (by decide)) (aM ?_));unfold cM St.to;simp
def rY(l:List AI)(p p':Nat):List AI:=l.map fun x=>if x.pos=p then{x with pos:=p'}else x
theorem GW{l:List AI}{p p':Nat}(hl:l.length<=1073741824):Tm (fun N=>tU N (mI l) (p:Int) (p':Int)) (·=mI (rY l p p')):=by
 unfold tU;refine aU (a:=mI l) ?_ ?_
 . unfold qI;exact aN (dQ (by rw[eX];simp only[dP];omega) (by decide)) (aM (ja _))
 . refine aU (a:=mI (rY l p p')) ((Tm.fill (n:=l.length) (by omega) (c0:=mI l) (fun k=>(if(l.getD k ⟨0,[]⟩).pos=p then({(l.getD k ⟨0,[]⟩)with pos:=p'}:AI)else l.getD k ⟨0,[]⟩).to) (eX l) (fin:=id) ?_ ?_).mono ?_) (aM rfl)
   . intro k hk c hc hi;have e0:(mI l)[k]?=some (l[k]).to:=by unfold mI;rw[gM,bV hk];rfl
     rw[e0]at hi;dsimp only[By];rw[show l.getD k ⟨0,[]⟩=l[k] by rw[cy,bV hk];rfl];refine cY (by rw[eX];omega) (aN (kG hi) (aY (fun h=>?_) (fun h=>aM ?_)))
     . have h:((l[k]).pos:Int)=(p:Int):=h;refine aN (kG hi) (aN (ed rfl (by omega)) (aM ?_));rw[if_pos (by omega)];rfl
     . have h:¬((l[k]).pos:Int)=(p:Int):=h;rw[if_neg (by omega)];have:c.set k (l[k]).to=c:=by
        obtain⟨h1,h2⟩:=dR.1 hi;rw[<-h2];exact List.set_getElem_self h1
       rw[this]
   . intro c hc;dsimp only[By];exact cz (by rw[eX];omega) (aM rfl)
   . intro r hr;rw[hr,id];unfold mI rY;rw[mf];exact vZ (f:=fun x:AI=>(if x.pos=p then({x with pos:=p'}:AI)else x).to)
theorem R3{v:Nat}(hi:iE s.n s.items)(hv:v<s.n)(hne:cx v s.items≠[]\/dh v s.items=[]):Tm (fun N=>xS N s.to (v:Int)) (fun r=>∃t,r=B t/\dl t<=cX):=by
 have hL:cX=1099511627776:=rfl;have hlo:=w5 (v:=v) hi;have hll:=hlo.1;unfold xS;refine aU (vT hi hv) ?_;refine Tm.bind (Q:=fun r=>∃t,r=B t/\dl t<=cX) (eL (dh v s.items).length (fun k t=>∃c,t=(B c,(k:Int))/\dl c<=20+k) ⟨0,by rw[B0];rfl,by rw[ie];omega⟩ ?_) fun r hr=>aM hr;rintro k hk _ ⟨c,rfl,hc⟩;dsimp only[Dw];rw[eX];refine aY (fun hlt=>?_) (fun hge=>aM ⟨c,rfl,by omega⟩);have hlt:k<(dh v s.items).length:=by omega
 have hm:=du hlt;have hun:cx v s.items≠[]:=by
  rcases hne with h|h
  . exact h
  . rw[h]at hlt;cases hlt
 have hsd:=wb (low:=(dh v s.items)[k]) (oy (v:=v) hi) hun (hlo.vf hm v);refine Tm.bind (Q:=fun r=>∃c,r=B c/\dl c<=20+(k+1)) (aN (oV hlt) (aU (xQ (oy (v:=v) hi) hun (hlo.2 _ hm).1 (hlo.vf hm v) hv) (aU (jg (by omega)) (aY (fun h2=>?_) (fun h2=>aM ⟨c,rfl,by omega⟩))))) ?_
 . have h1:dl 1<=18:=bO jt (by decide);have ha:=oK hsd h1;refine aU (jH (by decide) (by decide)) (aU (mC (by omega) (by omega)) (aU (mC (by omega) (by omega)) (aM ⟨_,rfl,?_⟩)));have:=oK (K:=20+k) hc (show dl (gK v (dh v s.items)[k] (cx v s.items)+1)<=20+k by omega);omega
 . rintro _ ⟨c',rfl,hc'⟩;exact aM ⟨hlt,c',by rw[ep (by omega)],hc'⟩
def re(n:Nat)(g:List Int)(w:Nat):Prop:=w<n/\vf g w≠0/\∀j,j<n->j≠w->vf g j=0
theorem LQ{n:Nat}{x:AI}(hl:x.g.length=n)(hn:n<=512)(hd:∀v∈x.g,dl v<=8):Tm (fun N=>uD N x.to) (fun r=>r.2=true->∃w:Nat,r.1=(w:Int)/\re n x.g w):=by
 have hL:cX=1099511627776:=rfl;unfold uD;refine Tm.bind (Q:=fun t:Int×Int=>t.2=1->∃w:Nat,t.1=(w:Int)/\re n x.g w)
  (eL n (fun k t=>t.2.2=(k:Int)/\0<=t.2.1/\t.2.1<=(k:Int)/\(t.2.1=0->∀j,j<k->vf x.g j=0)/\(t.2.1=1->∃w:Nat,t.1=(w:Int)/\w<k/\vf x.g w≠0/\∀j,j<k->j≠w->vf x.g j=0)) ⟨rfl,mZ _,mZ _,fun _ j hj=>by omega,fun e=>by cases e⟩ ?_) ?_
 . rintro k hk ⟨a,m,i⟩ ⟨rfl,hm0,hmk,h0,h1⟩;dsimp only at hm0 hmk h0 h1;dsimp only[CW];rw[show x.to.g.length=n from(dG _).trans hl];refine aY (fun hlt=>?_) (fun hge=>aM ?_)
   . have hlt:k<n:=by omega
     refine aN (ei (l:=x.g) (by omega)) (aU (jg (bO (hd _ (gr (by omega))) (by decide))) (aY (fun hs=>aM ?_) (fun hs=>aM ?_)))
     . have hs:=oT.1 hs;have hw:iw (m+1)=m+1:=bK (by omega) (by omega);refine⟨hlt,ep (by omega),by dsimp only;rw[hw];omega,by dsimp only;rw[hw];omega,fun e=>by dsimp only at e;rw[hw]at e;omega,fun e=>⟨k,rfl,by omega,hs,fun j hj hjk=>h0 (by dsimp only at e;rw[hw]at e;omega) j (by omega)⟩⟩
     . have hs:vf x.g k=0:=jD fun e=>hs (oT.2 e);refine⟨hlt,ep (by omega),hm0,by dsimp only;omega,fun e j hj=>?_,fun e=>?_⟩
       . rcases cv j k with h2|h2
         . exact h0 e j h2
         . obtain rfl:j=k:=by omega
           exact hs
       . obtain⟨w,w1,w2,w3,w4⟩:=h1 e;refine⟨w,w1,by omega,w3,fun j hj hjw=>?_⟩;rcases cv j k with h2|h2
         . exact w4 j h2 hjw
         . obtain rfl:j=k:=by omega
           exact hs
   . have:k=n:=by omega
     subst this;intro e;obtain⟨w,w1,w2,w3,w4⟩:=h1 e;exact⟨w,w1,w2,w3,w4⟩
 . rintro⟨a,m⟩ h;exact aM fun e=>h (of_decide_eq_true e)
def qm(s:St)(c:gJ):Prop:=∃x∈s.items,∃y∈s.items,∃w,w<s.n/\(∀j,j<s.n->vf x.g j=if j=w then 1 else 0)/\(∀j,j<s.n->vf y.g j=if j=w then-1 else 0)/\c=⟨x.to,B (-(aI s.known y.pos).b),B (aI s.known x.pos).b⟩
theorem Cg{n w:Nat}{g:List Int}(hl:g.length=n)(hp:dc g=1)(h:re n g w):(vf g w).natAbs=1:=by
 have h2:vf g w∣((dc g:Nat):Int):=oW fun v hv=>by
  obtain⟨j,hj,rfl⟩:=gE hv;by_cases e:j=w
  . subst e;exact Int.dvd_refl _
  . rw[h.2.2 j (by omega) e];exact yu _
 rw[hp]at h2;have:=Int.natAbs_dvd_natAbs.2 h2;exact Gf this
theorem Ul(hI:Inv s)(hi:iE s.n s.items)(hn:s.n<=512)(hb:∀q∈s.known,fA K q)(hK:K<=1099511627000):Tm (fun N=>wF N s.to) (fun r=>r.2=true->qm s r.1):=by
 have hL:cX=1099511627776:=rfl;have hil:=hi.1;have hmi:s.to.items.length=s.items.length:=cN ..;have hget:∀{k:Nat} (h:k<s.items.length),idx s.to.items (k:Int)=some (s.items[k]).to:=fun{k} h=>by
  show idx (s.items.map AI.to) _=_;rw[de (by simpa using h),kK]
 have hbd:∀x∈s.items,dl (aI s.known x.pos).b<=K:=fun x hx=>(hb _ (eK (hI.it x hx).1)).2;unfold wF;refine Tm.bind (Q:=fun t:gJ×Bool=>t.2=true->qm s t.1) (eL s.items.length (fun k t=>t.2.2=(k:Int)/\(t.2.1=true->qm s t.1)) ⟨rfl,fun e=>by cases e⟩ ?_) ?_
 . rintro k hk ⟨a,b,i⟩ ⟨rfl,hab⟩;dsimp only at hab;dsimp only[DQ];rw[hmi];refine aY (fun hlt=>?_) (fun hge=>aM hab);have hlt:k<s.items.length:=by omega
   have hxm:=du hlt;obtain⟨x1,x2⟩:=hi.2 _ hxm;have hgk:=hget hlt;generalize s.items[k]=x at*;refine Tm.bind (Q:=fun t:gJ×Bool=>t.2=true->qm s t.1) (aN hgk (Tm.bind (LQ x1 hn x2) ?_)) (fun t ht=>aM ⟨hlt,ep (by omega),ht⟩);rintro⟨p,ok⟩ hs;dsimp only at hs;refine Tm.bind (Q:=fun c=>c=false->∃w:Nat,p=(w:Int)/\re s.n x.g w/\0<vf x.g w) (aY (fun h=>aM fun e=>(by cases e)) (fun h=>?_)) ?_
   . have h:ok=true:=by simpa using h
     obtain⟨w,rfl,hw⟩:=hs h;refine aN (ei (l:=x.g) (by have:=hw.1;omega)) (aU (jg (bO (x2 _ (gr (by have:=hw.1;omega))) (by decide))) (aM fun e=>⟨w,rfl,hw,?_⟩));have h1:¬bM (vf x.g w) 0<0:=of_decide_eq_false e;have h2:=hw.2.1;have:¬vf x.g w<0:=fun e=>h1 (np.2 e);omega
   . rintro c hc;refine aY (fun h=>aM hab) (fun h=>?_);obtain⟨w,rfl,hw,hw0⟩:=hc (by simpa using h);have hxone:∀j,j<s.n->vf x.g j=if j=w then 1 else 0:=fun j hj=>by
      have:=Cg x1 (hI.gz x hxm) hw;by_cases e:j=w
      . subst e;rw[if_pos rfl];omega
      . rw[if_neg e];exact hw.2.2 j hj e
     refine Tm.bind (Q:=fun t:gJ×Bool=>t.2=true->qm s t.1) (eL s.items.length (fun m t=>t.2.2=(m:Int)/\(t.2.1=true->qm s t.1)) ⟨rfl,hab⟩ ?_) fun t ht=>aM ht;rintro m hm ⟨a,b,i⟩ ⟨rfl,hab⟩;dsimp only at hab;dsimp only[Cu];rw[hmi];refine aY (fun hlt2=>?_) (fun hge=>aM hab);have hlt2:m<s.items.length:=by omega
     have hym:=du hlt2;obtain⟨y1,y2⟩:=hi.2 _ hym;have hgm:=hget hlt2;generalize s.items[m]=y at*;refine Tm.bind (Q:=fun t:gJ×Bool=>t.2=true->qm s t.1) (aN hgm (Tm.bind (LQ y1 hn y2) ?_)) (fun t ht=>aM ⟨hlt2,ep (by omega),ht⟩);rintro⟨p,ok⟩ hs';dsimp only at hs';refine Tm.bind (Q:=fun c=>c=false->re s.n y.g w/\vf y.g w<0) (aY (fun h=>aM fun e=>(by cases e)) (fun h=>aY (fun h2=>aM fun e=>(by cases e)) (fun h2=>?_))) ?_
     . have h:ok=true:=by simpa using h
       obtain⟨w',rfl,hw'⟩:=hs' h;have h2:(w':Int)=(w:Int):=by simpa using h2
       obtain rfl:w'=w:=by omega
       refine aN (ei (l:=y.g) (by have:=hw.1;omega)) (aU (jg (bO (y2 _ (gr (by have:=hw.1;omega))) (by decide))) (aM fun e=>⟨hw',?_⟩));have h1:¬bM (vf y.g w') 0>0:=of_decide_eq_false e;have h2:=hw'.2.1;have:¬0<vf y.g w':=fun e=>h1 (Cv.2 e);omega
     . rintro c hc;refine aY (fun h=>aM hab) (fun h=>?_);obtain⟨hw',hw0'⟩:=hc (by simpa using h);have hyone:∀j,j<s.n->vf y.g j=if j=w then-1 else 0:=fun j hj=>by
        have:=Cg y1 (hI.gz y hym) hw';by_cases e:j=w
        . subst e;rw[if_pos rfl];omega
        . rw[if_neg e];exact hw'.2.2 j hj e
       have b1:=hbd y hym;have b2:=hbd x hxm;have hnew:qm s (gJ.mk x.to (B (-(aI s.known y.pos).b)) (B (aI s.known x.pos).b)):=⟨x,hxm,y,hym,w,hw.1,hxone,hyone,rfl⟩;refine aU (LN (hI.it y hym).1) (aU (nu (by omega)) (aU (LN (hI.it x hxm).1) ?_));refine Tm.bind (Q:=fun _=>True) (aY (fun h3=>aM trivial) (fun h3=>?_)) fun v _=>aY (fun h4=>aM fun _=>hnew) (fun h4=>aM hab);have h3:b=true:=by simpa using h3
       obtain⟨x',hx',y',hy',w',-,-,-,rfl⟩:=hab h3;have b3:=hbd y' hy';have b4:=hbd x' hx';have d1:=jG (K:=K) (a:=(aI s.known x.pos).b) (b:=-(aI s.known y.pos).b) b2 (by rw[fR];exact b1);have d2:=jG (K:=K) (a:=(aI s.known x'.pos).b) (b:=-(aI s.known y'.pos).b) b4 (by rw[fR];exact b3);exact aU (l6 (by omega) (by rw[fR];omega)) (aU (l6 (by omega) (by rw[fR];omega)) (aU (kg (by omega) (by omega)) (aM trivial)))
 . rintro⟨a,b⟩ h;exact aM h
end
end Go.D
set_option maxHeartbeats 1000000
namespace Go.D
open Go Go.X
inductive lj where
 |leaf (st:List AS)
 |node (st:List AS) (f:List Int) (b:Int) (l r:lj)
def lj.to:lj->Proof
 |leaf st=>⟨st.map AS.to,[],⟨false,[]⟩,[]⟩
 |node st f b l r=>⟨st.map AS.to,mB f,B b,[l.to,r.to]⟩
def oL(n:Nat)(kn:List AQ):Prop:=kn.length<=1073741824/\∀q∈kn,fA 536870912 q/\q.c.length=n
inductive Ref (n:Nat):List AQ->lj->Prop where
 |leaf {base:List AQ} {st:List AS} {kn:List AQ} (hD:gU n base st kn) (hk:oL n kn) (q:AQ) (hq:q∈kn) (hz:∀j,j<n->vf q.c j=0) (hb:q.b<0):Ref n base (.leaf st)
 |node {base:List AQ} {st:List AS} {kn:List AQ} {f:List Int} {b:Int} {l r:lj} (hD:gU n base st kn) (hf:f.length=n) (hl:Ref n (kn++[⟨f,b⟩]) l) (hr:Ref n (kn++[⟨bT f,-b-1⟩]) r):Ref n base (.node st f b l r)
theorem oL.sub{n:Nat}{kn e:List AQ}(h:oL n (kn++e)):oL n kn:=⟨by have:=h.1;rw[db]at this;omega,fun q hq=>h.2 q (BV _ hq)⟩
theorem gU.pre{n:Nat}{base:List AQ}{st:List AS}{kn:List AQ}(h:gU n base st kn):∃e,kn=base++e/\e.length=st.length:=by
 induction h with
 |nil=>exact⟨[],by simp,rfl⟩
 |snoc h hs ih=>
  obtain⟨e,he,hl⟩:=ih;exact⟨e++[_],by rw[he,iZ],by simp[hl]⟩
theorem Ref.kok{n:Nat}{base:List AQ}{p:lj}(h:Ref n base p):oL n base:=by
 induction h with
 |leaf hD hk q hq hz hb=>
  obtain⟨e,rfl,_⟩:=hD.pre;exact hk.sub
 |node hD hf hl hr ihl ihr=>
  obtain⟨e,rfl,_⟩:=hD.pre;exact ihl.sub.sub
def kV(n:Nat)(x:Nat->Int)(q:AQ):Prop:=bE (vf q.c) x n<=q.b
theorem JP{n:Nat}{x:Nat->Int}{kn:List AQ}(hk:∀q∈kn,kV n x q):∀{us:List AU},(∀u∈us,u.ix<kn.length/\0<=u.n)->bE (dU kn us) x n<=fY kn us
 |[],_=>by rw[qT (f:=dU kn []) fun _ _=>rfl];exact mZ 0
 |u::us,h=>by
  have h1:=JP hk (us:=us) fun v hv=>h v (cH _ hv);obtain⟨h2,h3⟩:=h u cK;have h4:=hk _ (eK h2);have e:bE (dU kn (u::us)) x n=bE (dU kn us) x n+u.n*bE (vf (aI kn u.ix).c) x n:=by
   rw[<-u4];exact eF (fun j _=>by show _+_=_;omega) fun _ _=>rfl
  rw[e];have:=gg h4 h3;show _<=u.n*(aI kn u.ix).b+fY kn us;omega
theorem Pc{n:Nat}{x:Nat->Int}{kn:List AQ}{s:AS}{q:AQ}(hk:∀q∈kn,kV n x q)(hs:A1 n kn s q):kV n x q:=by
 have h1:=JP hk (us:=s.cD) fun u hu=>⟨(hs.cD u hu).1,(hs.cD u hu).2.1⟩;rw[hs.q];show bE (vf (vec n fun j=>dU kn s.cD j/s.d)) x n<=fY kn s.cD/s.d;have e:bE (dU kn s.cD) x n=s.d*bE (vf (vec n fun j=>dU kn s.cD j/s.d)) x n:=by
  rw[<-rj];refine eF (fun j hj=>?_) fun _ _=>rfl;rw[dJ hj,fE,MR (hs.dvd j hj)]
 rw[e]at h1;exact(Int.le_ediv_iff_mul_le hs.d).2 (by rw[fE];exact h1)
theorem gU.sound{n:Nat}{x:Nat->Int}{base:List AQ}{st:List AS}{kn:List AQ}(h:gU n base st kn)(hb:∀q∈base,kV n x q):∀q∈kn,kV n x q:=by
 induction h with
 |nil=>exact hb
 |snoc h hs ih=>
  intro q hq;rcases fN.1 hq with hq|hq
  . exact ih q hq
  . rw[cL.1 hq];exact Pc ih hs
theorem LO{f:List Int}{x:Nat->Int}{n:Nat}:bE (vf (bT f)) x n=-bE (vf f) x n:=by
 have:=rj (f:=vf f) (g:=x) (k:=-1) n;rw[eF (f:=vf (bT f)) (f':=fun j=>-1*vf f j) (g:=x) (g':=x) (fun j _=>by rw[iF];omega) fun _ _=>rfl,this];omega
theorem Ref.sound{n:Nat}{base:List AQ}{p:lj}(h:Ref n base p)(x:Nat->Int):¬∀q∈base,kV n x q:=by
 induction h with
 |leaf hD hk q hq hz hb=>
  intro hs;have:=hD.sound hs q hq;unfold kV at this;rw[qT hz]at this;omega
 |node hD hf hl hr ihl ihr=>
  intro hs;have hk:=hD.sound hs;rename_i f b l r;rcases vL (bE (vf f) x n) b with h|h
  . refine ihl fun q hq=>?_;rcases fN.1 hq with hq|hq
    . exact hk q hq
    . rw[cL.1 hq];exact h
  . by_cases e:bE (vf f) x n=b
    . refine ihl fun q hq=>?_;rcases fN.1 hq with hq|hq
      . exact hk q hq
      . rw[cL.1 hq];exact Int.le_of_eq e
    . refine ihr fun q hq=>?_;rcases fN.1 hq with hq|hq
      . exact hk q hq
      . rw[cL.1 hq];show bE (vf (bT f)) x n≤-b-1;rw[LO];omega
theorem oki{n K:Nat}{q:AQ}(hn:n<=K)(hl:q.c.length=n)(h:fA K q):qE K q.to:=by
 refine⟨by show(mB q.c).length<=_;rw[dG];omega,fun b hb=>?_,okB h.2⟩;obtain⟨v,hv,rfl⟩:=dL.1 hb;exact okB (h.1 v hv)
theorem getq{l:List AQ}{i:Nat}(h:i<l.length):(l.map AQ.to).getD i k7=(aI l i).to:=by
 rw[cy,gM,bV h,uP h];rfl
theorem zz{l:List Int}{j:Nat}:(mB l).getD j eN=B (vf l j):=by
 rcases cv j l.length with h|h
 . rw[rm (by rw[dG];exact h),DZ,nH h]
 . rw[mG h,B0,cy,fM (by rw[dG];exact h)];rfl
theorem IA{l:List AQ}:∀{us:List AU} {f:Nat->Int} {b:Int},(∀u∈us,u.ix<l.length/\0<=u.n)->lT (l.map AQ.to) (us.map AU.to) (f,b)=some (fun j=>f j+dU l us j,b+fY l us)
 |[],f,b,_=>by
  show some (f,b)=some (fun j=>f j+0,b+0);simp
 |u::us,f,b,h=>by
  obtain⟨h1,h2⟩:=h u cK;show(if mw (l.map AQ.to) u.to then none else lT (l.map AQ.to) (us.map AU.to) (wC (l.map AQ.to) u.to (f,b)))=_;have hb:¬mw (l.map AQ.to) u.to:=by
   unfold mw;show¬((u.ix:Int)<0\/((l.map AQ.to).length:Int)<=(u.ix:Int)\/bv (B u.n)<0);rw[gB,cN];omega
  rw[if_neg hb];have e:wC (l.map AQ.to) u.to (f,b)=(fun j=>f j+u.n*vf (aI l u.ix).c j,b+u.n*(aI l u.ix).b):=by
   unfold wC;rw[show u.to.Index.toNat=u.ix from mc _,getq h1];show((fun j=>f j+bv (B u.n)*bv ((mB (aI l u.ix).c).getD j eN)),b+bv (B u.n)*bv (B (aI l u.ix).b))=_;rw[gB,gB];congr 1;funext j;rw[zz,gB]
  rw[e,IA fun v hv=>h v (cH _ hv)];congr 2
  . funext j;show _=f j+(_+_);omega
  . show _=b+(_+_);omega
theorem IB{n:Nat}{f:Nat->Int}:iG n (mB (vec n f)) f:=⟨by rw[dG,eZ],fun j hj=>by rw[zz,dJ hj];exact mz _⟩
theorem CI{n:Nat}{l:List AQ}(hl:l≠[])(h:∀q∈l,q.c.length=n):nV (l.map AQ.to)=n/\lL (l.map AQ.to):=by
 have h0:nV (l.map AQ.to)=n:=by
  unfold nV;rw[getq (qN.2 hl)];show(mB _).length=n;rw[dG];exact h _ (eK (qN.2 hl))
 refine⟨h0,fun q hq=>?_⟩;obtain⟨a,ha,rfl⟩:=dL.1 hq;rw[h0];show(mB _).length=n;rw[dG];exact h a ha
theorem Ui{n:Nat}{l:List AQ}{s:AS}{q:AQ}(hl:l≠[])(h:∀q∈l,q.c.length=n)(hs:A1 n l s q):mL (l.map AQ.to) s.to (q.to,true):=by
 obtain⟨h1,h2⟩:=CI hl h;unfold mL;have hd:bv s.to.fX=s.d:=gB _;rw[hd,if_pos ⟨h2,hs.d⟩,show s.to.Uses=s.cD.map AU.to from rfl,IA fun u hu=>⟨(hs.cD u hu).1,(hs.cD u hu).2.1⟩];dsimp only;rw[h1,if_pos (fun j hj=>by rw[B3];exact Int.emod_eq_zero_of_dvd (hs.dvd j hj)),hs.q];refine⟨rfl,?_,?_⟩
 . have:(fun j=>(0+dU l s.cD j)/s.d)=fun j=>dU l s.cD j/s.d:=by funext j;rw[B3]
   rw[this];exact IB
 . rw[B3];exact mz _
theorem gU.nth{n:Nat}{base:List AQ}{st:List AS}{kn:List AQ}(h:gU n base st kn):∀k (hk:k<st.length),A1 n (kn.take (base.length+k)) st[k] (aI kn (base.length+k)):=by
 induction h with
 |nil=>intro k hk;cases hk
 |snoc h hs ih=>
  rename_i ss l s q;obtain⟨e,he,hel⟩:=h.pre;have hll:l.length=base.length+ss.length:=by rw[he];simp[hel]
  intro k hk;rw[db,km]at hk;rcases cv k ss.length with h1|h1
  . have:=ih k h1;rw[ME h1,iI (by omega),qM (by omega)];exact this
  . obtain rfl:k=ss.length:=by omega
    rw[List.getElem_concat_length rfl,<-hll,pD,qM (bI _),tg];exact hs
theorem iG.snoc{n:Nat}{c:List aB}{f:Nat->Int}{y:aB}(h:iG n c f)(hy:Is y (f n)):iG (n+1) (c++[y]) f:=by
 refine⟨by simp[h.1],fun j hj=>?_⟩;rcases cv j n with h1|h1
 . have:=h.2 j h1;rwa[cy,jR (by rw[h.1];exact h1),<-cy]
 . obtain rfl:j=n:=by omega
   rw[cy,og (by rw[h.1];exact bI _),h.1];simpa using hy
theorem Nr{K:Nat}{q:bB}{b:aB}(hK:K<=1073741824)(hl:q.aZ.length<=K)(hlb:∀x∈q.aZ,jB K x)(hb:bA aC b.aP)(hbl:b.aP.length<=1099511627776):
 Tm (fun N=>qb N q b) (fun r=>iG q.aZ.length r.aZ (fun j=>-bv (q.aZ.getD j eN))/\Is r.dw (bv b)):=by
 unfold qb;refine Tm.bind (I7 hb (by omega)) ?_;rintro b' ⟨hb',hbl⟩;refine Tm.bind (Q:=fun c:List aB=>iG q.aZ.length c (fun j=>-bv (q.aZ.getD j eN)))
  (Tm.loop (fun t:List aB×Int=>∃k:Nat,t.2=k/\k<=q.aZ.length/\iG k t.1 (fun j=>-bv (q.aZ.getD j eN))) (fun t=>q.aZ.length-t.2.toNat)
   ⟨0,rfl,fy _,⟨rfl,fun j hj=>absurd hj (by omega)⟩⟩ ?_) ?_
 . rintro⟨c,kk⟩ ⟨k,rfl,hk,hc⟩;dsimp only[Bj]at*;have hcl:=hc.1;refine aY (fun h=>?_) (fun h=>aS ?_)
   . refine aN (vd rfl (by omega)) ?_;have hx:=hlb _ (II (l:=q.aZ) (n:=k) (by omega));refine Tm.bind (wL hx.1 (by have:=hx.2;omega)) ?_;rintro y ⟨hy,hyl⟩;refine aN (dQ (by simp only[cA,dP];omega) (by decide)) (aS ⟨⟨k+1,by show iw ((k:Int)+1)=_;rw[bK]<;>omega,by omega,hc.snoc hy⟩,?_⟩);show q.aZ.length-(iw ((k:Int)+1)).toNat<q.aZ.length-((k:Int)).toNat;rw[bK]<;>omega
   . obtain rfl:k=q.aZ.length:=by omega
     exact hc
 . intro c hc;exact aS ⟨hc,hb'⟩
theorem HB{kn:List AQ}{q:AQ}:(kn++[q]).map AQ.to=kn.map AQ.to++[q.to]:=by rw[jU];rfl
theorem PH{n:Nat}(hn:n<=512){base:List AQ}{p:lj}(h:Ref n base p)(hb0:base≠[]):Tm (fun N=>rM N (base.map AQ.to) p.to) (·=true):=by
  have steps:∀{base:List AQ} {st:List AS} {kn:List AQ} {P:Proof},base≠[]->gU n base st kn->oL n kn->P.Steps=st.map AS.to->
      Tm (fun N=>bJ (yT N P) N (base.map AQ.to,0)) (·=.inl (kn.map AQ.to)):=by
    intro base st kn P hb0 hD hk hP;obtain⟨e,rfl,hel⟩:=hD.pre;have hkl:=hk.1;rw[db]at hkl;refine eL st.length (fun k t=>t=(((base++e).take (base.length+k)).map AQ.to,(k:Int))) (by rw[pH,qM (bI _),tg];rfl) ?_;rintro k hkk _ rfl;dsimp only[yT];rw[hP,cN];refine aY (fun hlt=>?_) (fun hge=>aM ?_)
    . have hlt:k<st.length:=by omega
      have hs:=hD.nth k hlt;have hne:(base++e).take (base.length+k)≠[]:=by
        have:=qN.2 hb0;intro e';have:=congrArg List.length e';rw[fg,db,dP]at this;omega
      have hsub:∀q∈(base++e).take (base.length+k),fA 536870912 q/\q.c.length=n:=fun q hq=>hk.2 q (ta hq);refine aN (de (by rw[cN];exact hlt)) ?_;rw[kK];refine aU (a:=((aI (base++e) (base.length+k)).to,true)) ((Pm (K:=536870912) (bI _) (by rw[cN,fg,db];omega) (fun q hq=>?_) ⟨?_,fun u hu=>?_,okB hs.dl⟩).mono fun r hr=>hr.uniq (Ui hne (fun q hq=>(hsub q hq).2) hs)) ?_
      . obtain⟨a,ha,rfl⟩:=dL.1 hq;exact oki (by omega) (hsub a ha).2 (hsub a ha).1
      . show(List.map AU.to _).length<=_;rw[cN];have:=hs.len;omega
      . obtain⟨a,ha,rfl⟩:=dL.1 (show u∈(st[k]).cD.map AU.to from hu);exact okB (hs.cD a ha).2.2
      . refine cz (by simp) (aN (dQ (by rw[cN,fg,db,km];omega) (by decide)) (aM ⟨hlt,?_⟩));have hlt2:base.length+k<(base++e).length:=by rw[db];omega
        rw[ep (by omega),show base.length+(k+1)=(base.length+k)+1 by omega,<-jV hlt2,uP hlt2,HB]
    . have:k=st.length:=by omega
      subst this;rw[fh (by rw[db];omega)]
  have copy:∀{l:List AQ},l.length<=1073741824->cS 56 ([]:List bB) (l.map AQ.to)=some (l.map AQ.to):=fun{l} hl=>by
    rw[dQ (by rw[cN];simp only[dP];omega) (by decide)];rfl
  induction h with
  |leaf hD hk q hq hz hb=>
    rename_i base st kn;obtain⟨e,hke,hel⟩:=hD.pre;have hbk:oL n base:=by rw[hke]at hk;exact hk.sub
    refine Tm.succ ?_;show Tm (fun N=>sa N (rM N) _ _) _;unfold sa;refine Tm.bind (Fu (by rw[cN];have:=hbk.1;omega)) ?_;rintro _ rfl;refine cz (by simp[(CI hb0 fun q hq=>(hbk.2 q hq).2).2]) (aN (copy hbk.1) (aU (steps hb0 hD hk rfl) ?_));dsimp only;refine cY rfl ?_;refine Tm.bind (Q:=(·=.inr true)) (eL kn.length (fun k t=>t=(k:Int)/\∀j,j<k->xN (aI kn j).to=false) ⟨rfl,fun j hj=>by omega⟩ ?_) ?_
    . rintro k hkk _ ⟨rfl,hj⟩;dsimp only[CY];rw[cN];refine aY (fun hlt=>?_) (fun hge=>aM ?_)
      . have hlt:k<kn.length:=by omega
        have hqk:=hk.2 _ (eK hlt);refine aN (nM hlt) (aU (M7 (K:=536870912) (by decide) (oki (by omega) hqk.2 hqk.1)) (aY (fun h=>aM rfl) (fun h=>aM ⟨hlt,ep (by have:=hk.1;omega),fun j hjk=>?_⟩)));rcases cv j k with h1|h1
        . exact hj j h1
        . obtain rfl:j=k:=by omega
          simpa using h
      . have hkl:k=kn.length:=by omega
        subst hkl;obtain⟨j,hjl,rfl⟩:=nc hq;have:=hj j hjl;rw[uP hjl]at this;have h2:xN (kn[j]).to=true:=by
          unfold xN;refine decide_eq_true ⟨fun b hb'=>?_,?_⟩
          . obtain⟨v,hv,rfl⟩:=dL.1 (show b∈(kn[j]).c.map B from hb');rw[gB];obtain⟨m,hm,rfl⟩:=gE hv;exact hz m (by have:=(hk.2 _ (du hjl)).2;omega)
          . show bv (B _)<0;rw[gB];exact hb
        rw[h2]at this;cases this
    . rintro _ rfl;exact aM rfl
  |node hD hf hl hr ihl ihr=>
    rename_i base st kn f b l r;have hkl:=hl.kok;have hkr:=hr.kok;have hk:oL n kn:=hkl.sub;obtain⟨e,hke,hel⟩:=hD.pre;have hbk:oL n base:=by rw[hke]at hk;exact hk.sub
    have hkn0:kn≠[]:=by rw[hke];intro e';exact hb0 (FM.1 e').1
    have hqf:fA 536870912 ⟨f,b⟩:=(hkl.2 _ (vI _ (cL.2 rfl))).1;have hkl1:=hkl.1;rw[db,km]at hkl1;refine Tm.succ ?_;show Tm (fun N=>sa N (rM N) _ _) _;unfold sa;refine Tm.bind (Fu (by rw[cN];have:=hbk.1;omega)) ?_;rintro _ rfl;refine cz (by simp[(CI hb0 fun q hq=>(hbk.2 q hq).2).2]) (aN (copy hbk.1) (aU (steps hb0 hD hk rfl) ?_));dsimp only;refine cz (by show¬((2:Nat):Int)=0;omega) ?_;refine aU (a:=false) (cz (by show¬((2:Nat):Int)≠2;omega) (cY (by rw[cN];have:=qN.2 hkn0;omega) (aN (nM (i:=0) (qN.2 hkn0)) (aM ?_)))) ?_
    . refine decide_eq_false ?_;show¬(((mB f).length:Int)≠((mB (aI kn 0).c).length:Int));rw[dG,dG,hf,(hk.2 _ (eK (qN.2 hkn0))).2];omega
    refine cz (by simp) ?_;have hb2:=hqf.2;refine Tm.bind (wL (x:=B b) (bL b) (show dl b<=_ by have:dl b<=536870912:=hb2;omega)) ?_;rintro nb ⟨hnb,hnbl⟩;refine Tm.bind (tC (n:=1) (by decide) (by decide)) ?_;rintro one ⟨h1,h1l⟩;have hnbl:nb.aP.length<=dl b:=hnbl;have hb3:dl b<=536870912:=hb2;refine Tm.bind (J4 hnb.dg.bL h1.dg.bL (by omega) (by omega)) ?_;rintro i ⟨hi,hil⟩;rw[hnb.bv,h1.bv,gB]at hi;refine aU (a:=(⟨bT f,-b-1⟩:AQ).to) ((Nr (K:=536870912) (q:=bB.mk (mB f) (B b)) (b:=i) (by decide) (by show(mB f).length<=_;rw[dG];omega) (fun x hx=>?_) hi.dg.bL (by omega)).mono fun r hr=>?_) ?_
    . obtain⟨v,hv,rfl⟩:=dL.1 (show x∈f.map B from hx);exact okB (hqf.1 v hv)
    . obtain⟨g1,g2⟩:=hr;rw[hi.bv]at g2;have e1:r.aZ=mB (bT f):=by
        refine iG.uniq (n:=n) (f:=fun j=>-vf f j) ?_ ?_
        . refine⟨g1.1.trans ((dG f).trans hf),fun j hj=>?_⟩;have:=g1.2 j (by show j<(mB f).length;rw[dG];omega);dsimp only at this;rw[zz,gB]at this;exact this
        . have:iG n (mB (vec n fun j=>-vf f j)) (fun j=>-vf f j):=IB;unfold bT;rw[hf];exact this
      have e2:r.dw=B (-b-1):=pS g2;cases r;dsimp only at e1 e2;subst e1;subst e2;rfl
    refine aN (copy hk.1) (aN (dQ (by rw[cN,km];omega) (by decide)) (aN (copy hk.1) (aN (dQ (by rw[cN,km];omega) (by decide)) (aN (a:=l.to) rfl ?_))));have el:=ihl (by simp);have er:=ihr (by simp);rw[HB]at el er;refine aU el (cY rfl (aN (a:=r.to) rfl (aU er (aM rfl))))
end Go.D
set_option maxHeartbeats 1000000
namespace Go.D
open Go Go.X
def cB:Nat->Nat
 |0=>1
 |1=>1
 |2=>400000000
 |3=>10000
 |_=>50
def iB:Nat->Nat
 |0=>0
 |1=>2
 |2=>23870
 |3=>306
 |_=>32
def uB:Nat->Nat
 |0=>14937233000
 |1=>14937232900
 |2=>537232800
 |3=>536872800
 |_=>536870912
def lB:Nat->Nat
 |0=>10
 |1=>400
 |2=>542600000
 |3=>542700000
 |_=>542800000
def dB:Nat->Nat
 |0=>10
 |1=>1000
 |2=>400200000
 |3=>400300000
 |_=>400400000
theorem lev{f:Nat}(h:f+1<=4):f=0\/f=1\/f=2\/f=3:=by omega
theorem lM(f:Nat):cB f<=400000000/\1<=cB f:=by
 match f with
 |0=>decide
 |1=>decide
 |2=>decide
 |3=>decide
 |f+4=>exact⟨show 50<=_ by omega,show 1<=50 by omega⟩
theorem nr(f:Nat):iB f<=23870:=by
 match f with
 |0=>decide
 |1=>decide
 |2=>decide
 |3=>decide
 |f+4=>exact show 32<=_ by omega
theorem An(f:Nat):536870912<=uB f/\uB f<=14937233000:=by
 match f with
 |0=>decide
 |1=>decide
 |2=>decide
 |3=>decide
 |f+4=>exact⟨show 536870912<=536870912 by omega,show 536870912<=_ by omega⟩
theorem LH{u w m:Nat}(h:u+w<=m):4*(u*w)<=m*m:=by
 have h1:=iN h h;rcases Nat.le_total u w with h2|h2
 . obtain⟨d,rfl⟩:=Mt h2;have:(u+(u+d))*(u+(u+d))=4*(u*(u+d))+d*d:=by grind
   omega
 . obtain⟨d,rfl⟩:=Mt h2;have:(w+d+w)*(w+d+w)=4*((w+d)*w)+d*d:=by grind
   omega
theorem xG{v:Nat}:∀l:List AI,(cx v l).length+(dh v l).length+(l.filter fun x=>!decide (vf x.g v≠0)).length=l.length
 |[]=>rfl
 |x::l=>by
  have:=xG (v:=v) l;rcases tj (vf x.g v) 0 with h|h|h
  . have e1:cx v (x::l)=cx v l:=by unfold cx;rw[yx];simp;omega
    have e2:dh v (x::l)=x::dh v l:=by unfold dh;rw[MW];simp[h]
    rw[e1,e2,yx (by simp;omega),cA,cA];omega
  . have e1:cx v (x::l)=cx v l:=by unfold cx;rw[yx];simp;omega
    have e2:dh v (x::l)=dh v l:=by unfold dh;rw[yx];simp;omega
    rw[e1,e2,MW (by simp[h]),cA,cA];omega
  . have e1:cx v (x::l)=x::cx v l:=by unfold cx;rw[MW];simp[h]
    have e2:dh v (x::l)=dh v l:=by unfold dh;rw[yx];simp;omega
    rw[e1,e2,yx (by simp;omega),cA,cA];omega
def gZ(p:Nat->Bool):Nat->Nat
 |0=>0
 |n+1=>gZ p n+if p n then 1 else 0
theorem Hb{p q:Nat->Bool}:∀{n:Nat},(∀j,j<n->p j=q j)->gZ p n=gZ q n
 |0,_=>rfl
 |n+1,h=>by simp only[gZ];rw[Hb (n:=n) fun j hj=>h j (by omega),h n (by omega)]
theorem Hr{p q:Nat->Bool}{v:Nat}:∀{n:Nat},v<n->p v=true->q v=false->(∀j,j<n->j≠v->q j=p j)->gZ q n+1=gZ p n
 |n+1,hv,h1,h2,h=>by
  simp only[gZ];by_cases e:n=v
  . subst e;rw[Hb (p:=q) (q:=p) (n:=n) fun j hj=>h j (by omega) (by omega),h1,h2];simp
  . rw[h n (by omega) e];have:=Hr (n:=n) (by omega) h1 h2 fun j hj hjv=>h j (by omega) hjv;omega
theorem zr{p:Nat->Bool}{i:Nat}:∀{n:Nat},i<n->p i=true->1<=gZ p n
 |n+1,hi,h=>by
  simp only[gZ];by_cases e:n=i
  . subst e;rw[h];simp
  . have:=zr (n:=n) (by omega) h;omega
theorem E9{p:Nat->Bool}{i j:Nat}:∀{n:Nat},gZ p n<=1->i<n->j<n->p i=true->p j=true->i=j
 |n+1,hc,hi,hj,h1,h2=>by
  simp only[gZ]at hc;by_cases e1:n=i
  . subst e1;by_cases e2:n=j
    . exact e2
    . rw[h1,if_pos rfl]at hc;have:=zr (n:=n) (by omega) h2;omega
  . by_cases e2:n=j
    . subst e2;rw[h2,if_pos rfl]at hc;have:=zr (n:=n) (by omega) h1;omega
    . exact E9 (n:=n) (by omega) (by omega) (by omega) h1 h2
def gX(s:St):Nat:=gZ (fun j=>decide (vf s.status j=0)) s.n
theorem IY{s s':St}{v:Nat}{c:Int}(hn:s'.n=s.n)(hv:v<s.n)(h0:vf s.status v=0)(hc:c≠0)(h:∀j,vf s'.status j=if v=j then c else vf s.status j):gX s'+1=gX s:=by
 unfold gX;rw[hn];refine Hr hv (by simp[h0]) (by rw[h,if_pos rfl];simp[hc]) fun j hj hjv=>?_;rw[h,if_neg fun e=>hjv e.symm]
theorem xj{s:St}(hI:Inv s){x:AI}(hx:x∈s.items):∃w,w<s.n/\vf x.g w≠0/\vf s.status w=0:=by
 refine jD fun h=>?_;have h1:=hI.gz x hx;have h2:(2:Int)∣((dc x.g:Nat):Int):=oW fun v hv=>by
  obtain⟨j,hj,rfl⟩:=gE hv;have hj:j<s.n:=by rw[(hI.it x hx).2]at hj;exact hj
  have:vf x.g j=0:=jD fun e=>h ⟨j,hj,e,jD fun e2=>e (hI.nf x hx j hj e2)⟩;rw[this];exact yu 2
 rw[h1]at h2;omega
theorem Gp{s:St}(hI:Inv s)(hf:gX s<=1){x:AI}(hx:x∈s.items):∃w,re s.n x.g w/\vf s.status w=0/\(vf x.g w).natAbs=1:=by
 obtain⟨w,hw,hw0,hws⟩:=xj hI hx;have hS:re s.n x.g w:=⟨hw,hw0,fun j hj hjw=>jD fun e=>by
  have hjs:vf s.status j=0:=jD fun e2=>e (hI.nf x hx j hj e2);exact hjw (E9 hf hj hw (by simp[hjs]) (by simp[hws]))⟩
 exact⟨w,hS,hws,Cg (hI.it x hx).2 (hI.gz x hx) hS⟩
theorem zF{s:St}(hI:Inv s)(hf:gX s<=1):∀x∈s.items,∀j,j<s.n->(vf x.g j).natAbs<=1:=by
 intro x hx j hj;obtain⟨w,h1,_,h3⟩:=Gp hI hf hx;by_cases e:j=w
 . subst e;omega
 . rw[h1.2.2 j hj e];simp
theorem Hw{s:St}(hI:Inv s)(hf:gX s<=1):s.items.length<=2:=by
 by_cases h0:∃w,w<s.n/\vf s.status w=0
 . obtain⟨w,hw,hws⟩:=h0;have hnd:(s.items.map AI.g).Nodup:=by unfold List.Nodup;rw[Gg];exact hI.kh
   have:=Uz (l₂:=[vec s.n fun j=>if j=w then 1 else 0,vec s.n fun j=>if j=w then-1 else 0]) hnd (fun g hg=>by
    obtain⟨x,hx,rfl⟩:=dL.1 hg;obtain⟨w',h1,h2,h3⟩:=Gp hI hf hx;obtain rfl:w'=w:=E9 hf h1.1 hw (by simp[h2]) (by simp[hws]);have hxl:=(hI.it x hx).2;have key:∀c:Int,vf x.g w'=c->x.g=vec s.n fun j=>if j=w' then c else 0:=fun c hc=>lY (by rw[hxl,eZ]) fun j hj=>by
     rw[dJ (by omega)];by_cases e:j=w'
     . subst e;rw[if_pos rfl,hc]
     . rw[if_neg e];exact h1.2.2 j (by omega) e
    rcases Int.natAbs_eq_iff.1 (show(vf x.g w').natAbs=(1:Nat) from h3)with h4|h4
    . rw[key 1 h4];simp
    . rw[key (-1) h4];simp)
   simpa using this
 . cases hi:s.items with
   |nil=>simp
   |cons x l=>
    obtain⟨w,h1,_,h3⟩:=xj hI (x:=x) (by rw[hi];simp);exact absurd ⟨w,h1,h3⟩ h0
theorem D1{s:St}(hI:Inv s)(hf:gX s=0):s.items=[]:=by
 cases hi:s.items with
 |nil=>rfl
 |cons x l=>
  obtain⟨w,h1,_,h3⟩:=xj hI (x:=x) (by rw[hi];simp);have:=zr (p:=fun j=>decide (vf s.status j=0)) h1 (by simp[h3]);unfold gX at hf;omega
structure Good (sys base:List AQ)(f K:Nat)(s:St):Prop where
 inv:Inv s
 rf:RF sys s
 n:s.n<=4
 fr:gX s<=f
 co:∀x∈s.items,∀j,j<s.n->(vf x.g j).natAbs<=cB f
 q:∀q∈s.known,fA K q
 su:SU (uB f) s
 st:∀e∈s.stack,pg s e
 jc:gU s.n base s.steps s.known
section
variable {sys base:List AQ} {f K:Nat} {s:St}
theorem wG{n C:Nat}{x:AI}(hl:x.g.length=n)(h:∀j,j<n->(vf x.g j).natAbs<=C)(hC:C<=4294967295):∀v∈x.g,dl v<=1:=fun v hv=>by
 obtain⟨j,hj,rfl⟩:=gE hv;exact j2 (by have:=h j (by omega);omega)
theorem Good.mq(h:Good sys base f K s){K':Nat}(hK:K<=K')(hK':K'<=1099511627000)(hkl:s.known.length<=1073741824)(hil:s.items.length<=1073741824):gu K' s:=by
 obtain⟨e,he,hel⟩:=h.jc.pre;refine⟨by have:=h.n;omega,hkl,by rw[he,db]at hkl;omega,hil,fun q hq=>⟨(h.q q hq).mono hK,h.inv.kl q hq⟩,fun x hx=>?_,hK'⟩;obtain⟨x1,x2⟩:=h.inv.it x hx;exact⟨x1,x2,fun v hv=>bO (wG x2 (h.co x hx) (by have:=lM f;omega) v hv) (by decide)⟩
theorem Good.steps(h:Good sys base f K s):s.steps.length<=s.known.length:=by
 obtain⟨e,he,hel⟩:=h.jc.pre;rw[he,db];omega
theorem Good.yR(h:Good sys base f K s)(hil:s.items.length<=1073741824):iE s.n s.items:=⟨hil,fun x hx=>by
 obtain⟨x1,x2⟩:=h.inv.it x hx;exact⟨x2,fun v hv=>bO (wG x2 (h.co x hx) (by have:=lM f;omega) v hv) (by decide)⟩⟩
theorem tR{Kk K:Nat}:∀(L:List Act) (s:St),gu K s->jf L.length s->(∀a∈L,kM Kk s a)->Kk+6<=K->gu K (bU s L).2
 |[],s,hs,_,_,_=>hs
 |.add x::r,s,hs,hr,hA,hK=>by
  obtain⟨h1,h2⟩:=Hg (m:=r.length) hs (hA _ cK) hr;exact tR r _ h1 h2 (fun a ha=>(hA a (cH _ ha)).app rfl (e:=[]) (by simp[add])) hK
 |.put g us::r,s,hs,hr,hA,hK=>by
  have hp:gA Kk s g us:=hA _ cK;obtain⟨h1,h2⟩:=IV (m:=r.length) hs hp hK hr;obtain⟨e,he,_⟩:=yN s g us;have e1:bU s (.put g us::r)=if(put s g us).1=true then bU (put s g us).2 r else(false,(put s g us).2):=rfl;rw[e1];split
  . exact tR r _ h1 h2 (fun a ha=>(hA a (cH _ ha)).app (Bc s g us) he) hK
  . exact h1
theorem pg.kept{s s':St}{e:AE}(h:pg s e)(k:Kept s s'):pg s' e:=by
 obtain⟨x,hx⟩:=k.kn;exact⟨h.il,by rw[k.n];exact h.v,fun p hp=>⟨by rw[hx,db];have:=(h.p p hp).1;omega,by rw[k.u,k.n,hx,iI (h.p p hp).1];exact(h.p p hp).2⟩⟩
theorem SU.mono{K K':Nat}{s:St}(h:SU K s)(hK:K<=K'):SU K' s:=⟨⟨h.u.1,fun r hr=>⟨(h.u.2 r hr).1,fun v hv=>bO ((h.u.2 r hr).2 v hv) hK⟩⟩,h.st,⟨h.v.1,fun v hv=>bO (h.v.2 v hv) hK⟩⟩
theorem yY(hI:Inv s){n:Nat}(hn:s.n=n)(hD:gU n base s.steps s.known)(hkl:s.known.length<=1073741824)(hq:∀q∈s.known,fA 536870912 q)(hb:∃q∈s.known,(∀j,j<n->vf q.c j=0)/\q.b<0):Ref n base (.leaf s.steps):=by
 obtain⟨q,h1,h2,h3⟩:=hb;exact .leaf hD ⟨hkl,fun q hq'=>⟨hq q hq',by rw[hI.kl q hq',hn]⟩⟩ q h1 h2 h3
theorem HJ{f M:Nat}(hf:f+1<=4)(hI:Inv s)(hfr:gX s<=f)(hM:M=4*(cB (f+1)*cB (f+1)))(h:∀z∈s.items,GB M z.g):∀x∈s.items,∀j,j<s.n->(vf x.g j).natAbs<=cB f:=by
 intro x hx j hj;have h1:(vf x.g j).natAbs<=M:=h x hx _ (gr (by rw[(hI.it x hx).2];exact hj));rcases lev hf with rfl|rfl|rfl|rfl
 . exact zF hI (by omega) x hx j hj
 . exact zF hI (by omega) x hx j hj
 . exact bO h1 (by rw[hM];decide)
 . exact bO h1 (by rw[hM];decide)
theorem H8{f m:Nat}(hf:f+1<=4)(hI:Inv s)(hfr:gX s<=f)(hm:m<=iB (f+1)+1)(h:s.items.length<=m+m*m/4):s.items.length<=iB f:=by
 have hmm:m*m<=(iB (f+1)+1)*(iB (f+1)+1):=iN hm hm;rcases lev hf with rfl|rfl|rfl|rfl
 . rw[D1 hI (by omega)];simp
 . exact Hw hI (by omega)
 . have:iB (2+1)=306:=rfl;have:iB 2=23870:=rfl;rw[show iB (2+1)=306 from rfl]at hm hmm;omega
 . have:iB 3=306:=rfl;rw[show iB (3+1)=32 from rfl]at hm hmm;omega
theorem wM{f m:Nat}(hf:f+1<=4)(hm:m<=iB (f+1)+1):2*m+m*m/4+cB (f+1)+300+lB f<=lB (f+1):=by
 have hmm:m*m<=(iB (f+1)+1)*(iB (f+1)+1):=iN hm hm;rcases lev hf with rfl|rfl|rfl|rfl
 . rw[show iB (0+1)=2 from rfl]at hm hmm;rw[show cB (0+1)=1 from rfl,show lB 0=10 from rfl,show lB (0+1)=400 from rfl];omega
 . rw[show iB (1+1)=23870 from rfl]at hm hmm;rw[show cB (1+1)=400000000 from rfl,show lB 1=400 from rfl,show lB (1+1)=542600000 from rfl];omega
 . rw[show iB (2+1)=306 from rfl]at hm hmm;rw[show cB (2+1)=10000 from rfl,show lB 2=542600000 from rfl,show lB (2+1)=542700000 from rfl];omega
 . rw[show iB (3+1)=32 from rfl]at hm hmm;rw[show cB (3+1)=50 from rfl,show lB 3=542700000 from rfl,show lB (3+1)=542800000 from rfl];omega
theorem xn{f m:Nat}(hf:f+1<=4)(hm:m<=iB (f+1)+1):3*m+cB (f+1)+600+dB f<=dB (f+1):=by
 rcases lev hf with rfl|rfl|rfl|rfl
 . rw[show iB (0+1)=2 from rfl]at hm;rw[show cB (0+1)=1 from rfl,show dB 0=10 from rfl,show dB (0+1)=1000 from rfl];omega
 . rw[show iB (1+1)=23870 from rfl]at hm;rw[show cB (1+1)=400000000 from rfl,show dB 1=1000 from rfl,show dB (1+1)=400200000 from rfl];omega
 . rw[show iB (2+1)=306 from rfl]at hm;rw[show cB (2+1)=10000 from rfl,show dB 2=400200000 from rfl,show dB (2+1)=400300000 from rfl];omega
 . rw[show iB (3+1)=32 from rfl]at hm;rw[show cB (3+1)=50 from rfl,show dB 3=400300000 from rfl,show dB (3+1)=400400000 from rfl];omega
theorem Ie{f n:Nat}(hf:f+1<=4)(hn:n<=4):uB (f+1)+9*(n*cB (f+1))<=uB f:=by
 have h:=sW (cB (f+1)) hn;rcases lev hf with rfl|rfl|rfl|rfl
 . rw[show cB (0+1)=1 from rfl]at h⊢;rw[show uB 0=14937233000 from rfl,show uB (0+1)=14937232900 from rfl];omega
 . rw[show cB (1+1)=400000000 from rfl]at h⊢;rw[show uB 1=14937232900 from rfl,show uB (1+1)=537232800 from rfl];omega
 . rw[show cB (2+1)=10000 from rfl]at h⊢;rw[show uB 2=537232800 from rfl,show uB (2+1)=536872800 from rfl];omega
 . rw[show cB (3+1)=50 from rfl]at h⊢;rw[show uB 3=536872800 from rfl,show uB (3+1)=536870912 from rfl];omega
theorem J9(hI:Inv s)(hfr:gX s<=f)(h:s.items≠[]):0<f:=by
 refine Nat.pos_of_ne_zero fun e=>h (D1 hI (by omega))
def Nxt(sys base:List AQ)(f K L n:Nat)(dM:List AE)(r:Bool×aR):Prop:=∃s':St,r.2=s'.to/\s'.n=n/\((r.1=true/\Good sys base f K s'/\s'.items.length<=iB f/\s'.known.length<=L/\s'.stack=dM)\/(r.1=false/\Ref n base (.leaf s'.steps)))
theorem Oz{s':St}(hI:Inv s)(h:gT s s'){p j:Nat}(hp:p<s.known.length)(hj:j<s.n)(hst:vf s.status j≠0):cu s'.u s'.n (aI s'.known p).c j=cu s.u s.n (aI s.known p).c j:=by
 obtain⟨e,he⟩:=h.kn;unfold cu;rw[h.n,he,iI hp];exact eF (fun _ _=>rfl) fun i hi=>(h.col j hj hst).2.2 i hi
theorem I2{s':St}(hI:Inv s)(h:gT s s')(hs:s'.stack=s.stack)(hr:RF sys s):RF sys s':=
 ⟨h.R hr.R,fun k e hk ht=>h.F hI (by rw[<-hs];exact hk) (hr.F k e (by rw[<-hs];exact hk) ht)⟩
theorem M1{i j m:Nat}(hf:f+1<=4)(h:Good sys base (f+1) K s)(hm:m<=iB (f+1)+1)(hil:s.items.length<=m)(hkl:s.known.length+m<=1073741824)(hK:K+6<=536870912)(he:rN s i j):
 Tm (fun N=>rA N s.to (i:Int) (j:Int)) (Nxt sys base f (K+6) (s.known.length+m) s.n s.stack):=by
 have hL:cX=1099511627776:=rfl;have hC:=lM (f+1);have hmB:=nr (f+1);have hu:=An (f+1);have hn:=h.n;have hsteps:=h.steps;have hso:=h.mq (K':=K) (bI _) (by omega) (by omega) (by omega);have hso6:=h.mq (K':=K+6) (by omega) (by omega) (by omega) (by omega);have hnC:s.n*cB (f+1)<=4*400000000:=iN hn hC.1;refine(QY h.inv hso h.su hn he h.co (by omega) (by omega) (by omega) (by omega) (by omega) (by omega)).mono ?_;rintro _ ⟨p,s1,hP,rfl⟩;have hlen:=Ih hP;have hAk:=Gm h.inv hso hn (by omega) hP he;have hinv1:=PQ h.inv hP;have hA:=ub (K:=K) (M:=4*(cB (f+1)*cB (f+1))) (dV s1 i j p 0) (eu s1 i p) hinv1 (fun a ha=>(hAk a ha).2) (fun z hz=>by cases hz) fun a ha=>(hAk a ha).1.2;have hLl:=DC (s:=s1) (i:=i) (j:=j) (p:=p) s1.items.length 0 (by omega);have hok2:gu (K+6) (eu s1 i p):=⟨by show s1.n<=_;rw[hP.n];omega,by show s1.known.length<=_;rw[hP.kn];omega,by show s1.steps.length<=_;rw[hP.st];omega,by simp[eu],fun q hq=>by
  have hq:q∈s1.known:=hq;rw[hP.kn]at hq;exact⟨(h.q q hq).mono (by omega),by rw[h.inv.kl q hq];exact hP.n.symm⟩,fun x hx=>(by cases hx),by omega⟩
 have hsok:=tR (Kk:=K) (dV s1 i j p 0) (eu s1 i p) hok2 ⟨by show s1.known.length+_<=_;rw[hP.kn];omega,by show s1.steps.length+_<=_;rw[hP.st];omega,by show 0+_<=_;omega⟩ (fun a ha=>(hAk a ha).1.1) (bI _);have hkn':(eu s1 i p).known=s.known:=hP.kn;have hst':(eu s1 i p).steps=s.steps:=hP.st;have hn':(eu s1 i p).n=s.n:=hP.n;have hil':=hA.il;have hkl':=hA.kl;rw[hkn']at hkl';have hil'':(bU (eu s1 i p) (dV s1 i j p 0)).2.items.length<=m:=by
  have:(eu s1 i p).items.length=0:=rfl;omega
 have hder:gU s.n base (bU (eu s1 i p) (dV s1 i j p 0)).2.steps (bU (eu s1 i p) (dV s1 i j p 0)).2.known:=by
  have:=hA.jc base (by rw[hn',hst',hkn'];exact h.jc);rwa[hn']at this
 have hnn:(bU (eu s1 i p) (dV s1 i j p 0)).2.n=s.n:=hA.kept.n.trans hn';refine⟨_,rfl,hnn,?_⟩;cases hb:(bU (eu s1 i p) (dV s1 i j p 0)).1 with
 |false=>
  refine .inr ⟨rfl,yY hA.inv hnn hder (by omega) (fun q hq=>(hsok.k q hq).1.mono hK) ?_⟩;obtain⟨q,q1,q2,q3⟩:=hA.bad hb;exact⟨q,q1,fun j hj=>q2 j (by rw[hn'];exact hj),q3⟩
 |true=>
  rw[hb]at hA;have hsim:=Nv h.inv hP he hA fun a ha=>(hAk a ha).2;have hstk:(bU (eu s1 i p) (dV s1 i j p 0)).2.stack=s.stack:=hA.kept.dM.trans hP.dM;have hfr:gX (bU (eu s1 i p) (dV s1 i j p 0)).2+1=gX s:=IY (c:=1) hnn hP.pn hP.free (by decide) fun m=>by
   rw[hA.kept.status];show vf (s1.status.set p 1) m=_;rw[jO (by rw[hP.inv.fV,hP.n];exact hP.pn),hP.status]
  have hfr':gX (bU (eu s1 i p) (dV s1 i j p 0)).2<=f:=by have:=h.fr;omega
  refine .inl ⟨rfl,⟨hA.inv,I2 h.inv hsim hstk h.rf,by rw[hnn];exact hn,hfr',?_,fun q hq=>(hsok.k q hq).1,?_,fun e he'=>?_,by rw[hnn];exact hder⟩,?_,by omega,hstk⟩
  . exact HJ hf hA.inv hfr' rfl hA.gb
  . have hsu:=hP.su;have hup:=Ie (n:=s.n) hf hn;have hv:dl (aI s1.known (bD s1 i).pos).b<=uB f:=by
     have h1:=(hP.inv.it _ (gR (n7 hP i he.il).1)).1;have h2:=(h.q _ (by rw[<-hP.kn];exact eK h1)).2;have:=An f;omega
    refine⟨⟨by rw[hA.kept.u,hnn];show s1.u.length=_;rw[hsu.u.1,hP.n],fun r hr=>?_⟩,by rw[hA.kept.status,hnn];show(s1.status.set p 1).length=_;rw[iO,hsu.st,hP.n],?_⟩
    . rw[hA.kept.u]at hr;have:=hsu.u.2 r hr;rw[hnn];exact⟨this.1.trans hP.n,fun v hv=>bO (this.2 v hv) (by omega)⟩
    . rw[hA.kept.value,hnn];show jK s.n (uB f) (s1.value.set p _);refine⟨by rw[iO,hsu.v.1,hP.n],fun v hv'=>?_⟩;rcases pG hv' with hv'|rfl
      . exact bO (hsu.v.2 v hv') (by omega)
      . exact hv
  . rw[hstk]at he';have e0:=h.st e he';obtain⟨x,hx⟩:=hsim.kn;refine⟨e0.il,by rw[hnn];exact e0.v,fun q hq=>⟨by rw[hx,db];have:=(e0.p q hq).1;omega,?_⟩⟩;rw[Oz h.inv hsim (e0.p q hq).1 e0.v (by rw[(h.inv.sv e he').2.1];omega)];exact(e0.p q hq).2
  . exact H8 hf hA.inv hfr' hm (by have:m<=m+m*m/4:=Nat.le_add_right _ _;omega)
end
end Go.D
set_option maxHeartbeats 1000000
namespace Go.D
open Go Go.X
section
variable {sys base:List AQ} {f K:Nat} {s:St}
theorem Kb{s0:St}{v m:Nat}{t:Bool}{ats:List Nat}(hf:f+1<=4)(h:Good sys base (f+1) K s)(hI0:Inv s0)(hr0:RF sys s0)(hk:Kept s0 s)(hv:v<s.n)(hst:vf s.status v=0)(hats:vM s v ats)(hatl:ats.length<=1073741824)
 (hcov:∀y,(∀x∈s.items,vf x.g v=0->IH s y x)->(∀p∈ats,hx s (ux s y) p)->∀x∈s0.items,IH s0 y x)
 (hF:t=false->∀y,Bp s v y->∃z,∀p∈ats,hx s (ux s (cI y v z)) p)
 (hm:m<=iB (f+1)+1)(hil:s.items.length<=m)(hkl:s.known.length+m*m/4<=1073741824)(hK:K+6<=536870912):
 Nxt sys base f (K+6) (s.known.length+m*m/4) s.n (s.stack++[⟨v,ats,t⟩]) ((bU (fw s v t ats) (cT s v)).1,(bU (fw s v t ats) (cT s v)).2.to):=by
 have hC:=lM (f+1);have hmB:=nr (f+1);have hn:=h.n;have hsteps:=h.steps;have hso:=h.mq (K':=K) (bI _) (by omega) (by omega) (by omega);have hso6:=h.mq (K':=K+6) (by omega) (by omega) (by omega) (by omega);have hsl:=xG (v:=v) s.items;have hLl:=HQ (s:=s) (v:=v);have hsq:=LH (u:=(cx v s.items).length) (w:=(dh v s.items).length) (m:=m) (by omega);have hAk:=Kl (t:=t) (ats:=ats) h.inv hso hv h.co (by omega);have hinv1:=Inv.fw (t:=t) h.inv hv hst hats;have hgb0:∀z∈(fw s v t ats).items,GB (4*(cB (f+1)*cB (f+1))) z.g:=fun z hz w hw=>by
  obtain⟨z1,_⟩:=qF.1 hz;obtain⟨j,hj,rfl⟩:=gE hw;have:=h.co z z1 j (by rw[(h.inv.it z z1).2]at hj;exact hj);have h1:cB (f+1)*1<=cB (f+1)*cB (f+1):=Nat.mul_le_mul_left _ hC.2;omega
 have hA:=ub (K:=K) (M:=4*(cB (f+1)*cB (f+1))) (cT s v) (fw s v t ats) hinv1 (fun a ha=>(hAk a ha).2) hgb0 fun a ha=>(hAk a ha).1.2;have hok2:gu (K+6) (fw s v t ats):=⟨hso6.n,hso6.kl,hso6.sl,bO (te ..) hso6.il,hso6.k,fun x hx=>hso6.i x (qF.1 hx).1,hso6.K⟩;have hfil:(fw s v t ats).items.length=(s.items.filter fun x=>!decide (vf x.g v≠0)).length:=rfl;have hmm:m*m<=23871*23871:=iN (by omega) (by omega);have hsok:=tR (Kk:=K) (cT s v) (fw s v t ats) hok2 ⟨by show s.known.length+_<=_;omega,by show s.steps.length+_<=_;omega,by rw[hfil];omega⟩ (fun a ha=>(hAk a ha).1.1) (bI _);have hil':=hA.il;have hkl':_<=s.known.length+_:=hA.kl;have hil'':(bU (fw s v t ats) (cT s v)).2.items.length<=m+m*m/4:=by omega
 have hder:gU s.n base (bU (fw s v t ats) (cT s v)).2.steps (bU (fw s v t ats) (cT s v)).2.known:=hA.jc base h.jc;have hnn:(bU (fw s v t ats) (cT s v)).2.n=s.n:=hA.kept.n;refine⟨_,rfl,hnn,?_⟩;cases hb:(bU (fw s v t ats) (cT s v)).1 with
 |false=>exact .inr ⟨rfl,yY hA.inv hnn hder (by omega) (fun q hq=>(hsok.k q hq).1.mono hK) (hA.bad hb)⟩
 |true=>
  rw[hb]at hA;have hsim:=Rm hI0 h.inv hk hv hst hcov hats hA;have hstk:(bU (fw s v t ats) (cT s v)).2.stack=s.stack++[⟨v,ats,t⟩]:=hA.kept.dM;have hfr:gX (bU (fw s v t ats) (cT s v)).2+1=gX s:=IY (c:=2) hnn hv hst (by decide) fun m=>by
   rw[hA.kept.status];exact pL h.inv hv m
  have hfr':gX (bU (fw s v t ats) (cT s v)).2<=f:=by have:=h.fr;omega
  have hup:=Ie (n:=s.n) hf hn;refine .inl ⟨rfl,⟨hA.inv,⟨hsim.R hr0.R,fun k e hke ht=>?_⟩,by rw[hnn];exact hn,hfr',HJ hf hA.inv hfr' rfl hA.gb,fun q hq=>(hsok.k q hq).1,?_,fun e he'=>?_,by rw[hnn];exact hder⟩,H8 hf hA.inv hfr' hm hil'',by omega,hstk⟩
  . rw[hstk]at hke;rcases cv k s0.stack.length with hlt|hge
    . rw[hk.dM,jR hlt]at hke;exact hsim.F hI0 hke (hr0.F k e hke ht)
    . rw[hk.dM,og hge]at hke;obtain rfl:⟨v,ats,t⟩=e:=by
       cases hd:k-s0.stack.length with
       |zero=>rw[hd]at hke;exact iM hke
       |succ d=>rw[hd]at hke;cases hke
      exact OK h.inv hv hats hA (hF ht)
  . have hsu:=h.su.mono (K':=uB f) (by omega);refine⟨⟨by rw[hA.kept.u,hnn];exact hsu.u.1,fun r hr=>by rw[hA.kept.u]at hr;rw[hnn];exact hsu.u.2 r hr⟩,by rw[hA.kept.status,hnn];show(s.status.set v 2).length=_;rw[iO];exact hsu.st,by rw[hA.kept.value,hnn];exact hsu.v⟩
  . rw[hstk]at he';have hE:pg s e:=by
     rcases fN.1 he' with he'|he'
     . exact h.st e he'
     . rw[cL.1 he'];exact⟨hatl,hv,fun p hp=>⟨(hats p hp).1,(hats p hp).2.2⟩⟩
    obtain⟨x,hx'⟩:=hA.kept.kn;exact⟨hE.il,by rw[hnn];exact hE.v,fun p hp=>⟨by rw[hx',db];have:=(hE.p p hp).1;show p<s.known.length+_;omega,by rw[hA.kept.u,hnn,hx'];show cu s.u s.n (aI (s.known++x) p).c e.v≠0;rw[iI (hE.p p hp).1];exact(hE.p p hp).2⟩⟩
theorem KJ{v:Nat}{low:AI}{bR:List AI}(h:0<dW v bR):(dW v bR-1)*(-vf low.g v-1)<=dW v bR*(gK v low bR+1):=by
 have h1:=pQ (a:=dW v bR*-vf low.g v-dW v bR- -vf low.g v) h;unfold gK;generalize(dW v bR*-vf low.g v-dW v bR- -vf low.g v).fdiv (dW v bR)=q at*;have e1:(dW v bR-1)*(-vf low.g v-1)=dW v bR*-vf low.g v-dW v bR- -vf low.g v+1:=by grind
 have e2:dW v bR*(q+1)=q*dW v bR+dW v bR:=by grind
 omega
theorem Hx{a A b k:Int}(ha:0<a)(haA:a<=A)(hb:0<b)(h:(A-1)*(b-1)<=A*k):(a-1)*(b-1)<=a*max k 0:=by
 have hA:0<A:=by omega
 rcases vL k 0 with hk|hk
 . have h1:A*k<=A*0:=gg hk (dZ hA);have h2:=fj (show a-1<=A-1 by omega) (show 0<=b-1 by omega);rw[MX hk];omega
 . rw[Int.max_eq_left hk];have h1:=gg h (dZ ha);have h2:A*(a-1)<=a*(A-1):=by
    have e1:A*(a-1)=a*A-A:=by grind
    have e2:a*(A-1)=a*A-a:=by grind
    omega
   have h3:=fj h2 (show 0<=b-1 by omega);have e1:a*((A-1)*(b-1))=a*(A-1)*(b-1):=by grind
   have e2:A*(a-1)*(b-1)=A*((a-1)*(b-1)):=by grind
   have e3:a*(A*k)=A*(a*k):=by grind
   exact Gh (a:=A) (by omega) hA
theorem El{v:Nat}{s:St}(h:cx v s.items≠[]):0<dW v (cx v s.items):=by
 obtain⟨x,hx,e⟩:=Ff (v:=v) h;rw[e];exact(j3.1 hx).2
theorem Rb{v:Nat}(hI:Inv s)(hv:v<s.n)(he:sq s v):∀y,Bp s v y->∃z,∀p∈ff s v,hx s (ux s (cI y v z)) p:=by
 intro y hp;obtain⟨z,h1,h2⟩:=HR (y:=y) hv (fun w=>(aI s.known w.pos).b) (fun x hx w hw=>by
  have h0:=hp x hx w hw;have hne:cx v s.items≠[]:=Gj hx;have hs:gK v w (cx v s.items)<0:=by
   rcases he with he|he
   . exact absurd he hne
   . exact he w hw
  have h3:=Hx (j3.1 hx).2 (Hu x hx) (show 0< -vf w.g v by have:=(gV.1 hw).2;omega) (KJ (low:=w) (El hne));rw[MX (by omega)]at h3;omega)
 refine⟨z,fun p hp'=>?_⟩;obtain⟨x,hx',rfl⟩:=dL.1 hp';rcases fN.1 hx' with hx'|hx'
 . exact(tX hI (j3.1 hx').1).1 (h1 x hx')
 . exact(tX hI (gV.1 hx').1).1 ((E5 hv).2 (h2 x hx'))
theorem NG{v:Nat}(hI:Inv s):∀y,(∀x∈s.items,vf x.g v=0->IH s y x)->(∀p∈ff s v,hx s (ux s y) p)->∀x∈s.items,IH s y x:=by
 intro y h1 h2 x hx';by_cases h0:vf x.g v=0
 . exact h1 x hx' h0
 . refine(tX hI hx').2 (h2 _ (dL.2 ⟨x,fN.2 ?_,rfl⟩));rcases tk h0 with h|h
   . exact .inr (gV.2 ⟨hx',h⟩)
   . exact .inl (j3.2 ⟨hx',h⟩)
theorem LS{v:Nat}:(ff s v).length<=s.items.length:=by
 have:=xG (v:=v) s.items;unfold ff;rw[cN,db];omega
theorem LD{v m:Nat}{t:Bool}(h:Good sys base (f+1) K s)(hv:v<s.n)(hm:m<=iB (f+1)+1)(hil:s.items.length<=m)(hkl:s.known.length+m*m/4<=1073741824)(hK:K+6<=536870912):
 Tm (fun N=>nJ N s.to (v:Int) t) (·=((bU (eG s v t) (cT s v)).1,(bU (eG s v t) (cT s v)).2.to)):=by
 have hC:=lM (f+1);have hmB:=nr (f+1);have hn:=h.n;have hsteps:=h.steps;have hso:=h.mq (K':=K) (bI _) (by omega) (by omega) (by omega);have hso6:=h.mq (K':=K+6) (by omega) (by omega) (by omega) (by omega);have hsl:=xG (v:=v) s.items;have hLl:=HQ (s:=s) (v:=v);have hsq:=LH (u:=(cx v s.items).length) (w:=(dh v s.items).length) (m:=m) (by omega);have hmm:m*m<=23871*23871:=iN (by omega) (by omega);have hstl:=Dm h.inv;have hAk:=Kl (t:=t) (ats:=ff s v) h.inv hso hv h.co (by omega);have hfl:(eG s v t).items.length<=s.items.length:=te ..;have hr:jf (cT s v).length (eG s v t):=⟨by show s.known.length+_<=_;omega,by show s.steps.length+_<=_;omega,by omega⟩;exact Tg hso6 hv h.inv.fV (by omega) (bI _) (fun a ha=>(hAk a ha).1.1) hr
theorem Jz{v m:Nat}{t:Bool}(hf:f+1<=4)(h:Good sys base (f+1) K s)(hv:v<s.n)(hst:vf s.status v=0)(he:t=false->sq s v)(hm:m<=iB (f+1)+1)(hil:s.items.length<=m)(hkl:s.known.length+m*m/4<=1073741824)(hK:K+6<=536870912):
 Tm (fun N=>nJ N s.to (v:Int) t) (Nxt sys base f (K+6) (s.known.length+m*m/4) s.n (s.stack++[⟨v,ff s v,t⟩])):=by
 have hmB:=nr (f+1);refine(LD h hv hm hil hkl hK).mono fun r hr'=>?_;rw[hr',Sy];exact Kb hf h h.inv h.rf (Kept.refl s) hv hst (GZ h.inv hv) (bO LS (by omega)) (NG h.inv) (fun ht=>Rb h.inv hv (he ht)) hm hil hkl hK
theorem Ub{s':St}(hI:Inv s)(k:Kept s s')(hi:∀y,(∀x∈s'.items,IH s' y x)->∀x∈s.items,IH s y x):gT s s':=by
 obtain⟨e,he⟩:=k.kn;have hux:∀y i,ux s' y i=ux s y i:=fun y i=>by unfold ux;rw[k.u,k.n]
 refine⟨k.n,⟨e,he⟩,⟨[],by rw[k.dM];simp⟩,fun j hj hs=>⟨by rw[k.status],fun _=>by rw[k.value],fun i _=>by rw[k.u]⟩,fun y=>⟨y,fun i _=>hux y i,fun _ _ _=>rfl,fun m hm ⟨h1,h2,h3⟩=>⟨fun j hj hs=>?_,hi y h2,fun e' he' p hp=>?_⟩⟩⟩
 . have:=h1 j (by rw[k.n];exact hj) (by rw[k.status];exact hs);rw[this,k.value]
 . have:=h3 e' (by rw[k.dM];exact he') p hp;exact(rI k.n he ((hI.sv e' (FZ he')).2.2 p hp) fun i _=>hux y i).1 this
theorem E0{s':St}{base':List AQ}{K':Nat}(h:Good sys base f K s)(k:Kept s s')(hI':Inv s')(hi:∀y,(∀x∈s'.items,IH s' y x)->∀x∈s.items,IH s y x)(hco:∀x∈s'.items,∀j,j<s.n->(vf x.g j).natAbs<=cB f)
 (hq:∀q∈s'.known,fA K' q)(hder:gU s'.n base' s'.steps s'.known):Good sys base' f K' s' where
 inv:=hI'
 rf:=I2 h.inv (Ub h.inv k hi) k.dM h.rf
 n:=by rw[k.n];exact h.n
 fr:=by have:=h.fr;unfold gX at*;rw[k.n,k.status];exact this
 co x hx j hj:=hco x hx j (by rw[<-k.n];exact hj)
 q:=hq
 su:=⟨⟨by rw[k.u,k.n];exact h.su.u.1,fun r hr=>by rw[k.u]at hr;rw[k.n];exact h.su.u.2 r hr⟩,by rw[k.status,k.n];exact h.su.st,by rw[k.value,k.n];exact h.su.v⟩
 st e he:=(h.st e (by rw[<-k.dM];exact he)).kept k
 jc:=hder
theorem HU(s:St)(q:AQ):Kept s (cM s q):=⟨rfl,rfl,rfl,rfl,rfl,[q],rfl⟩
theorem vq{q:AQ}{K':Nat}(h:Good sys base f K s)(hl:q.c.length=s.n)(hq:fA K' q)(hK:K<=K'):Good sys (s.known++[q]) f K' (cM s q):=by
 refine E0 h (HU s q) (h.inv.known (e:=[q]) rfl fun q' hq'=>by rw[cL.1 hq'];exact hl) (fun y hy x hx'=>(wU (s:=s) (s':=cM s q) rfl (e:=[q]) rfl (h.inv.it x hx').1).1 (hy x hx')) h.co (fun q' hq'=>?_) .nil;rcases fN.1 hq' with hq'|hq'
 . exact(h.q q' hq').mono hK
 . rw[cL.1 hq'];exact hq
theorem Pv{x:AI}(h:Good sys base f K s)(hx:kB s x)(hco:∀j,j<s.n->(vf x.g j).natAbs<=cB f):Good sys base f K (add s x):=
 E0 h (Dc s x) (h.inv.add hx) (fun y hy=>(yS (s:=s) (x:=x) (y:=y) (l:=s.items) hy).1) (fun z hz j hj=>(lO hz).elim (fun e=>by subst e;exact hco j hj) fun hz=>h.co z hz j hj) h.q h.jc
def mR(s:St)(p p':Nat):St:={s with items:=rY s.items p p'}
theorem AG{l:List AI}{p p':Nat}{x:AI}:x∈rY l p p'↔∃y∈l,(if y.pos=p then{y with pos:=p'}else y)=x:=dL
theorem KP(s:St)(p p':Nat):Kept s (mR s p p'):=⟨rfl,rfl,rfl,rfl,rfl,[],by simp[mR]⟩
theorem M2{p p':Nat}(h:Good sys base f K s)(hp:p'<s.known.length)(hc:(aI s.known p').c=(aI s.known p).c)(hb:(aI s.known p').b<=(aI s.known p).b):Good sys base f K (mR s p p'):=by
 have key:∀x∈(mR s p p').items,∃y∈s.items,x.g=y.g/\(x=y\/(y.pos=p/\x.pos=p')):=fun x hx'=>by
  obtain⟨y,hy,rfl⟩:=AG.1 hx';split
  . rename_i e;exact⟨y,hy,rfl,.inr ⟨e,rfl⟩⟩
  . exact⟨y,hy,rfl,.inl rfl⟩
 refine E0 h (KP s p p') ⟨h.inv.ul,h.inv.fV,h.inv.vl,h.inv.kl,fun x hx'=>?_,fun x hx' j hj=>?_,fun x hx'=>?_,fun x hx'=>?_,?_,h.inv.jZ,h.inv.stat,h.inv.sv,h.inv.s2,h.inv.sd⟩ (fun y hy x hx'=>?_) (fun x hx' j hj=>?_) h.q h.jc
 . obtain⟨y,hy,e1,e2⟩:=key x hx';refine⟨?_,by rw[e1];exact(h.inv.it y hy).2⟩;rcases e2 with rfl|⟨_,e3⟩
   . exact(h.inv.it x hy).1
   . rw[e3];exact hp
 . obtain⟨y,hy,e1,e2⟩:=key x hx';rw[e1,h.inv.dd y hy j hj];rcases e2 with rfl|⟨e4,e3⟩
   . rfl
   . rw[e3,e4];show _=cu s.u s.n (aI s.known p').c j;rw[hc]
 . obtain⟨y,hy,e1,_⟩:=key x hx';rw[e1];exact h.inv.nf y hy
 . obtain⟨y,hy,e1,_⟩:=key x hx';rw[e1];exact h.inv.gz y hy
 . show(s.items.map _).Pairwise _;rw[Gg];refine h.inv.kh.imp fun{a b} hab=>?_;have e:∀z:AI,(if z.pos=p then({z with pos:=p'}:AI)else z).g=z.g:=fun z=>by split<;>rfl
   rw[e,e];exact hab
 . have h1:=hy _ (AG.2 ⟨x,hx',rfl⟩);unfold IH at h1⊢;split at h1
   . rename_i e;have h1:bE (vf x.g) y s.n<=(aI s.known p').b:=h1;rw[e];omega
   . exact h1
 . obtain⟨y,hy,e1,_⟩:=key x hx';rw[e1];exact h.co y hy j hj
theorem SJ{g:List Int}(h:dc g=1):dc (bT g)=1:=by
 have h1:((dc (bT g):Nat):Int)∣((dc g:Nat):Int):=oW fun v hv=>by
  have h2:-v∈bT g:=by
   obtain⟨j,hj,rfl⟩:=gE hv;rw[<-iF];exact gr (by rw[iY];exact hj)
  exact(Int.dvd_neg).1 (qW h2)
 rw[h]at h1;exact Gf (MS.1 h1)
theorem Pl{x:AI}{b:Int}(h:Good sys base f K s)(hx':x∈s.items):kB (cM s ⟨(aI s.known x.pos).c,b⟩) ⟨s.known.length,x.g⟩:=by
 refine⟨by show s.known.length<(s.known++[_]).length;simp,(h.inv.it x hx').2,fun j hj=>?_,h.inv.nf x hx',h.inv.gz x hx'⟩;rw[show aI (cM s ⟨(aI s.known x.pos).c,b⟩).known s.known.length=⟨(aI s.known x.pos).c,b⟩ from pD];exact h.inv.dd x hx' j hj
theorem Ho{x:AI}{b:Int}(h:Good sys base f K s)(hx':x∈s.items):kB (cM s ⟨bT (aI s.known x.pos).c,b⟩) ⟨s.known.length,bT x.g⟩:=by
 refine⟨by show s.known.length<(s.known++[_]).length;simp,(iY _).trans (h.inv.it x hx').2,fun j hj=>?_,fun j hj hst=>?_,SJ (h.inv.gz x hx')⟩
 . rw[show aI (cM s ⟨bT (aI s.known x.pos).c,b⟩).known s.known.length=⟨bT (aI s.known x.pos).c,b⟩ from pD];show vf (bT x.g) j=cu s.u s.n (bT (aI s.known x.pos).c) j;rw[iF,h.inv.dd x hx' j hj,BG (c:=bT (aI s.known x.pos).c) (k:=-1) (a:=(aI s.known x.pos).c) fun i hi=>by rw[iF];omega];omega
 . rw[iF,h.inv.nf x hx' j hj hst];rfl
theorem Bw{K:Nat}{c:List Int}(h:∀v∈c,dl v<=K):∀v∈bT c,dl v<=K:=fun v hv=>by
 rw[<-fR];exact h _ (EJ hv)
theorem A3{kn:List AQ}{x:AI}:∀{l:List AI},(∃y∈l,y.g=x.g)->(ee kn x l).length=l.length
 |[],h=>by obtain⟨y,hy,_⟩:=h;cases hy
 |z::l,h=>by
  rw[ee];split
  . split<;>simp
  . rename_i e;obtain⟨y,hy,e2⟩:=h;rcases dY.1 hy with rfl|hy
    . exact absurd e2.symm e
    . rw[cA,A3 ⟨y,hy,e2⟩,cA]
theorem D6{kn:List AQ}{x:AI}:∀{l:List AI},∃y∈ee kn x l,y.g=x.g/\(aI kn y.pos).b<=(aI kn x.pos).b
 |[]=>⟨x,by simp[ee],rfl,mZ _⟩
 |z::l=>by
  rw[ee];split
  . rename_i e;split
    . exact⟨x,cK,rfl,mZ _⟩
    . exact⟨z,cK,e.symm,by omega⟩
  . obtain⟨y,hy,h⟩:=D6 (kn:=kn) (x:=x) (l:=l);exact⟨y,cH _ hy,h⟩
theorem Kn{kn:List AQ}{x z:AI}:∀{l:List AI},z∈l->z.g≠x.g->z∈ee kn x l
 |w::l,h,hne=>by
  rw[ee];rcases dY.1 h with rfl|h
  . rw[if_neg fun e=>hne e.symm];exact cK
  . split
    . split
      . exact cH _ h
      . exact cH _ h
    . exact cH _ (Kn h hne)
end
end Go.D
set_option maxHeartbeats 1000000
namespace Go.D
open Go Go.X
inductive fC (sys base:List AQ)(n:Nat)(dM:List AE):bX->Prop where
 |solved (x:List Int) (hl:x.length=n) (hd:∀v∈x,dl v<=137438953472) (hs:∀q∈sys,kV n (vf x) q):fC sys base n dM (bX.mk 0 (mB x) rX 0)
 |iK (p:lj) (h:Ref n base p):fC sys base n dM (bX.mk 1 [] p.to 0)
 |failed (e:AE) (he:e∈dM) (ht:e.dz=true):fC sys base n dM (bX.mk 2 [] rX (e.v:Int))
theorem fC.up{sys base base':List AQ}{n:Nat}{dM:List AE}{r:bX}(h:fC sys base' n dM r)(hk:r.kind≠1):fC sys base n dM r:=by
 cases h with
 |solved x hl hd hs=>exact .solved x hl hd hs
 |iK p h=>exact absurd rfl hk
 |failed e he ht=>exact .failed e he ht
theorem fC.ref{sys base:List AQ}{n:Nat}{dM:List AE}{r:bX}(h:fC sys base n dM r)(hk:¬r.kind≠1):∃p:lj,Ref n base p/\r=bX.mk 1 [] p.to 0:=by
 cases h with
 |solved x hl hd hs=>exact absurd (show(0:Int)≠1 by decide) hk
 |iK p h=>exact⟨p,h,rfl⟩
 |failed e he ht=>exact absurd (show(2:Int)≠1 by decide) hk
theorem Tm.shift{α:Type}{f:Nat->Option α}{Q:α->Prop}(h:Tm f Q):Tm (fun N=>f (N+1)) Q:=by
 obtain⟨a,N0,hQ,hN⟩:=h;exact⟨a,N0,hQ,fun N h=>hN (N+1) (by omega)⟩
def kZ(σ:Nat->Nat):Nat->Nat
 |0=>0
 |n+1=>kZ σ n+σ n
theorem GK{σ τ:Nat->Nat}:∀{n:Nat},(∀j,j<n->σ j=τ j)->kZ σ n=kZ τ n
 |0,_=>rfl
 |n+1,h=>by simp only[kZ];rw[GK (n:=n) fun j hj=>h j (by omega),h n (by omega)]
theorem Lg{σ τ:Nat->Nat}{w:Nat}:∀{n:Nat},w<n->(∀j,j<n->j≠w->τ j=σ j)->τ w<σ w->kZ τ n<kZ σ n
 |n+1,hw,h,hlt=>by
  simp only[kZ];by_cases e:n=w
  . subst e;rw[GK (σ:=τ) (τ:=σ) (n:=n) fun j hj=>h j (by omega) (by omega)];omega
  . have:=Lg (n:=n) (by omega) (fun j hj=>h j (by omega)) hlt;rw[h n (by omega) e];omega
def l8(n:Nat)(c:Int)(g:List Int)(w:Nat):Prop:=∀j,j<n->vf g j=if j=w then c else 0
def ue(μ:Nat)(s:St):Prop:=∃σ:Nat->Nat,(∀j,σ j<=65)/\kZ σ s.n<=μ/\∀j,j<s.n->∀x∈s.items,∀y∈s.items,l8 s.n 1 x.g j->l8 s.n (-1) y.g j->(aI s.known x.pos).b+(aI s.known y.pos).b<=64->(aI s.known x.pos).b+(aI s.known y.pos).b<=σ j
theorem Ap{s:St}(hn:s.n<=4):ue 260 s:=by
 refine⟨fun _=>65,fun _=>bI _,?_,fun j _ x _ y _ _ _ h=>by dsimp only;omega⟩;have:∀n,kZ (fun _=>65) n=65*n:=fun n=>by induction n with
  |zero=>rfl
  |succ n ih=>simp only[kZ,ih];omega
 rw[this];omega
theorem l8.inj{n:Nat}{c:Int}{a b:List Int}{j:Nat}(ha:l8 n c a j)(hb:l8 n c b j)(la:a.length=n)(lb:b.length=n):a=b:=lY (by rw[la,lb]) fun i hi=>by rw[ha i (by omega),hb i (by omega)]
theorem l8.at{n:Nat}{c:Int}{a:List Int}{j w:Nat}(ha:l8 n c a j)(hb:l8 n c a w)(hc:c≠0)(hj:j<n):j=w:=by
 have h1:=ha j hj;have h2:=hb j hj;rw[if_pos rfl]at h1;by_cases e:j=w
 . exact e
 . rw[if_neg e]at h2;omega
theorem wS{s:St}(hI:Inv s){x y:AI}(hx:x∈s.items)(hy:y∈s.items)(h:x.g=y.g):x=y:=by
 obtain⟨i,hi,rfl⟩:=nc hx;obtain⟨j,hj,rfl⟩:=nc hy;have hd:=MU.1 hI.kh;rcases MN i j with h1|h1|h1
 . exact absurd h (hd i j hi hj h1)
 . subst h1;rfl
 . exact absurd h.symm (hd j i hj hi h1)
theorem L5{s:St}(hI:Inv s){x y:AI}(hx:x∈s.items)(hy:y∈s.items)(h:x.pos=y.pos):x=y:=by
 refine wS hI hx hy (lY ((hI.it x hx).2.trans (hI.it y hy).2.symm) fun j hj=>?_);have hj:j<s.n:=by rw[(hI.it x hx).2]at hj;exact hj
 rw[hI.dd x hx j hj,hI.dd y hy j hj,h]
section
variable {sys base:List AQ} {f K μ:Nat} {s:St}
def lX(sys:List AQ)(f μ:Nat)(R:Nat->aR->Option bX):Prop:=∀(base:List AQ) (K:Nat) (s:St),Good sys base f K s->ue μ s->s.items.length<=iB f->s.known.length+μ+lB f<=1073741824->K+2*μ+dB f<=536870912->Tm (fun N=>R N s.to) (fC sys base s.n s.stack)
theorem lX.shift{R:Nat->aR->Option bX}(h:lX sys f μ R):lX sys f μ fun N=>R (N+1):=fun base K s h1 h2 h3 h4 h5=>Tm.shift (f:=fun N=>R N s.to) (h base K s h1 h2 h3 h4 h5)
theorem E2{q:AQ}{g:List Int}(h:Good sys base f K s)(hS:kB (cM s q) ⟨s.known.length,g⟩){K':Nat}(hq:fA K' q)(hql:q.c.length=s.n)(hK:K<=K')(hco:∀j,j<s.n->(vf g j).natAbs<=cB f):
 Good sys (s.known++[q]) f K' (add (cM s q) ⟨s.known.length,g⟩)/\
 (∀z∈(add (cM s q) ⟨s.known.length,g⟩).items,z.g≠g->z∈s.items)/\
 (∀z∈(add (cM s q) ⟨s.known.length,g⟩).items,z.g=g->(aI (s.known++[q]) z.pos).b<=q.b):=by
 have hG:=Pv (vq h hql hq hK) hS hco;refine⟨hG,fun z hz hne=>?_,fun z hz he=>?_⟩
 . rcases lO (show z∈ee _ _ s.items from hz)with rfl|hz
   . exact absurd rfl hne
   . exact hz
 . obtain⟨y,hy,y1,y2⟩:=D6 (kn:=s.known++[q]) (x:=⟨s.known.length,g⟩) (l:=s.items);obtain rfl:z=y:=wS hG.inv hz hy (he.trans y1.symm);rw[show(aI (s.known++[q]) s.known.length)=q from pD]at y2;exact y2
theorem S6{q:AQ}{g:List Int}(h:oZ s)(hG:Good sys (s.known++[q]) f K (cM s q))(hil:s.items.length<=1073741824)(hkl:s.known.length+1<=1073741824)(hK:K<=1099511627000)(hg:o6 (cM s q) ⟨s.known.length,g⟩){R:Nat->aR->aR->Option bX}{Q:bX->Prop}
 (k:Tm (fun N=>R N (cM s q).to (add (cM s q) ⟨s.known.length,g⟩).to) Q):
 Tm (fun N=>(mD N s.to q.to).bind fun r5=>(kW N r5 (aX.mk (iw ((List.length r5.known:Int)-1)) (mB g))).bind fun r6=>R N r5 r6) Q:=by
 refine aU (uJ h) ?_;have e:aX.mk (iw ((List.length (cM s q).to.known:Int)-1)) (mB g)=AI.to ⟨s.known.length,g⟩:=by
  show aX.mk (iw ((((s.known++[q]).map AQ.to).length:Int)-1)) (mB g)=aX.mk (s.known.length:Int) (mB g);congr 1;rw[cN,db,km,bK]<;>omega
 rw[e];exact aU (vB (K:=K) (hG.mq (bI _) hK (by show(s.known++[q]).length<=_;rw[db,km];omega) hil) hg) k
theorem FH{x:AI}{f:Nat}(hS:kB s x)(hco:∀j,j<s.n->(vf x.g j).natAbs<=cB f):o6 s x:=⟨hS.pos,hS.gl,fun v hv=>bO (wG hS.gl hco (by have:=lM f;omega) v hv) (by decide)⟩
theorem RC{R:Nat->aR->Option bX}(hf:f<=4)(hR:∀μ',μ'<μ->lX sys f μ' R)(h:Good sys base f K s)(hσ:ue μ s)(hil:s.items.length<=iB f)(hkl:s.known.length+μ+lB f<=1073741824)(hK:K+2*μ+dB f<=536870912)
    {x y:AI}{w:Nat}(hx':x∈s.items)(hy':y∈s.items)(hw:w<s.n)(hxu:l8 s.n 1 x.g w)(hyu:l8 s.n (-1) y.g w)(h1:0<(aI s.known x.pos).b+(aI s.known y.pos).b)(h64:(aI s.known x.pos).b+(aI s.known y.pos).b<=64):
    Tm (fun N=>wi N (R N) s.to ⟨x.to,B (-(aI s.known y.pos).b),B (aI s.known x.pos).b⟩) (fC sys base s.n s.stack):=by
  have hL:cX=1099511627776:=rfl;have hC:=lM f;have hn:=h.n;have hmB:=nr f;obtain⟨σ,σ1,σ2,σ3⟩:=hσ;have hσw:=σ3 w hw x hx' y hy' hxu hyu h64;have hcp:oZ s:=h.inv.cp hn (by omega) (by omega);obtain⟨x1,x2⟩:=h.inv.it x hx';obtain⟨y1,y2⟩:=h.inv.it y hy';have hqx:=h.q _ (eK x1);have dbx:=hqx.2;have dby:=(h.q _ (eK y1)).2;have hxy:y.g=bT x.g:=lY (by rw[iY,x2,y2]) fun j hj=>by
    rw[iF,hyu j (by omega),hxu j (by omega)];split<;>rfl
  have hxny:x.g≠bT x.g:=fun e=>by
    have:=congrArg (fun l=>vf l w) e;simp only[iF]at this;have:=hxu w hw;rw[if_pos rfl]at this;omega
  have hcl:(aI s.known x.pos).c.length=s.n:=h.inv.kl _ (eK x1);generalize hbx:(aI s.known x.pos).b=bx at*;generalize hby:(aI s.known y.pos).b=bY at*;have hm:=pQ (a:=-bY+bx) (p:=2) (by decide);have dsum:dl (-bY+bx)<=K+1:=oK (by rw[fR];exact dby) dbx;have dm:=rE (-bY+bx) 2;generalize hmm:(-bY+bx).fdiv 2=m at*;have d2:dl (2:Int)<=1:=j2 (by decide);have dm1:dl (-m-1)<=K+2:=jG (K:=K+1) (by rw[fR];omega) (bO jt (by omega));have hlt:kZ (fun j=>if j=w then(bx+bY-1).toNat else σ j) s.n<kZ σ s.n:=Lg hw (fun j _ hj=>if_neg hj) (by
    show(if w=w then(bx+bY-1).toNat else σ w)<σ w;rw[if_pos rfl];omega)
  have hspn:∀(q:AQ) (g:List Int),(∀z∈(add (cM s q) ⟨s.known.length,g⟩).items,z.g≠g->z∈s.items)->(∀z∈(add (cM s q) ⟨s.known.length,g⟩).items,z.g=g->(aI (s.known++[q]) z.pos).b<=q.b)->
      ((g=x.g/\q.b+bY<=bx+bY-1)\/(g=bT x.g/\bx+q.b<=bx+bY-1))->ue (μ-1) (add (cM s q) ⟨s.known.length,g⟩):=by
    intro q g ho hb hg;have hold:∀z∈s.items,(aI (s.known++[q]) z.pos).b=(aI s.known z.pos).b:=fun z hz=>by rw[iI (h.inv.it z hz).1]
    refine⟨fun j=>if j=w then(bx+bY-1).toNat else σ j,fun j=>?_,?_,fun j hj x' hx2 y' hy2 hxu' hyu' hs=>?_⟩
    . dsimp only;split
      . omega
      . exact σ1 j
    . show kZ _ s.n<=μ-1;omega
    . have hj:j<s.n:=hj;have hxu':l8 s.n 1 x'.g j:=hxu';have hyu':l8 s.n (-1) y'.g j:=hyu';have hs:(aI (s.known++[q]) x'.pos).b+(aI (s.known++[q]) y'.pos).b<=64:=hs;show(aI (s.known++[q]) x'.pos).b+(aI (s.known++[q]) y'.pos).b<=((if j=w then(bx+bY-1).toNat else σ j:Nat):Int);have hcases:∀z∈(add (cM s q) ⟨s.known.length,g⟩).items,z.g.length=s.n:=fun z hz=>by
        by_cases e:z.g=g
        . rw[e];rcases hg with⟨e2,_⟩|⟨e2,_⟩
          . rw[e2];exact x2
          . rw[e2,iY];exact x2
        . exact(h.inv.it z (ho z hz e)).2
      by_cases e:j=w
      . subst e;rw[if_pos rfl];have ex:x'.g=x.g:=hxu'.inj hxu (hcases x' hx2) x2;have ey:y'.g=y.g:=hyu'.inj hyu (hcases y' hy2) y2;rcases hg with⟨e2,hq2⟩|⟨e2,hq2⟩
        . have b1:=hb x' hx2 (ex.trans e2.symm);have hyo:y'∈s.items:=ho y' hy2 (by rw[ey,e2,hxy];exact fun e3=>hxny e3.symm);have:y'=y:=wS h.inv hyo hy' ey;rw[this,hold y hy',hby];omega
        . have b1:=hb y' hy2 (by rw[ey,e2,hxy]);have hxo:x'∈s.items:=ho x' hx2 (by rw[ex,e2];exact hxny);have:x'=x:=wS h.inv hxo hx' ex;rw[this,hold x hx',hbx];omega
      . rw[if_neg e];have nx:x'.g≠g:=fun e3=>by
          rcases hg with⟨e2,_⟩|⟨e2,_⟩
          . exact e (hxu'.at (w:=w) (by rw[e3,e2];exact hxu) (by decide) hj)
          . have h4:=hxu' j hj;rw[if_pos rfl,e3,e2,iF,hxu j hj,if_neg e]at h4;omega
        have ny:y'.g≠g:=fun e3=>by
          rcases hg with⟨e2,_⟩|⟨e2,_⟩
          . have h4:=hyu' j hj;rw[if_pos rfl,e3,e2,hxu j hj,if_neg e]at h4;omega
          . exact e (hyu'.at (w:=w) (by rw[e3,e2,<-hxy];exact hyu) (by decide) hj)
        have hxo:=ho x' hx2 nx;have hyo:=ho y' hy2 ny;rw[hold x' hxo,hold y' hyo]at hs⊢;exact σ3 j hj x' hxo y' hyo hxu' hyu' hs
  have hμ:0<μ:=by omega
  have hkl1:∀q:AQ,(s.known++[q]).length=s.known.length+1:=fun q=>by simp
  have hq1:fA (K+2) ⟨(aI s.known x.pos).c,m⟩:=⟨fun v hv=>bO (hqx.1 v hv) (by omega),by show dl m<=_;omega⟩;have hS1:=Pl (b:=m) h hx';obtain⟨g1,g2,g3⟩:=E2 h hS1 hq1 hcl (by omega) (h.co x hx');have hl1:(add (cM s ⟨(aI s.known x.pos).c,m⟩) ⟨s.known.length,x.g⟩).items.length<=iB f:=by
    show(ee _ _ s.items).length<=_;rw[A3 (x:=⟨s.known.length,x.g⟩) ⟨x,hx',rfl⟩];exact hil
  have hrun1:=hR (μ-1) (by omega) _ _ _ g1 (hspn _ _ g2 g3 (.inl ⟨rfl,by show m+bY<=_;omega⟩)) hl1 (by show(s.known++[_]).length+_+_<=_;rw[hkl1];omega) (by omega);have hq2:fA (K+2) ⟨bT (aI s.known x.pos).c,-m-1⟩:=⟨Bw fun v hv=>bO (hqx.1 v hv) (by omega),dm1⟩;have hS2:=Ho (b:=-m-1) h hx';have hco2:∀j,j<s.n->(vf (bT x.g) j).natAbs<=cB f:=fun j hj=>by rw[iF,B8];exact h.co x hx' j hj
  have hcl2:(bT (aI s.known x.pos).c).length=s.n:=(iY _).trans hcl;obtain⟨k1,k2,k3⟩:=E2 h hS2 hq2 hcl2 (by omega) hco2;have hl2:(add (cM s ⟨bT (aI s.known x.pos).c,-m-1⟩) ⟨s.known.length,bT x.g⟩).items.length<=iB f:=by
    show(ee _ _ s.items).length<=_;rw[A3 (x:=⟨s.known.length,bT x.g⟩) ⟨y,hy',hxy⟩];exact hil
  have hrun2:=hR (μ-1) (by omega) _ _ _ k1 (hspn _ _ k2 k3 (.inr ⟨rfl,by show bx+(-m-1)<=_;omega⟩)) hl2 (by show(s.known++[_]).length+_+_<=_;rw[hkl1];omega) (by omega);unfold wi;dsimp only;refine aU (mC (by rw[fR];omega) (by omega)) (aU (jH (by decide) (by decide)) (Tm.bind (qx (by omega) (by omega)) ?_));rintro⟨q3,q4,q5⟩ hq3;dsimp only at hq3⊢;rw[hmm]at hq3;subst hq3;refine aN (nM x1) ?_;have eC:(aI s.known x.pos).to.aZ=mB (aI s.known x.pos).c:=rfl;rw[eC];refine S6 (q:=⟨(aI s.known x.pos).c,m⟩) (K:=K+2) (g:=x.g) hcp (vq h hcl hq1 (by omega)) (by omega) (by omega) (by omega) (FH (f:=f) hS1 (h.co x hx')) (R:=fun N r5 r6=>(R N (aR.mk r5.n r6.known r6.steps r6.u r6.status r6.value r6.items r6.stack)).bind fun r7=>_) ?_;rw[ir (n:=(cM s ⟨(aI s.known x.pos).c,m⟩).to.n) (x:=(add (cM s ⟨(aI s.known x.pos).c,m⟩) ⟨s.known.length,x.g⟩).to) rfl];refine Tm.bind hrun1 fun r7 hr7=>aY (fun hk=>aM (hr7.up hk)) (fun hk=>?_);obtain⟨p1,hp1,rfl⟩:=hr7.ref hk;refine aU (sE (K:=K) (by omega) (by omega) hqx.1) (aU (nu (by omega)) (aU (jH (by decide) (by decide)) (aU (l6 (by rw[fR];omega) (bO jt (by omega))) ?_)));rw[show(vec (aI s.known x.pos).c.length fun j=>-vf (aI s.known x.pos).c j)=bT (aI s.known x.pos).c from rfl];refine aU (uJ (q:=⟨bT (aI s.known x.pos).c,-m-1⟩) hcp) ?_;refine aU (sE (l:=x.g) (K:=8) (by omega) (by omega) (fun v hv=>bO (wG x2 (h.co x hx') (by omega) v hv) (by decide))) ?_;rw[show(vec x.g.length fun j=>-vf x.g j)=bT x.g from rfl];have e:aX.mk (iw ((List.length (cM s ⟨bT (aI s.known x.pos).c,-m-1⟩).to.known:Int)-1)) (mB (bT x.g))=AI.to ⟨s.known.length,bT x.g⟩:=by
    show aX.mk (iw ((((s.known++[_]).map AQ.to).length:Int)-1)) (mB _)=aX.mk (s.known.length:Int) (mB _);congr 1;rw[cN,db,km,bK]<;>omega
  rw[e];refine aU (vB (K:=K+2) ((vq h hcl2 hq2 (by omega)).mq (bI _) (by omega) (by show(s.known++[_]).length<=_;rw[hkl1];omega) (by show s.items.length<=_;omega)) (FH (f:=f) hS2 hco2)) ?_;rw[ir (n:=(cM s ⟨bT (aI s.known x.pos).c,-m-1⟩).to.n) (x:=(add (cM s ⟨bT (aI s.known x.pos).c,-m-1⟩) ⟨s.known.length,bT x.g⟩).to) rfl];refine Tm.bind hrun2 fun r8 hr8=>aY (fun hk=>aM (hr8.up hk)) (fun hk=>?_);obtain⟨p2,hp2,rfl⟩:=hr8.ref hk;unfold qz;exact aU (aM rfl) (aM (.iK (.node s.steps (aI s.known x.pos).c m p1 p2) (.node h.jc hcl hp1 hp2)))
end
end Go.D
set_option maxHeartbeats 1000000
namespace Go.D
open Go Go.X
section
variable {sys base:List AQ} {f K:Nat} {s:St}
def Opp(s:St)(x:AI)(d:Int):Prop:=∃y∈s.items,y.g=bT x.g/\(aI s.known x.pos).b+(aI s.known y.pos).b<=d
def mi(sys:List AQ)(f:Nat)(R:Nat->aR->Option bX):Prop:=∀(base:List AQ) (K:Nat) (s:St) (x:AI),Good sys base (f+1) K s->x∈s.items->Opp s x 0->s.items.length<=iB (f+1)+1->s.known.length+iB (f+1)+280+lB f<=1073741824->K+560+dB f<=536870912->Tm (fun N=>R N s.to) (fC sys base s.n s.stack)
theorem mi.shift{R:Nat->aR->Option bX}(h:mi sys f R):mi sys f fun N=>R (N+1):=fun base K s x h1 h2 h3 h4 h5 h6=>Tm.shift (f:=fun N=>R N s.to) (h base K s x h1 h2 h3 h4 h5 h6)
theorem HA{q:AQ}{g:List Int}(h:s.known.length+1<=1073741824):aX.mk (iw ((List.length (cM s q).to.known:Int)-1)) (mB g)=AI.to ⟨s.known.length,g⟩:=by
 show aX.mk (iw ((((s.known++[q]).map AQ.to).length:Int)-1)) (mB g)=aX.mk (s.known.length:Int) (mB g);congr 1;rw[cN,db,km,bK]<;>omega
theorem LR{q:AQ}(h:s.known.length+1<=1073741824):iw ((List.length (cM s q).to.known:Int)-1)=(s.known.length:Int):=by
 show iw ((((s.known++[q]).map AQ.to).length:Int)-1)=_;rw[cN,db,km,bK]<;>omega
theorem IP(hI:Inv s){x:AI}(hx:x∈s.items):x.g≠bT x.g:=fun e=>by
 obtain⟨w,hw,h1,_⟩:=xj hI hx;have:=congrArg (fun l=>vf l w) e;simp only[iF]at this;omega
theorem Mb{x:AI}{b:Int}{K':Nat}(h:Good sys base f K s)(hx:x∈s.items)(hb:dl b<=K')(hK:K<=K'):
 Good sys (s.known++[⟨bT (aI s.known x.pos).c,b⟩]) f K' (add (cM s ⟨bT (aI s.known x.pos).c,b⟩) ⟨s.known.length,bT x.g⟩)/\
 x∈(add (cM s ⟨bT (aI s.known x.pos).c,b⟩) ⟨s.known.length,bT x.g⟩).items/\
 Opp (add (cM s ⟨bT (aI s.known x.pos).c,b⟩) ⟨s.known.length,bT x.g⟩) x ((aI s.known x.pos).b+b)/\
 o6 (cM s ⟨bT (aI s.known x.pos).c,b⟩) ⟨s.known.length,bT x.g⟩:=by
 obtain⟨x1,x2⟩:=h.inv.it x hx;have hqx:=h.q _ (eK x1);have hcl:(bT (aI s.known x.pos).c).length=s.n:=(iY _).trans (h.inv.kl _ (eK x1));have hq:fA K' ⟨bT (aI s.known x.pos).c,b⟩:=⟨Bw fun v hv=>bO (hqx.1 v hv) hK,hb⟩;have hS:=Ho (b:=b) h hx;have hco:∀j,j<s.n->(vf (bT x.g) j).natAbs<=cB f:=fun j hj=>by rw[iF,B8];exact h.co x hx j hj
 obtain⟨g1,g2,g3⟩:=E2 h hS hq hcl hK hco;refine⟨g1,Kn (show x∈(cM s _).items from hx) (IP h.inv hx),?_,FH (f:=f) hS hco⟩;obtain⟨y,hy,y1,y2⟩:=D6 (kn:=s.known++[⟨bT (aI s.known x.pos).c,b⟩]) (x:=⟨s.known.length,bT x.g⟩) (l:=s.items);refine⟨y,hy,y1,?_⟩;have:=g3 y hy y1;show(aI (s.known++[_]) x.pos).b+_<=_;rw[iI x1];have h2:(aI (s.known++[⟨bT (aI s.known x.pos).c,b⟩]) y.pos).b<=b:=this;show(aI s.known x.pos).b+(aI (s.known++[⟨bT (aI s.known x.pos).c,b⟩]) y.pos).b<=_;omega
theorem Ng{p p':Nat}{z:AI}(hz:z∈s.items)(h:z.pos≠p):z∈(mR s p p').items:=AG.2 ⟨z,hz,if_neg h⟩
theorem Iy{x:AI}{b:Int}{K':Nat}(h:Good sys base f K s)(hx:x∈s.items)(hb:dl b<=K')(hK:K<=K')(hle:b<=(aI s.known x.pos).b):
 Good sys (s.known++[⟨(aI s.known x.pos).c,b⟩]) f K' (mR (cM s ⟨(aI s.known x.pos).c,b⟩) x.pos s.known.length)/\
 (⟨s.known.length,x.g⟩:AI)∈(mR (cM s ⟨(aI s.known x.pos).c,b⟩) x.pos s.known.length).items/\
 (∀z∈s.items,z.g≠x.g->z∈(mR (cM s ⟨(aI s.known x.pos).c,b⟩) x.pos s.known.length).items):=by
 obtain⟨x1,x2⟩:=h.inv.it x hx;have hqx:=h.q _ (eK x1);have hcl:(aI s.known x.pos).c.length=s.n:=h.inv.kl _ (eK x1);have hq:fA K' ⟨(aI s.known x.pos).c,b⟩:=⟨fun v hv=>bO (hqx.1 v hv) hK,hb⟩;have hA:=vq (q:=⟨(aI s.known x.pos).c,b⟩) h hcl hq hK;have e1:aI (cM s ⟨(aI s.known x.pos).c,b⟩).known s.known.length=⟨(aI s.known x.pos).c,b⟩:=pD;have e2:aI (cM s ⟨(aI s.known x.pos).c,b⟩).known x.pos=aI s.known x.pos:=iI x1;refine⟨M2 hA (by show _<(s.known++[_]).length;simp) (by rw[e1,e2]) (by rw[e1,e2];exact hle),AG.2 ⟨x,hx,if_pos rfl⟩,fun z hz hne=>Ng (s:=cM s _) hz fun e=>hne ?_⟩;rw[L5 h.inv hz hx e]
theorem J7{p p':Nat}:(mR s p p').items.length=s.items.length:=cN ..
theorem Qj(hf:f+1<=4):∀(d:Nat) (base:List AQ) (K:Nat) (s:St) (x:AI) (kk:Int) (R:Nat->aR->Option bX),mi sys f R->Good sys base (f+1) K s->x∈s.items->Opp s x d->s.items.length<=iB (f+1)+1->
 s.known.length+d+iB (f+1)+282+lB f<=1073741824->K+d+562+dB f<=536870912->0<K->0<=kk->kk+d<=4294967295->Tm (fun N=>qw N (R N) s.to x.to (B kk) (B (kk+d))) (fC sys base s.n s.stack):=by
 have hL:cX=1099511627776:=rfl;have hC:=lM (f+1);have hmB:=nr (f+1);intro d
 induction d with
 |zero=>
  intro base K s x kk R hR h hx' ho hil hkl hK hK0 hk0 hk1;refine Tm.succ ?_;show Tm (fun N=>sC N (R (N+1)) (qw N (R (N+1))) s.to x.to (B kk) (B (kk+(0:Nat)))) _;unfold sC;have dk:dl kk<=1:=j2 (by omega);rw[show kk+((0:Nat):Int)=kk by omega];refine aU (kg (by omega) (by omega)) (cY (by unfold bM;rw[if_neg (by omega),if_neg (by omega)]) (aU (A4 (h.inv.cp h.n (by omega) (by omega))) ?_));exact Tm.bind (hR.shift base K s x h hx' (by simpa using ho) hil (by omega) (by omega)) fun r hr=>aM hr
 |succ d ih=>
  intro base K s x kk R hR h hx' ho hil hkl hK hK0 hk0 hk1;obtain⟨y,hy,hyg,hys⟩:=ho;obtain⟨x1,x2⟩:=h.inv.it x hx';have hqx:=h.q _ (eK x1);have hcl:(aI s.known x.pos).c.length=s.n:=h.inv.kl _ (eK x1);have dbx:=hqx.2;have dk:dl kk<=1:=j2 (by omega);have dk2:dl (kk+((d+1:Nat):Int))<=1:=j2 (by omega);have d1:=jt;have hcp:oZ s:=h.inv.cp h.n (by omega) (by omega);have hn:=h.n;obtain⟨n1,n2,n3,n4⟩:=Mb (b:=-(aI s.known x.pos).b) (K':=K) h hx' (by rw[fR];exact dbx) (bI _);have nl:(add (cM s ⟨bT (aI s.known x.pos).c,-(aI s.known x.pos).b⟩) ⟨s.known.length,bT x.g⟩).items.length<=iB (f+1)+1:=by
   show(ee _ _ s.items).length<=_;rw[A3 (x:=⟨s.known.length,bT x.g⟩) ⟨y,hy,hyg⟩];exact hil
  obtain⟨f1,f2,f3⟩:=Iy (b:=(aI s.known x.pos).b-1) (K':=K+1) h hx' (jG dbx (by omega)) (by omega) (by omega);have hyx:y.g≠x.g:=fun e=>IP h.inv hx' (by rw[<-hyg,e]);have hkl1:∀q:AQ,(s.known++[q]).length=s.known.length+1:=fun q=>by simp
  refine Tm.succ ?_;show Tm (fun N=>sC N (R (N+1)) (qw N (R (N+1))) s.to x.to (B kk) (B (kk+(d+1:Nat)))) _;unfold sC;refine aU (kg (by omega) (by omega)) (cz (by unfold bM;(repeat' split)<;>omega) ?_);refine aN (nM x1) ?_;rw[show(aI s.known x.pos).to.aZ=mB (aI s.known x.pos).c from rfl];refine aU (sE (K:=K) (by omega) (by omega) hqx.1) (aU (nu (by omega)) ?_);rw[show(vec (aI s.known x.pos).c.length fun j=>-vf (aI s.known x.pos).c j)=bT (aI s.known x.pos).c from rfl];refine aU (uJ (q:=⟨bT (aI s.known x.pos).c,-(aI s.known x.pos).b⟩) hcp) ?_;refine aU (sE (l:=x.g) (K:=8) (by omega) (by omega) (fun v hv=>bO (wG x2 (h.co x hx') (by omega) v hv) (by decide))) ?_;rw[show(vec x.g.length fun j=>-vf x.g j)=bT x.g from rfl];rw[HA (by omega)];have hqn:fA K ⟨bT (aI s.known x.pos).c,-(aI s.known x.pos).b⟩:=⟨Bw hqx.1,by show dl _<=_;rw[fR];exact dbx⟩;refine aU (vB (K:=K) ((vq h ((iY _).trans hcl) hqn (bI _)).mq (bI _) (by omega) (by show(s.known++[_]).length<=_;rw[hkl1];omega) (by show s.items.length<=_;omega)) n4) ?_;rw[ir (n:=(cM s ⟨bT (aI s.known x.pos).c,-(aI s.known x.pos).b⟩).to.n) (x:=(add (cM s ⟨bT (aI s.known x.pos).c,-(aI s.known x.pos).b⟩) ⟨s.known.length,bT x.g⟩).to) rfl];refine Tm.bind (hR.shift _ K _ x n1 n2 (by rw[show(aI s.known x.pos).b+-(aI s.known x.pos).b=0 by omega]at n3;exact n3) nl (by show(s.known++[_]).length+_+_+_<=_;rw[hkl1];omega) (by omega)) fun r7 hr7=>aY (fun hk=>aM (hr7.up hk)) (fun hk=>?_);obtain⟨p1,hp1,rfl⟩:=hr7.ref hk;refine aU (jH (by decide) (by decide)) (aU (l6 (a:=(aI s.known x.pos).b) (by omega) (by omega)) ?_);refine aU (uJ (q:=⟨(aI s.known x.pos).c,(aI s.known x.pos).b-1⟩) hcp) ?_;rw[LR (by omega)];refine aU (GW (l:=s.items) (p:=x.pos) (p':=s.known.length) (by omega)) ?_;refine aU (jH (by decide) (by decide)) (aU (mC (by omega) (by omega)) ?_);have hrun:=ih _ (K+1) _ ⟨s.known.length,x.g⟩ (kk+1) _ hR.shift f1 f2 ⟨y,f3 y hy hyx,hyg,by
   show(aI (s.known++[_]) s.known.length).b+(aI (s.known++[_]) y.pos).b<=_;rw[pD,iI (h.inv.it y hy).1];dsimp only;omega⟩ (by rw[J7];exact hil) (by show(s.known++[_]).length+_+_+_+_<=_;rw[hkl1];omega) (by omega) (by omega) (by omega) (by omega)
  rw[show kk+1+(d:Int)=kk+((d+1:Nat):Int) by omega]at hrun;refine Tm.bind (show Tm (fun N=>qw N (R (N+1)) (aR.mk (cM s ⟨(aI s.known x.pos).c,(aI s.known x.pos).b-1⟩).to.n (cM s ⟨(aI s.known x.pos).c,(aI s.known x.pos).b-1⟩).to.known (cM s ⟨(aI s.known x.pos).c,(aI s.known x.pos).b-1⟩).to.steps (cM s ⟨(aI s.known x.pos).c,(aI s.known x.pos).b-1⟩).to.u (cM s ⟨(aI s.known x.pos).c,(aI s.known x.pos).b-1⟩).to.status (cM s ⟨(aI s.known x.pos).c,(aI s.known x.pos).b-1⟩).to.value (mI (rY s.items x.pos s.known.length)) (cM s ⟨(aI s.known x.pos).c,(aI s.known x.pos).b-1⟩).to.stack) _ _ _) _ from hrun) fun r8 hr8=>aY (fun hk=>aM (hr8.up hk)) (fun hk=>?_);obtain⟨p2,hp2,rfl⟩:=hr8.ref hk;unfold qz;refine aU (aM rfl) (aM (.iK (.node s.steps (bT (aI s.known x.pos).c) (-(aI s.known x.pos).b) p1 p2) (.node h.jc ((iY _).trans hcl) hp1 ?_)));rw[CU,show- -(aI s.known x.pos).b-1=(aI s.known x.pos).b-1 by omega];exact hp2
end
end Go.D
set_option maxHeartbeats 1000000
namespace Go.D
open Go Go.X
section
variable {sys base:List AQ} {f K:Nat} {s s0:St} {v:Nat}
structure SI (sys base:List AQ)(f K:Nat)(s0:St)(v:Nat)(l:List AI)(s:St):Prop where
 fH:Good sys base (f+1) K s
 kept:Kept s0 s
 bR:cx v s.items=cx v s0.items
 z:∀x∈s0.items,vf x.g v=0->x∈s.items
 il:s.items.length<=iB (f+1)
 lm:∀w∈l,w∈s.items/\w∈s0.items/\vf w.g v<0
 nd:l.Pairwise fun a b=>a.g≠b.g
 low:∀w∈dh v s0.items,w∈l\/∃w'∈dh v s.items,w'.g=w.g/\(aI s.known w'.pos).b+max (gK v w (cx v s0.items)+1) 0<=(aI s0.known w.pos).b
theorem O3{bR:List AI}{a b:AI}(h:a.g=b.g):gK v a bR=gK v b bR:=by unfold gK;rw[h]
theorem yJ(h:Kept s0 s){p:Nat}(hp:p<s0.known.length):aI s.known p=aI s0.known p:=by
 obtain⟨e,he⟩:=h.kn;rw[he,iI hp]
theorem SI.skip{e:AI}{l:List AI}(h:SI sys base f K s0 v (e::l) s)(hI0:Inv s0)(hs:gK v e (cx v s0.items)<0):SI sys base f K s0 v l s where
 fH:=h.fH
 kept:=h.kept
 bR:=h.bR
 z:=h.z
 il:=h.il
 lm w hw:=h.lm w (cH _ hw)
 nd:=(yv.1 h.nd).2
 low w hw:=by
  rcases h.low w hw with h1|h1
  . rcases dY.1 h1 with rfl|h1
    . obtain⟨a,b,c⟩:=h.lm w cK;refine .inr ⟨w,gV.2 ⟨a,c⟩,rfl,?_⟩;rw[yJ h.kept (hI0.it w b).1,MX (by omega)];omega
    . exact .inl h1
  . exact .inr h1
theorem SI.far{e:AI}{l:List AI}{k:Int}(h:SI sys base f K s0 v (e::l) s)(hI0:Inv s0)(hs:gK v e (cx v s0.items)=k)(hk:0<=k)(hk':k<4294967296):
 SI sys (s.known++[⟨(aI s.known e.pos).c,(aI s.known e.pos).b-k-1⟩]) f (K+3) s0 v l (mR (cM s ⟨(aI s.known e.pos).c,(aI s.known e.pos).b-k-1⟩) e.pos s.known.length):=by
 obtain⟨em,em0,ev⟩:=h.lm e cK;obtain⟨e1,e2⟩:=h.fH.inv.it e em;have hd:=(h.fH.q _ (eK e1)).2;have d1:dl ((aI s.known e.pos).b-k)<=K+2:=jG (K:=K+1) (by omega) (bO (j2 (by omega)) (by omega));have d2:dl ((aI s.known e.pos).b-k-1)<=K+3:=jG (K:=K+2) d1 (bO jt (by omega));obtain⟨g1,g2,g3⟩:=Iy (b:=(aI s.known e.pos).b-k-1) (K':=K+3) h.fH em d2 (by omega) (by omega);have hk2:Kept s (mR (cM s ⟨(aI s.known e.pos).c,(aI s.known e.pos).b-k-1⟩) e.pos s.known.length):=(HU s _).trans (KP _ _ _);have hun:∀x∈s.items,x.pos=e.pos->x=e:=fun x hx he=>L5 h.fH.inv hx em he;refine⟨g1,h.kept.trans hk2,?_,fun x hx hx0=>g3 x (h.z x hx hx0) fun he=>?_,by rw[J7];exact h.il,fun w hw=>?_,(yv.1 h.nd).2,fun w hw=>?_⟩
 . rw[<-h.bR];show(List.map _ s.items).filter _=s.items.filter _;rw[List.filter_map];have e3:(s.items.filter ((fun x:AI=>decide (0<vf x.g v))∘fun x=>if x.pos=e.pos then({x with pos:=s.known.length}:AI)else x))=cx v s.items:=by
    unfold cx;refine List.filter_congr fun x _=>?_;show decide (0<vf (if x.pos=e.pos then({x with pos:=s.known.length}:AI)else x).g v)=_;split<;>rfl
   rw[e3];have e4:∀x∈cx v s.items,(if x.pos=e.pos then({x with pos:=s.known.length}:AI)else x)=id x:=fun x hx=>if_neg fun he=>by
    obtain⟨x1,x2⟩:=j3.1 hx;rw[hun x x1 he]at x2;omega
   rw[B5 e4,List.map_id];rfl
 . rw[he]at hx0;omega
 . obtain⟨a,b,c⟩:=h.lm w (cH _ hw);exact⟨g3 w a fun he=>(yv.1 h.nd).1 w hw he.symm,b,c⟩
 . by_cases hwe:w.g=e.g
   . obtain rfl:w=e:=wS hI0 (gV.1 hw).1 em0 hwe;refine .inr ⟨⟨s.known.length,w.g⟩,gV.2 ⟨g2,ev⟩,rfl,?_⟩;show(aI (s.known++[_]) s.known.length).b+_<=_;rw[pD,hs,Int.max_eq_left (by omega)];dsimp only;rw[yJ h.kept (hI0.it w em0).1];omega
   . rcases h.low w hw with h1|⟨w',hw',e3,e4⟩
     . rcases dY.1 h1 with rfl|h1
       . exact absurd rfl hwe
       . exact .inl h1
     . obtain⟨m1,m2⟩:=gV.1 hw';refine .inr ⟨w',gV.2 ⟨g3 w' m1 (by rw[e3];exact hwe),m2⟩,e3,?_⟩;show(aI (s.known++[_]) w'.pos).b+_<=_;rw[iI (h.fH.inv.it w' m1).1];exact e4
theorem SI.last(hf:f+1<=4)(h:SI sys base f K s0 v [] s)(hI0:Inv s0)(hr0:RF sys s0)(hv:v<s.n)(hst:vf s.status v=0)(hup:cx v s0.items≠[])(hkl:s.known.length+(iB (f+1)+1)*(iB (f+1)+1)/4<=1073741824)(hK:K+6<=536870912)(hil0:s0.items.length<=1073741824):
 Nxt sys base f (K+6) (s.known.length+(iB (f+1)+1)*(iB (f+1)+1)/4) s.n (s.stack++[⟨v,ff s0 v,false⟩]) ((bU (fw s v false (ff s0 v)) (cT s v)).1,(bU (fw s v false (ff s0 v)) (cT s v)).2.to):=by
 have hn0:s.n=s0.n:=h.kept.n;have hats0:=GZ hI0 (v:=v) (by rw[<-hn0];exact hv);obtain⟨ke,hke⟩:=h.kept.kn;have hux:∀y i,ux s y i=ux s0 y i:=fun y i=>by unfold ux;rw[h.kept.u,h.kept.n]
 have hxs:∀y p,p<s0.known.length->(hx s (ux s y) p↔hx s0 (ux s0 y) p):=fun y p hp=>rI hn0 hke hp fun i _=>hux y i;have hih:∀y (x:AI),x.pos<s0.known.length->(IH s y x↔IH s0 y x):=fun y x hp=>wU hn0 hke hp;refine Kb hf h.fH hI0 hr0 h.kept hv hst (fun p hp=>?_) (bO LS hil0) (fun y h1 h2 x hx'=>?_) (fun _ y hp=>?_) (bI _) (by have:=h.il;omega) hkl hK
 . obtain⟨a,b,c⟩:=hats0 p hp;refine⟨by rw[hke,db];omega,fun j hj hs=>?_,?_⟩
   . rw[h.kept.u,hn0,yJ h.kept a];exact b j (by rw[<-hn0];exact hj) (by rw[<-h.kept.status];exact hs)
   . rw[h.kept.u,hn0,yJ h.kept a];exact c
 . by_cases h0:vf x.g v=0
   . exact(hih y x (hI0.it x hx').1).1 (h1 x (h.z x hx' h0) h0)
   . refine(tX hI0 hx').2 ((hxs y _ (hI0.it x hx').1).1 (h2 _ (dL.2 ⟨x,fN.2 ?_,rfl⟩)));rcases tk h0 with g|g
     . exact .inr (gV.2 ⟨hx',g⟩)
     . exact .inl (j3.2 ⟨hx',g⟩)
 . obtain⟨z,z1,z2⟩:=HR (y:=y) hv (fun w=>(aI s.known w.pos).b+max (gK v w (cx v s0.items)+1) 0) (fun x hx' w hw=>by
    have h0:=hp x hx' w hw;have hne:cx v s.items≠[]:=Gj hx';have h3:=Hx (j3.1 hx').2 (Hu x hx') (show 0< -vf w.g v by have:=(gV.1 hw).2;omega) (KJ (low:=w) (El hne));rw[h.bR]at h3;rw[vJ];omega)
   refine⟨z,fun p hp'=>?_⟩;obtain⟨x,hx',rfl⟩:=dL.1 hp';rcases fN.1 hx' with hx'|hx'
   . rw[<-h.bR]at hx';exact(tX h.fH.inv (j3.1 hx').1).1 (z1 x hx')
   . obtain⟨m1,m2⟩:=gV.1 hx';rcases h.low x hx' with h1|⟨w',hw',e3,e4⟩
     . cases h1
     . have h5:=z2 w' hw';rw[O3 e3,e3]at h5;refine(hxs _ _ (hI0.it x m1).1).2 ((tX hI0 m1).1 ((E5 (by rw[<-hn0];exact hv)).2 ?_));rw[<-hn0];omega
theorem PU{low:AI}{bR:List AI}(h:0<dW v bR)(hb:vf low.g v<0):gK v low bR≤-vf low.g v:=by
 have h1:=pQ (a:=dW v bR*-vf low.g v-dW v bR- -vf low.g v) h;unfold gK;generalize(dW v bR*-vf low.g v-dW v bR- -vf low.g v).fdiv (dW v bR)=q at*;refine Gh (a:=dW v bR) ?_ h;rw[fE (dW v bR) q];omega
def kY(s:St)(t:List AE):St:={s with stack:=t}
theorem Qu(s:St)(g:List Int)(us:List AU)(t:List AE):dst (kY s t) g us=kY (dst s g us) t:=by
 unfold dst;split<;>rfl
theorem SO(s:St)(g:List Int)(us:List AU)(t:List AE):put (kY s t) g us=((put s g us).1,kY (put s g us).2 t):=by
 unfold put mK;rw[Qu];dsimp only;split<;>rfl
theorem CF(t:List AE):∀(L:List Act) (s:St),bU (kY s t) L=((bU s L).1,kY (bU s L).2 t)
 |[],s=>rfl
 |.add x::r,s=>CF t r (add s x)
 |.put g us::r,s=>by
  have e1:bU (kY s t) (.put g us::r)=if(put (kY s t) g us).1=true then bU (put (kY s t) g us).2 r else(false,(put (kY s t) g us).2):=rfl;have e2:bU s (.put g us::r)=if(put s g us).1=true then bU (put s g us).2 r else(false,(put s g us).2):=rfl;rw[e1,e2,SO];dsimp only;split
  . exact CF t r _
  . rfl
theorem Om(hf:f+1<=4)(hI0:Inv s0)(hr0:RF sys s0)(hv0:v<s0.n)(hst0:vf s0.status v=0)(hup:cx v s0.items≠[])(hil0:s0.items.length<=iB (f+1)):
 ∀(m:Nat) (l:List AI) (base:List AQ) (K:Nat) (s:St) (R:Nat->aR->Option bX),l.length<=m->mi sys f R->lX sys f 260 R->SI sys base f K s0 v l s->
  s.known.length+m+cB (f+1)+(iB (f+1)+1)+(iB (f+1)+1)*(iB (f+1)+1)/4+283+lB f<=1073741824->K+3*m+cB (f+1)+570+dB f<=536870912->
  Tm (fun N=>mA N (R N) s.to (v:Int) (mI l) ((ff s0 v).map Int.ofNat)) (fC sys base s.n s.stack):=by
 have hL:cX=1099511627776:=rfl;have hC:=lM (f+1);have hmB:=nr (f+1);intro m
 induction m with
 |zero=>
  intro l base K s R hl hE hP h hkl hK;obtain rfl:=me.1 (Nat.le_zero.1 hl);have hn:=h.fH.n;have hn0:s.n=s0.n:=h.kept.n;have hil:=h.il;have hv:v<s.n:=by rw[hn0];exact hv0
  have hst:vf s.status v=0:=by rw[h.kept.status];exact hst0
  have hcp:oZ s:=h.fH.inv.cp hn (by omega) (by omega);have hlast:=h.last hf hI0 hr0 hv hst hup (by omega) (by omega) (by omega);refine Tm.succ ?_;show Tm (fun N=>pA N (R (N+1)) (mA N (R (N+1))) s.to (v:Int) (mI []) ((ff s0 v).map Int.ofNat)) _;unfold pA;refine aU (vT (h.fH.yR (by omega)) hv) ?_;refine aU (a:=[]) (Tm.loop (fun t=>t=[]) (fun _=>0) rfl ?_) ?_
  . rintro _ rfl;dsimp only[tW];refine aU (a:=false) (cz (by simp) (aM rfl)) (cz (by simp) (aM rfl))
  refine cY (by simp) (aU (A4 hcp) (aU (LD (m:=iB (f+1)+1) (t:=false) h.fH hv (bI _) (by omega) (by omega) (by omega)) ?_));have hsk:(bU (eG s v false) (cT s v)).2.stack=s.stack++[⟨v,ff s v,false⟩]:=(AD (cT s v) (eG s v false)).dM;have est:∀x:AE,(bU (eG s v false) (cT s v)).2.to.stack=s.stack.map AE.to++[(⟨v,ff s v,false⟩:AE).to]:=fun _=>by
   show List.map AE.to (bU (eG s v false) (cT s v)).2.stack=_;rw[hsk,jU];rfl
  have est:=est ⟨0,[],false⟩;have hsl:=Dm h.fH.inv;dsimp only;rw[est];have hpos:iw (((s.stack.map AE.to++[(⟨v,ff s v,false⟩:AE).to]).length:Int)-1)=((s.stack.map AE.to).length:Int):=by
   rw[db,km,cN,bK]<;>omega
  rw[hpos];refine aN (a:=(⟨v,ff s v,false⟩:AE).to) (by rw[de (by simp)];simp) ?_;refine aN (ed (n:=(s.stack.map AE.to).length) rfl (by simp)) ?_;have eset:(s.stack.map AE.to++[(⟨v,ff s v,false⟩:AE).to]).set (s.stack.map AE.to).length (dI.mk (⟨v,ff s v,false⟩:AE).to.v ((ff s0 v).map Int.ofNat) (⟨v,ff s v,false⟩:AE).to.dz)=(s.stack++[(⟨v,ff s0 v,false⟩:AE)]).map AE.to:=by
   rw[List.set_append_right _ _ (bI _),vE,jU];rfl
  rw[eset];have ek:bU (fw s v false (ff s0 v)) (cT s v)=((bU (eG s v false) (cT s v)).1,kY (bU (eG s v false) (cT s v)).2 (s.stack++[⟨v,ff s0 v,false⟩])):=CF _ (cT s v) (eG s v false);rw[ek]at hlast;dsimp only at hlast;have esS:aR.mk s.to.n (bU (eG s v false) (cT s v)).2.to.known (bU (eG s v false) (cT s v)).2.to.steps (bU (eG s v false) (cT s v)).2.to.u (bU (eG s v false) (cT s v)).2.to.status (bU (eG s v false) (cT s v)).2.to.value (bU (eG s v false) (cT s v)).2.to.items ((s.stack++[(⟨v,ff s0 v,false⟩:AE)]).map AE.to)=(kY (bU (eG s v false) (cT s v)).2 (s.stack++[⟨v,ff s0 v,false⟩])).to:=by
   have:(bU (eG s v false) (cT s v)).2.n=s.n:=(AD (cT s v) (eG s v false)).n;unfold kY St.to;dsimp only;rw[this]
  rw[esS];obtain⟨s',hs',hn',hcase⟩:=hlast;dsimp only at hs' hcase;rw[hs'];rcases hcase with⟨hb,hg,hgi,hgl,hgs⟩|⟨hb,href⟩
  . refine cz (by rw[hb];simp) (Tm.bind (hP.shift base (K+6) s' hg (Ap hg.n) hgi (by omega) (by omega)) fun r hr=>aM ?_);rw[hn',hgs]at hr;cases hr with
    |solved x a b c=>exact .solved x a b c
    |iK p a=>exact .iK p a
    |failed e' a b=>
     rcases fN.1 a with a|a
     . exact .failed e' a b
     . rw[cL.1 a]at b;cases b
  . refine cY (by rw[hb];rfl) ?_;unfold jy;exact aU (aM rfl) (aM (.iK (.leaf s'.steps) href))
 |succ m ih=>
  intro l base K s R hl hE hP h hkl hK;have hn:=h.fH.n;have hn0:s.n=s0.n:=h.kept.n;have hil:=h.il;have hv:v<s.n:=by rw[hn0];exact hv0
  have hst:vf s.status v=0:=by rw[h.kept.status];exact hst0
  have hcp:oZ s:=h.fH.inv.cp hn (by omega) (by omega);have hit:=h.fH.yR (by omega);have hups:=oy (v:=v) hit;have hupn:cx v s.items≠[]:=by rw[h.bR];exact hup
  have hItm:∀w∈s.items,w.g.length=s.n/\dl (vf w.g v)<=8:=fun w hw=>⟨(hit.2 w hw).1,hit.vf hw v⟩;by_cases h0:l=[]
  . subst h0;have:=ih [] base K s R (fy _) hE hP h (by omega) (by omega);exact this
  refine Tm.succ ?_;show Tm (fun N=>pA N (R (N+1)) (mA N (R (N+1))) s.to (v:Int) (mI l) ((ff s0 v).map Int.ofNat)) _;unfold pA;refine aU (vT hit hv) ?_;dsimp only;refine Tm.bind (Q:=fun r=>∃d:List AI,r=mI d/\d.length<=l.length/\SI sys base f K s0 v d s/\(d=[]\/∃e t,d=e::t/\0<=gK v e (cx v s0.items)))
   (Tm.wh (fun(d:List AI) t=>t=mI d/\d.length<=l.length/\SI sys base f K s0 v d s) (fun d=>d.length) l ⟨rfl,bI _,h⟩ ?_) ?_
  . rintro d _ ⟨rfl,hdl,hd⟩;dsimp only[tW];cases d with
    |nil=>exact aU (a:=false) (cz (by rw[eX];simp) (aM rfl)) (cz (by simp) (aM ⟨[],rfl,hdl,hd,.inl rfl⟩))
    |cons e t=>
     obtain⟨em,em0,ev⟩:=hd.lm e cK;have hsd:=wb (low:=e) hups hupn (hItm e em).2;refine aU (a:=decide (gK v e (cx v s.items)<0)) (cY (by rw[eX,cA];omega) (aN (a:=e.to) rfl (aU (xQ hups hupn (hItm e em).1 (hItm e em).2 hv) (aU (jg (by omega)) (aM (decide_eq_decide.2 np)))))) ?_;refine aY (fun hs=>?_) (fun hs=>aM ⟨e::t,rfl,hdl,hd,.inr ⟨e,t,rfl,?_⟩⟩)
     . have hs:=of_decide_eq_true hs;rw[h.bR]at hs;refine aN (a:=mI t) ?_ (aM ⟨t,⟨rfl,by rw[cA]at hdl;omega,hd.skip hI0 hs⟩,by rw[cA];omega⟩);rw[rO (i:=1) (j:=((mI (e::t)).length:Int)) (m:=1) (n:=(mI (e::t)).length) rfl rfl (by rw[eX,cA];omega) (bI _),tg];rfl
     . have hs:¬gK v e (cx v s.items)<0:=fun e'=>hs (decide_eq_true e');rw[h.bR]at hs;omega
  rintro _ ⟨d,rfl,hdl,hd,hcase⟩;rcases hcase with rfl|⟨e,t,rfl,hk0⟩
  . 
    have hlast:=ih [] base K s R (fy _) hE hP hd (by omega) (by omega);obtain⟨a,N0,ha,hN0⟩:=Tm.shift (f:=fun N=>mA N (R N) s.to (v:Int) (mI []) ((ff s0 v).map Int.ofNat)) hlast;obtain⟨_,N1,rfl,hN1⟩:=vT hit hv;have hloop:∀N r1,0<N->bJ (tW N (R (N+1)) (mA N (R (N+1))) (v:Int) r1) N (mI [])=some (mI []):=fun N r1 hN=>by
     obtain⟨n,rfl⟩:∃n,N=n+1:=⟨N-1,by omega⟩;exact xU (by
      dsimp only[tW];rw[if_neg (by rw[eX];simp)];rfl)
    refine⟨a,max N0 N1+1,ha,fun N hN=>?_⟩;have h2:=hN0 N (by omega);have h2:pA N (R (N+1)) (mA N (R (N+1))) s.to (v:Int) (mI []) ((ff s0 v).map Int.ofNat)=some a:=h2;unfold pA at h2;rw[show sM N s.to (v:Int)=some _ from hN1 N (by omega)]at h2;rw[FJ,hloop N _ (by omega),FJ]at h2;exact h2
  . obtain⟨em,em0,ev⟩:=hd.lm e cK;obtain⟨e1,e2⟩:=h.fH.inv.it e em;have hqe:=h.fH.q _ (eK e1);have hcl:(aI s.known e.pos).c.length=s.n:=h.fH.inv.kl _ (eK e1);have hsd:=wb (low:=e) hups hupn (hItm e em).2;have hsle:=PU (low:=e) (El hupn) ev;rw[h.bR]at hsd hsle;have hco:=h.fH.co e em v hv;generalize hk:gK v e (cx v s0.items)=k at*;have dk:dl k<=1:=j2 (by omega);have dq:=hqe.2;have d1:=jt;have da:dl ((aI s.known e.pos).b-k)<=K+2:=jG (K:=K+1) (by omega) (by omega);have dn:dl (k-(aI s.known e.pos).b)<=K+2:=jG (K:=K+1) (by omega) (by omega);have hkl1:∀q:AQ,(s.known++[q]).length=s.known.length+1:=fun q=>by simp
    rw[cA]at hdl;refine cz (by rw[eX,cA];omega) ?_;refine aN (a:=e.to) rfl (aN (a:=e.to) rfl (aU (xQ hups hupn (hItm e em).1 (hItm e em).2 hv) (aN (nM e1) ?_)));rw[h.bR,hk];rw[show(aI s.known e.pos).to.aZ=mB (aI s.known e.pos).c from rfl];refine aU (sE (K:=K) (by omega) (by omega) hqe.1) ?_;rw[show(vec (aI s.known e.pos).c.length fun j=>-vf (aI s.known e.pos).c j)=bT (aI s.known e.pos).c from rfl];refine aU (l6 (a:=(aI s.known e.pos).b) (by omega) (by omega)) (aU (jH (by decide) (by decide)) (aU (l6 (by omega) (by omega)) ?_));refine aU (uJ (q:=⟨(aI s.known e.pos).c,(aI s.known e.pos).b-k-1⟩) hcp) ?_;rw[LR (by omega)];refine aU (GW (l:=s.items) (p:=e.pos) (p':=s.known.length) (by omega)) ?_;refine aN (a:=mI t) ?_ ?_
    . rw[rO (i:=1) (j:=((mI (e::t)).length:Int)) (m:=1) (n:=(mI (e::t)).length) rfl rfl (by rw[eX,cA];omega) (bI _),tg];rfl
    have hfar:=hd.far hI0 hk hk0 (by omega);have hself:=ih t _ (K+3) _ _ (by omega) hE.shift hP.shift hfar (by show(s.known++[_]).length+_+_+_+_+_+_<=_;rw[hkl1];omega) (by omega);refine Tm.bind (show Tm (fun N=>mA N (R (N+1)) (aR.mk (cM s ⟨(aI s.known e.pos).c,(aI s.known e.pos).b-k-1⟩).to.n (cM s ⟨(aI s.known e.pos).c,(aI s.known e.pos).b-k-1⟩).to.known (cM s ⟨(aI s.known e.pos).c,(aI s.known e.pos).b-k-1⟩).to.steps (cM s ⟨(aI s.known e.pos).c,(aI s.known e.pos).b-k-1⟩).to.u (cM s ⟨(aI s.known e.pos).c,(aI s.known e.pos).b-k-1⟩).to.status (cM s ⟨(aI s.known e.pos).c,(aI s.known e.pos).b-k-1⟩).to.value (mI (rY s.items e.pos s.known.length)) (cM s ⟨(aI s.known e.pos).c,(aI s.known e.pos).b-k-1⟩).to.stack) (v:Int) (mI t) ((ff s0 v).map Int.ofNat)) _ from hself) fun r1 hr1=>aY (fun hk=>aM (hr1.up hk)) (fun hkind=>?_);obtain⟨p2,hp2,rfl⟩:=hr1.ref hkind;obtain⟨n1,n2,n3,n4⟩:=Mb (b:=k-(aI s.known e.pos).b) (K':=K+2) h.fH em dn (by omega);have nl:(add (cM s ⟨bT (aI s.known e.pos).c,k-(aI s.known e.pos).b⟩) ⟨s.known.length,bT e.g⟩).items.length<=iB (f+1)+1:=by
     have:=tH (kn:=(cM s ⟨bT (aI s.known e.pos).c,k-(aI s.known e.pos).b⟩).known) (x:=⟨s.known.length,bT e.g⟩) (l:=s.items);show(ee _ _ s.items).length<=_;omega
    refine aU (l6 (b:=(aI s.known e.pos).b) (by omega) (by omega)) (aU (uJ (q:=⟨bT (aI s.known e.pos).c,k-(aI s.known e.pos).b⟩) hcp) ?_);refine aU (sE (l:=e.g) (K:=8) (by omega) (by omega) (hit.2 e em).2) ?_;rw[show(vec e.g.length fun j=>-vf e.g j)=bT e.g from rfl];rw[HA (by omega)];have hqn:fA (K+2) ⟨bT (aI s.known e.pos).c,k-(aI s.known e.pos).b⟩:=⟨Bw fun w hw=>bO (hqe.1 w hw) (by omega),dn⟩;refine aU (vB (K:=K+2) ((vq h.fH ((iY _).trans hcl) hqn (by omega)).mq (bI _) (by omega) (by show(s.known++[_]).length<=_;rw[hkl1];omega) (by show s.items.length<=_;omega)) n4) ?_;rw[ir (n:=(cM s ⟨bT (aI s.known e.pos).c,k-(aI s.known e.pos).b⟩).to.n) (x:=(add (cM s ⟨bT (aI s.known e.pos).c,k-(aI s.known e.pos).b⟩) ⟨s.known.length,bT e.g⟩).to) rfl];have hch:=Qj hf k.toNat _ (K+2) _ e 0 (fun N=>R (N+1)) hE.shift n1 n2 (by
     obtain⟨y,y1,y2,y3⟩:=n3;exact⟨y,y1,y2,by omega⟩) nl (by show(s.known++[_]).length+_+_+_+_<=_;rw[hkl1];omega) (by omega) (by omega) (mZ _) (by omega)
    rw[show(0:Int)+(k.toNat:Int)=k by omega,B0]at hch;refine Tm.bind hch fun r2 hr2=>aY (fun hk=>aM (hr2.up hk)) (fun hkind2=>?_);obtain⟨p1,hp1,rfl⟩:=hr2.ref hkind2;unfold qz;refine aU (aM rfl) (aM (.iK (.node s.steps (bT (aI s.known e.pos).c) (k-(aI s.known e.pos).b) p1 p2) (.node h.fH.jc ((iY _).trans hcl) hp1 ?_)));rw[CU,show-(k-(aI s.known e.pos).b)-1=(aI s.known e.pos).b-k-1 by omega];exact hp2
end
end Go.D
set_option maxHeartbeats 1000000
namespace Go.D
open Go Go.X
section
variable {sys base:List AQ} {f K μ:Nat} {s:St} {v:Nat}
def zE(s:St):Prop:=∀x∈s.items,∀y∈s.items,(∀k,k<s.n->vf y.g k=-vf x.g k)->0<(aI s.known x.pos).b+(aI s.known y.pos).b
theorem RV(h:∀i j,i<s.items.length->j<s.items.length->(∀k,k<s.n->vf (bD s j).g k=-vf (bD s i).g k)->0<(aI s.known (bD s i).pos).b+(aI s.known (bD s j).pos).b):zE s:=by
 intro x hx y hy hg;obtain⟨i,hi,rfl⟩:=nc hx;obtain⟨j,hj,rfl⟩:=nc hy;have:=h i j hi hj;rw[lG hi,lG hj]at this;exact this hg
theorem fC.less{n:Nat}{dM stk':List AE}{r:bX}(h:fC sys base n stk' r)(hs:∀e∈stk',e.dz=true->e∈dM):fC sys base n dM r:=by
 cases h with
 |solved x a b c=>exact .solved x a b c
 |iK p a=>exact .iK p a
 |failed e a b=>exact .failed e (hs e a b) b
theorem O7{R:Nat->aR->Option bX}(hf:f+1<=4)(hR:lX sys f 260 R)(hE:mi sys f R)(hH:∀μ',μ'<μ->lX sys (f+1) μ' R)(h:Good sys base (f+1) K s)(hσ:ue μ s)(hil:s.items.length<=iB (f+1))(hkl:s.known.length+μ+lB (f+1)<=1073741824)(hK:K+2*μ+dB (f+1)<=536870912)
 (hv:v<s.n)(hst:vf s.status v=0)(hex:¬sq s v)(hp:zE s):Tm (fun N=>vz N (R N) s.to (v:Int)) (fC sys base s.n s.stack):=by
 have hL:cX=1099511627776:=rfl;have hC:=lM (f+1);have hmB:=nr (f+1);have hn:=h.n;have hlN:=wM (f:=f) (m:=iB (f+1)+1) hf (bI _);have hdN:=xn (f:=f) (m:=iB (f+1)+1) hf (bI _);have hit:=h.yR (by omega);have hup:cx v s.items≠[]:=fun e=>hex (.inl e);have hcp:oZ s:=h.inv.cp hn (by omega) (by omega);unfold vz;refine Tm.bind (Ul h.inv hit (by omega) h.q (by omega)) ?_;rintro⟨c,ok⟩ hc;dsimp only at hc⊢;refine Tm.bind (Q:=fun r:Sum Unit bX=>r=.inl ()\/∃z,r=.inr z/\fC sys base s.n s.stack z) (aY (fun h1=>?_) (fun h1=>aM (.inl rfl))) ?_
 . obtain⟨x,hx',y,hy',w,hw,hxu,hyu,rfl⟩:=hc h1;have b1:=(h.q _ (eK (h.inv.it x hx').1)).2;have b2:=(h.q _ (eK (h.inv.it y hy').1)).2;have d1:=jG (a:=(aI s.known x.pos).b) (b:=-(aI s.known y.pos).b) b1 (by rw[fR];exact b2);have d64:dl (64:Int)<=1:=j2 (by decide);have hpos:=hp x hx' y hy' fun k hk=>by rw[hxu k hk,hyu k hk];split<;>rfl
   refine aU (l6 (by omega) (by rw[fR];omega)) ?_;refine Tm.bind (Q:=fun b=>b=true->(aI s.known x.pos).b- -(aI s.known y.pos).b<=64) (aU (jH (by decide) (by decide)) (aU (kg (by omega) (by omega)) (aY (fun h2=>?_) (fun h2=>aM fun e=>(by cases e))))) ?_
   . refine Tm.bind (R3 hit hv (.inl hup)) ?_;rintro _ ⟨tt,rfl,ht⟩;exact aU (kg (by omega) ht) (aM fun _=>E3.1 h2)
   . intro b hb;refine aY (fun h2=>?_) (fun h2=>aM (.inl rfl));have:=hb h2;exact Tm.bind (RC hf hH h hσ hil hkl hK hx' hy' hw hxu hyu hpos (by omega)) fun r hr=>aM (.inr ⟨r,rfl,hr⟩)
 . rintro _ (rfl|⟨z,rfl,hz⟩)
   . dsimp only;refine aU (A4 hcp) (Tm.bind (Jz (m:=iB (f+1)+1) (t:=true) hf h hv hst (fun e=>by cases e) (bI _) (by omega) (by omega) (by omega)) ?_);rintro⟨ok2,x⟩ ⟨s',hs',hn',hcase⟩;dsimp only at hs' hcase⊢;subst hs';rw[ir (n:=s.to.n) (x:=s'.to) (by show(s.n:Int)=s'.n;rw[hn'])];rcases hcase with⟨rfl,hg,hgi,hgl,hgs⟩|⟨rfl,href⟩
     . refine cz (by simp) (Tm.bind (hR base (K+6) s' hg (Ap hg.n) hgi (by omega) (by omega)) fun r hr=>?_);rw[hn',hgs]at hr;refine Tm.bind (Q:=fun b=>b=true->fC sys base s.n s.stack r) (aY (fun h2=>aM fun _=>?_) (fun h2=>aM fun h3=>?_)) ?_
       . cases hr with
         |solved x a b c=>exact .solved x a b c
         |iK p a=>exact .iK p a
         |failed e a b=>exact absurd rfl h2
       . cases hr with
         |solved x a b c=>exact .solved x a b c
         |iK p a=>exact .iK p a
         |failed e a b=>
          rcases fN.1 a with a|a
          . exact .failed e a b
          . have h3:=of_decide_eq_true h3;rw[cL.1 a]at h3;exact absurd rfl h3
       . intro b hb;refine aY (fun h2=>aM (hb h2)) (fun h2=>?_);refine aU (vT hit hv) ?_;dsimp only;have hsl:=xG (v:=v) s.items;refine aU (HM (by omega) (by omega)) ?_;generalize hUW:cx v s.items++dh v s.items=UW;have hUWl:UW.length<=s.items.length:=by rw[<-hUW,db];omega
         refine aU (a:=(UW.map AI.pos).map Int.ofNat) (eL UW.length (fun k t=>t=(((UW.take k).map AI.pos).map Int.ofNat,(k:Int))) rfl ?_) ?_
         . rintro k hk _ rfl;dsimp only[Dd];rw[eX];refine aY (fun hlt=>?_) (fun hge=>aM ?_)
           . have hlt:k<UW.length:=by omega
             refine aN (oV hlt) (aN (dQ (by simp only[cN,fg,cA,dP];omega) (by decide)) (aM ⟨hlt,?_⟩));rw[ep (by omega),<-jV hlt];simp only[jU];rfl
           . show _=_;rw[fh (by omega)]
         . have hats:(UW.map AI.pos)=ff s v:=by rw[<-hUW];rfl
           rw[hats];refine Tm.bind (Om hf h.inv h.rf hv hst hup hil (dh v s.items).length (dh v s.items) base K s R (bI _) hE hR ⟨h,Kept.refl s,rfl,fun x hx _=>hx,hil,fun w hw=>⟨(gV.1 hw).1,(gV.1 hw).1,(gV.1 hw).2⟩,List.Pairwise.filter _ h.inv.kh,fun w hw=>.inl hw⟩ (by omega) (by omega)) fun r hr=>aM hr
     . refine cY rfl ?_;unfold jy;exact aU (aM rfl) (aM (.iK (.leaf s'.steps) href))
   . exact aM hz
def qs(sys base:List AQ)(n:Nat)(dM:List AE)(f:Nat):aK ((List bB)×(List Step)×(List (List aB))×(List Int)×(List aB)×(List aX)×(List dI)) bX->Prop
 |.next t=>∃f' s' K',f'<f/\t=ij s'/\s'.n=n/\(∀e∈s'.stack,e.dz=true->e∈dM)/\Good sys base f' K' s'/\s'.items.length<=iB f'/\s'.known.length+260+lB f'<=1073741824/\K'+520+dB f'<=536870912
 |.done r=>fC sys base n dM r
theorem qs.less{n f':Nat}{dM stk':List AE}{r}(h:qs sys base n stk' f' r)(hs:∀e∈stk',e.dz=true->e∈dM)(hf:f'<=f):qs sys base n dM f r:=by
 cases r with
 |next t=>
  obtain⟨f1,s',K',h1,h2,h3,h4,h5⟩:=h;exact⟨f1,s',K',by omega,h2,h3,fun e he ht=>hs e (h4 e he ht) ht,h5⟩
 |done r=>exact fC.less h hs
def yA(N:Nat)(self:aR->Option bX)(x:aR):Option (aK ((List bB)×(List Step)×(List (List aB))×(List Int)×(List aB)×(List aX)×(List dI)) bX):=(tN N x).bind fun d=>if(!d.2)=true then(sh N x).bind fun p=>some (aK.done p) else(uH N x d.1).bind fun q=>if(!q)=true then(vz N self x d.1).bind fun v=>some (aK.done v) else(nJ N x d.1 false).bind fun c=>if(!c.1)=true then(jy N (aR.mk x.n c.2.known c.2.steps c.2.u c.2.status c.2.value c.2.items c.2.stack)).bind fun y=>some (aK.done y) else some (aK.next (c.2.known,c.2.steps,c.2.u,c.2.status,c.2.value,c.2.items,c.2.stack))
theorem run_eq{N:Nat}{self:aR->Option bX}{s0:St}(hn:s0.n=s.n):uc N self s0.to (ij s)=(uZ N s.to).bind fun a=>
    if(!a.2.2.2.1)=true then(jy N (aR.mk s0.to.n a.2.2.2.2.known a.2.2.2.2.steps a.2.2.2.2.u a.2.2.2.2.status a.2.2.2.2.value a.2.2.2.2.items a.2.2.2.2.stack)).bind fun m=>some (aK.done m)
    else if a.2.2.1=true then(rA N (aR.mk s0.to.n a.2.2.2.2.known a.2.2.2.2.steps a.2.2.2.2.u a.2.2.2.2.status a.2.2.2.2.value a.2.2.2.2.items a.2.2.2.2.stack) a.1 a.2.1).bind fun b=>
        if(!b.1)=true then(jy N (aR.mk s0.to.n b.2.known b.2.steps b.2.u b.2.status b.2.value b.2.items b.2.stack)).bind fun o=>some (aK.done o)
        else some (aK.next (b.2.known,b.2.steps,b.2.u,b.2.status,b.2.value,b.2.items,b.2.stack))
    else yA N self (aR.mk s0.to.n a.2.2.2.2.known a.2.2.2.2.steps a.2.2.2.2.u a.2.2.2.2.status a.2.2.2.2.value a.2.2.2.2.items a.2.2.2.2.stack):=by
  have e:aR.mk s0.to.n s.to.known s.to.steps s.to.u s.to.status s.to.value s.to.items s.to.stack=s.to:=uF hn;rw[<-e];rfl
theorem EX{R:Nat->aR->Option bX}{s0:St}(hf:f<=4)(h:Good sys base f K s)(hn0:s0.n=s.n)(hil:s.items.length<=iB f+1)(hkl:s.known.length+1<=1073741824)(hK:K+6<=536870912)
 (hkl2:∀f',f=f'+1->s.known.length+iB f+1+260+lB f'<=1073741824/\K+526+dB f'<=536870912)
 (hnone:zE s->Tm (fun N=>yA N (R N) s.to) (qs sys base s.n s.stack f)):
 Tm (fun N=>uc N (R N) s0.to (ij s)) (qs sys base s.n s.stack f):=by
 have hL:cX=1099511627776:=rfl;have hmB:=nr f;have hCB:=lM f;have hn:=h.n;have hsteps:=h.steps;have hso:=h.mq (K':=K+6) (by omega) (by omega) (by omega) (by omega);have e:(fun N=>uc N (R N) s0.to (ij s))=fun N=>_:=funext fun N=>run_eq hn0;rw[e];refine Tm.bind (Nb (K:=K+6) (Kk:=K) h.inv hso (bI _) h.q ⟨by omega,by omega,by omega⟩) ?_;intro a ha;cases ha with
 |none hno=>
  refine cz (by simp) (cz (by simp) ?_);dsimp only;rw[ir (n:=s0.to.n) (x:=s.to) (by show(s0.n:Int)=s.n;rw[hn0])];exact hnone (RV hno)
 |some i j he=>
  have hf0:0<f:=J9 h.inv h.fr fun e=>by have:=he.il;rw[e]at this;cases this
  obtain⟨f',rfl⟩:∃f',f=f'+1:=⟨f-1,by omega⟩;obtain⟨q1,q2⟩:=hkl2 f' rfl;refine cz (by simp) (cY rfl ?_);dsimp only;rw[ir (n:=s0.to.n) (x:=s.to) (by show(s0.n:Int)=s.n;rw[hn0])];refine Tm.bind (M1 (m:=iB (f'+1)+1) (by omega) h (bI _) (by omega) (by omega) (by omega) he) ?_;rintro⟨ok,x⟩ ⟨s',hs',hn',hcase⟩;dsimp only at hs' hcase⊢;subst hs';rcases hcase with⟨rfl,hg,hgi,hgl,hgs⟩|⟨rfl,href⟩
  . exact cz (by simp) (aM ⟨f',s',K+6,by omega,rfl,hn',fun e he _=>by rw[hgs]at he;exact he,hg,hgi,by omega,by omega⟩)
  . refine cY rfl ?_;unfold jy;exact aU (aM rfl) (aM (show fC sys base s.n s.stack _ from .iK (.leaf s'.steps) href))
 |bad s' L hLs hO hB hl hb=>
  have hg0:∀z∈s.items,GB (cB f) z.g:=fun z hz w hw=>by
   obtain⟨j,hj,rfl⟩:=gE hw;exact h.co z hz j (by rw[(h.inv.it z hz).2]at hj;exact hj)
  have hA:=ub (K:=K) (M:=cB f) L s h.inv hLs hg0 fun a ha=>by
   have:=hB a ha;cases a with
   |add x=>exact fun v hv=>bO (this v hv) (fy _)
   |put g us=>exact fun v hv=>bO (this v hv) (fy _)
  have hsok:=tR (Kk:=K) (K:=K+6) L s hso ⟨by omega,by omega,by omega⟩ hO (bI _);rw[hb]at hA hsok;refine cY rfl ?_;unfold jy;have href:Ref s.n base (.leaf s'.steps):=yY hA.inv hA.kept.n (hA.jc base h.jc) (by have:=hA.kl;omega) (fun q hq=>(hsok.k q hq).1.mono (by omega)) (hA.bad rfl);exact aU (aM rfl) (aM (show fC sys base s.n s.stack _ from .iK (.leaf s'.steps) href))
theorem P2(h:Good sys base f K s)(hK:K<=536870912)(hkl:s.known.length<=1073741824)(hi:s.items=[]):Tm (fun N=>sh N s.to) (fC sys base s.n s.stack):=by
 have hu:=An f;refine(TT (K:=K) (Ku:=uB f) ⟨h.n,hK,by omega,h.su,fun q hq=>⟨h.q q hq,h.inv.kl q hq⟩,hkl⟩ h.inv hi h.st h.rf.F).mono ?_;rintro r (⟨x,rfl,xl,xd,y,hy,hxy⟩|⟨e,he,ht,rfl⟩)
 . refine .solved x xl xd fun q hq=>?_;have:=h.rf.R y hy q hq;unfold kV;rw[eF (f:=vf q.c) (f':=vf q.c) (g:=vf x) (g':=ux s y) (fun _ _=>rfl) hxy];exact this
 . exact .failed e he ht
theorem IN{R:Nat->aR->Option bX}(hf:f<=4)(hR:∀f',f=f'+1->lX sys f' 260 R/\mi sys f' R)(hH:∀μ',μ'<μ->lX sys f μ' R)(h:Good sys base f K s)(hσ:ue μ s)(hil:s.items.length<=iB f)(hkl:s.known.length+μ+lB f<=1073741824)(hK:K+2*μ+dB f<=536870912)(hp:zE s):
 Tm (fun N=>yA N (R N) s.to) (qs sys base s.n s.stack f):=by
 have hL:cX=1099511627776:=rfl;have hmB:=nr f;have hn:=h.n;have hit:=h.yR (by omega);unfold yA;refine Tm.bind (TO hit h.inv.fV (by omega)) ?_;rintro⟨v,ok⟩ (⟨h1,v,rfl,hv,hst,x,hx',hx0⟩|⟨h1,h2⟩)
 . dsimp only at h1⊢;subst h1;have hf0:0<f:=J9 h.inv h.fr fun e=>by rw[e]at hx';cases hx'
   obtain⟨f',rfl⟩:∃f',f=f'+1:=⟨f-1,by omega⟩;obtain⟨hR1,hR2⟩:=hR f' rfl;have hlN:=wM (f:=f') (m:=iB (f'+1)+1) hf (bI _);have hdN:=xn (f:=f') (m:=iB (f'+1)+1) hf (bI _);refine cz (by simp) (Tm.bind (Nz hit hv) fun q hq=>aY (fun h3=>?_) (fun h3=>?_))
   . have hex:¬sq s v:=fun e=>by rw[hq.2 e]at h3;cases h3
     exact Tm.bind (O7 hf hR1 hR2 hH h hσ hil hkl hK hv hst hex hp) fun r hr=>aM hr
   . have hex:sq s v:=hq.1 (by simpa using h3);refine Tm.bind (Jz (m:=iB (f'+1)+1) (t:=false) hf h hv hst (fun _=>hex) (bI _) (by omega) (by omega) (by omega)) ?_;rintro⟨ok2,x⟩ ⟨s',hs',hn',hcase⟩;dsimp only at hs' hcase⊢;subst hs';rcases hcase with⟨rfl,hg,hgi,hgl,hgs⟩|⟨rfl,href⟩
     . refine cz (by simp) (aM ⟨f',s',K+6,by omega,rfl,hn',fun e he ht=>?_,hg,hgi,by omega,by omega⟩);rw[hgs]at he;rcases fN.1 he with he|he
       . exact he
       . rw[cL.1 he]at ht;cases ht
     . refine cY rfl ?_;unfold jy;exact aU (aM rfl) (aM (show fC sys base s.n s.stack _ from .iK (.leaf s'.steps) href))
 . dsimp only at h1 h2⊢;subst h1;have hi:s.items=[]:=by
    cases hi:s.items with
    |nil=>rfl
    |cons x l=>
     obtain⟨w,w1,w2,w3⟩:=xj h.inv (x:=x) (by rw[hi];simp);exact absurd (h2 w w1 w3 x (by rw[hi];simp)) w2
   exact cY rfl (Tm.bind (P2 h (by omega) (by omega) hi) fun r hr=>aM hr)
theorem Iw(hf:f<=4)(hR:∀f',f'<f->∀μ,lX sys f' μ fun N=>jQ N)(hE:∀f',f'+1<f->mi sys f' fun N=>jQ N)(h:Good sys base f K s)
 (hfst:Tm (fun N=>uc N (jQ N) s.to (ij s)) (qs sys base s.n s.stack f)):Tm (fun N=>jQ N s.to) (fC sys base s.n s.stack):=by
 refine Tm.succ ?_;show Tm (fun N=>wz N (jQ N) s.to) _;unfold wz;refine Tm.bind (Q:=fC sys base s.n s.stack) (Tm.wh (fun(g:Nat×St) t=>t=ij g.2/\(g=(f,s)\/(g.1<f/\g.2.n=s.n/\(∀e∈g.2.stack,e.dz=true->e∈s.stack)/\∃K',Good sys base g.1 K' g.2/\g.2.items.length<=iB g.1/\g.2.known.length+260+lB g.1<=1073741824/\K'+520+dB g.1<=536870912))) (fun g=>g.1) (f,s) ⟨rfl,.inl rfl⟩ ?_) fun r hr=>aM hr;rintro⟨f1,s1⟩ _ ⟨rfl,hg⟩;have fin:∀{t},qs sys base s.n s.stack f1 t->f1<=f->(match t with|.next s'=>∃g':Nat×St,(s'=ij g'.2/\(g'=(f,s)\/(g'.1<f/\g'.2.n=s.n/\(∀e∈g'.2.stack,e.dz=true->e∈s.stack)/\∃K',Good sys base g'.1 K' g'.2/\g'.2.items.length<=iB g'.1/\g'.2.known.length+260+lB g'.1<=1073741824/\K'+520+dB g'.1<=536870912)))/\g'.1<((f1,s1):Nat×St).1|.done r=>fC sys base s.n s.stack r):=by
  intro t ht hle;cases t with
  |next t=>
   obtain⟨f2,s2,K2,h1,h2,h3,h4,h5,h6,h7,h8⟩:=ht;exact⟨(f2,s2),⟨h2,.inr ⟨by show f2<f;omega,h3,h4,K2,h5,h6,h7,h8⟩⟩,h1⟩
  |done r=>exact ht
 rcases hg with hg|⟨hlt,hn1,hst1,K1,hG,hi1,hl1,hk1⟩
 . obtain⟨rfl,rfl⟩:=Prod.mk.inj hg;refine hfst.mono fun t ht=>?_;have:=fin ht (bI _);cases t<;>exact this
 . dsimp only at hlt hn1 hst1 hG hi1 hl1 hk1;have hstep:=EX (R:=fun N=>jQ N) (s0:=s) (by omega) hG hn1.symm (by omega) (by omega) (by omega)
    (fun f' e=>by
     subst e;have hlN:=wM (f:=f') (m:=iB (f'+1)+1) (by omega) (bI _);have hdN:=xn (f:=f') (m:=iB (f'+1)+1) (by omega) (bI _);have:=lM (f'+1);omega)
    fun hp=>IN (μ:=260) (by omega) (fun f' e=>⟨hR f' (by omega) 260,hE f' (by omega)⟩) (fun μ' _=>hR f1 hlt μ') hG (Ap hG.n) hi1 hl1 (by omega) hp
   refine hstep.mono fun t ht=>?_;rw[hn1]at ht;have:=fin (ht.less hst1 (bI _)) (by omega);cases t<;>exact this
theorem PM(sys:List AQ):∀f,f<=4->(∀μ,lX sys f μ fun N=>jQ N)/\∀f',f=f'+1->mi sys f' fun N=>jQ N:=by
  intro f
  induction f using Nat.strongRecOn with
  |ind f ih=>
    intro hf;have hR:∀f',f'<f->∀μ,lX sys f' μ fun N=>jQ N:=fun f' hlt=>(ih f' hlt (by omega)).1;have hE0:∀f',f'+1<f->mi sys f' fun N=>jQ N:=fun f' hlt=>(ih (f'+1) hlt (by omega)).2 f' rfl;have hE:∀f',f=f'+1->mi sys f' fun N=>jQ N:=by
      rintro f' rfl base K s x hG hx' ho hil hkl hK;refine Iw hf hR hE0 hG (EX hf hG rfl hil (by omega) (by omega) (fun f2 e=>by
        obtain rfl:f'=f2:=by omega
        omega) fun hp=>?_)
      obtain⟨y,hy,y1,y2⟩:=ho;have:=hp x hx' y hy fun k hk=>by rw[y1,iF]
      omega
    refine⟨fun μ=>?_,hE⟩
    induction μ using Nat.strongRecOn with
    |ind μ ihμ=>
      intro base K s hG hσ hil hkl hK;refine Iw hf hR hE0 hG (EX hf hG rfl (by omega) (by
        match f with
        | 0 => have : lB 0 = 10 := rfl
               omega
        | f' + 1 => have hlN := wM (f := f') (m := iB (f' + 1) + 1) (by omega) (bI _)
                    omega) (by
        match f with
        | 0 => have : dB 0 = 10 := rfl
               omega
        | f' + 1 => have hdN := xn (f := f') (m := iB (f' + 1) + 1) (by omega) (bI _)
                    omega)
        (fun f' e=>by
          subst e;have hlN:=wM (f:=f') (m:=iB (f'+1)+1) (by omega) (bI _);have hdN:=xn (f:=f') (m:=iB (f'+1)+1) (by omega) (bI _);omega)
        fun hp=>IN hf (fun f' e=>⟨hR f' (by omega) 260,hE f' e⟩) ihμ hG hσ hil hkl hK hp)
end
end Go.D
set_option maxHeartbeats 1000000
namespace Go.D
open Go Go.X
def ql(n i:Nat):List Int:=vec n fun j=>if i=j then 1 else 0
def nS(n:Nat)(sys:List AQ):St:=⟨n,sys,[],(List.range n).map (ql n),List.replicate n 0,List.replicate n 0,[],[]⟩
theorem tmNew{n:Nat}{sys:List AQ}(hn:n<=512)(hl:sys.length<=1073741824):Tm (fun N=>xX N (n:Int) (sys.map AQ.to)) (·=(nS n sys).to):=by
 unfold xX;refine aU (a:=sys.map AQ.to) ?_ ?_
 . unfold zp;exact aN (dQ (by rw[cN];simp only[dP];omega) (by decide)) (aM (ja _))
 refine aN (gW (n:=n) rfl (by omega) (by decide)) (aN (gW (n:=n) rfl (by omega) (by decide)) ?_);refine aU (a:=((List.range n).map (ql n)).map mB) (eL n (fun k t=>t=(((List.range k).map (ql n)).map mB,(k:Int))) rfl ?_) (aM ?_)
 . rintro k hk _ rfl;dsimp only[DD];refine aY (fun hlt=>?_) (fun hge=>aM ?_)
   . have hlt:k<n:=by omega
     refine aN (gW (n:=n) rfl (by omega) (by decide)) ?_;rw[<-pf];refine aU (jH (by decide) (by decide)) (aN (ei (l:=List.replicate n 0) (by simpa using hlt)) (aN (ed (xs:=mB (List.replicate n 0)) rfl (by rw[dG];simpa using hlt)) (aN (dQ (by simp only[cN,List.length_range,cA,dP];omega) (by decide)) (aM ⟨hlt,?_⟩))));rw[ep (by omega),List.range_succ,va];simp only[jU,jT,List.map_nil];have:(List.replicate n (0:Int)).set k 1=ql n k:=by
      refine lY (by unfold ql;rw[iO,eZ];simp) fun j hj=>?_;have hj:j<n:=by simpa using hj
      unfold ql;rw[jO (by simpa using hlt),dJ hj,xg,dJ hj]
     rw[this]
   . have:k=n:=by omega
     subst this;rfl
 . show aR.mk _ _ _ _ _ _ _ _=(nS n sys).to;unfold nS St.to;dsimp only;rw[pf];rfl
section
variable {n:Nat} {sys:List AQ}
theorem yV{i j:Nat}(hi:i<n)(hj:j<n):mx (nS n sys).u i j=if i=j then 1 else 0:=by
 unfold mx nS;dsimp only;rw[cy,gM,FT hi];exact dJ hj
theorem nS_cu{c:List Int}{j:Nat}(hj:j<n):cu (nS n sys).u n c j=vf c j:=by
 unfold cu;rw[eF (f:=vf c) (f':=vf c) (g':=fun i=>if i=j then 1 else 0) (fun _ _=>rfl) fun i hi=>yV hi hj,o9 hj]
theorem nS_ux{y:Nat->Int}{i:Nat}(hi:i<n):ux (nS n sys) y i=y i:=by
 unfold ux;show bE (mx (nS n sys).u i) y n=_;rw[eF (f':=fun j=>if i=j then 1 else 0) (g:=y) (g':=y) (fun j hj=>yV hi hj) fun _ _=>rfl,oH,I0 hi]
theorem EF{m j:Nat}:vf (List.replicate m (0:Int)) j=0:=by
 rcases cv j m with h|h
 . rw[xg,dJ h]
 . rw[mG (by simpa using h)]
theorem Po(hq:∀q∈sys,q.c.length=n):Inv (nS n sys)where
 ul:=⟨by simp[nS],fun r hr=>by
  obtain⟨i,_,rfl⟩:=dL.1 hr;exact eZ⟩
 fV:=by simp[nS]
 vl:=by simp[nS]
 kl:=hq
 it x hx:=by cases hx
 dd x hx:=by cases hx
 nf x hx:=by cases hx
 gz x hx:=by cases hx
 kh:=List.Pairwise.nil
 jZ:=by
  refine⟨fun i j=>if i=j then 1 else 0,fun i hi k hk=>?_,fun i hi k hk=>?_⟩
  . have hi:i<n:=hi;have hk:k<n:=hk;show bE (mx (nS n sys).u i) (fun j=>if j=k then 1 else 0) n=_;rw[o9 hk];exact yV hi hk
  . have hi:i<n:=hi;have hk:k<n:=hk;show bE (fun j=>if i=j then 1 else 0) (fun j=>mx (nS n sys).u j k) n=_;rw[oH,I0 hi];exact yV hi hk
 stat j _:=.inl EF
 sv e he:=by cases he
 s2 j _ h:=by rw[show vf (nS n sys).status j=0 from EF]at h;omega
 sd:=List.Pairwise.nil
structure CV (n:Nat)(sys:List AQ):Prop where
 hn:n<=4
 l:sys.length<=32
 q:∀q∈sys,q.c.length=n/\(∀v∈q.c,v.natAbs<=50)/\dl q.b<=100000000
theorem P0{s:St}{a:Act}(h:a∈gn s):∃i,i<s.known.length/\a=.put (aI s.known i).c [⟨i,1⟩]:=by
 obtain⟨i,hi,rfl⟩:=dL.1 h;exact⟨i,sY.1 hi,rfl⟩
theorem Hd{p:Nat->Bool}:∀{n:Nat},gZ p n<=n
 |0=>bI _
 |n+1=>by
  have:=Hd (p:=p) (n:=n);simp only[gZ];split<;>omega
theorem Ni(h:CV n sys):Tm (fun N=>uk N (nS n sys).to) (Nxt sys sys n 100000006 64 n []):=by
 have hn:=h.hn;have hl:=h.l;have hI:=Po fun q hq=>(h.q q hq).1;have hfit:∀q∈sys,fA 100000000 q:=fun q hq=>⟨fun v hv=>bO (j2 (by have:=(h.q q hq).2.1 v hv;omega)) (by decide),(h.q q hq).2.2⟩;have hso:gu 100000006 (nS n sys):=⟨by show n<=_;omega,by show sys.length<=_;omega,by show 0<=_;omega,by show 0<=_;omega,fun q hq=>⟨(hfit q hq).mono (by omega),(h.q q hq).1⟩,fun x hx=>(by cases hx),by decide⟩;have hroom:jf sys.length (nS n sys):=⟨by show sys.length+_<=_;omega,by show 0+_<=_;omega,by show 0+_<=_;omega⟩;have hact:∀a∈gn (nS n sys),(kM 100000000 (nS n sys) a/\wW 50 a)/\mv 100000000 (nS n sys) a:=by
  intro a ha;obtain⟨i,hi,rfl⟩:=P0 ha;have hi:i<sys.length:=hi;have hq:=eK hi;obtain⟨q1,q2,q3⟩:=h.q _ hq;have hd:∀v∈(aI sys i).c,dl v<=1:=fun v hv=>j2 (by have:=q2 v hv;omega);have hP:gA 100000000 (nS n sys) (aI sys i).c [⟨i,1⟩]:=⟨q1,fun v hv=>bO (hd v hv) (by decide),by simp,by simp,fun u hu=>by
   rw[cL.1 hu];exact⟨hi,Ge 1,bO jt (by decide),hfit _ hq,q1⟩⟩
  refine⟨⟨hP,q2⟩,hP,⟨fun j hj=>?_,fun j hj hs=>absurd (show vf (nS n sys).status j=0 from EF) hs⟩,?_⟩
  . have hj:j<n:=hj;show _=cu (nS n sys).u n (vec n (dU sys [⟨i,1⟩])) j;rw[nS_cu hj,dJ hj];show _=1*vf (aI sys i).c j+0;show vf (aI sys i).c j=_;omega
  . unfold dv;split
    . exact bO jt (by decide)
    . exact bO (uS hd) (by decide)
 have hbl:(gn (nS n sys)).length=sys.length:=by simp[gn,nS]
 have hA:=ub (K:=100000000) (M:=50) (gn (nS n sys)) (nS n sys) hI (fun a ha=>(hact a ha).2) (fun z hz=>by cases hz) fun a ha=>(hact a ha).1.2;have hsok:=tR (Kk:=100000000) (gn (nS n sys)) (nS n sys) hso (by rw[hbl];exact hroom) (fun a ha=>(hact a ha).1.1) (by decide);refine(O9 (K0:=100000000) hso hroom (by decide) fun q hq=>⟨hfit q hq,fun v hv=>bO (j2 (by have:=(h.q q hq).2.1 v hv;omega)) (by decide)⟩).mono ?_;rintro _ rfl;have hnn:(bU (nS n sys) (gn (nS n sys))).2.n=n:=hA.kept.n;have hkl:(bU (nS n sys) (gn (nS n sys))).2.known.length<=64:=by
  have:=hA.kl;have e:(nS n sys).known.length=sys.length:=rfl;omega
 have hil:(bU (nS n sys) (gn (nS n sys))).2.items.length<=32:=by
  have:=hA.il;have e:(nS n sys).items.length=0:=rfl;omega
 have hder:gU n sys (bU (nS n sys) (gn (nS n sys))).2.steps (bU (nS n sys) (gn (nS n sys))).2.known:=hA.jc sys .nil;refine⟨_,rfl,hnn,?_⟩;cases hb:(bU (nS n sys) (gn (nS n sys))).1 with
 |false=>exact .inr ⟨rfl,yY hA.inv hnn hder (by omega) (fun q hq=>(hsok.k q hq).1.mono (by omega)) (hA.bad hb)⟩
 |true=>
  rw[hb]at hA;have hstk:(bU (nS n sys) (gn (nS n sys))).2.stack=[]:=hA.kept.dM;have hfr:gX (bU (nS n sys) (gn (nS n sys))).2<=n:=by unfold gX;rw[hnn];exact Hd
  have hu:=An n;have hux:∀y i,i<n->ux (bU (nS n sys) (gn (nS n sys))).2 y i=y i:=fun y i hi=>by
   rw[<-nS_ux (sys:=sys) (y:=y) hi];unfold ux;rw[hA.kept.u,hA.kept.n]
  refine .inl ⟨rfl,⟨hA.inv,⟨fun y hy q hq=>?_,fun k e hk=>(by rw[hstk]at hk;cases hk)⟩,by rw[hnn];exact hn,hfr,?_,fun q hq=>(hsok.k q hq).1,?_,fun e he=>(by rw[hstk]at he;cases he),by rw[hnn];exact hder⟩,?_,hkl,hstk⟩
  . obtain⟨i,hi,rfl⟩:=nc hq;have:=(hA.imp rfl y hy.2.1).2 (.put (aI sys i).c [⟨i,1⟩]) (dL.2 ⟨i,sY.2 hi,rfl⟩);have this:bE (vf (aI sys i).c) y n<=1*(aI sys i).b+0:=this;rw[hnn,<-uP hi,eF (f:=vf (aI sys i).c) (f':=vf (aI sys i).c) (g':=y) (fun _ _=>rfl) fun j hj=>hux y j hj];omega
  . intro x hx j hj;have h1:(vf x.g j).natAbs<=50:=hA.gb x hx _ (gr (by rw[(hA.inv.it x hx).2];exact hj))
    match n,hfr with
    |0,hfr=>exact zF hA.inv (by omega) x hx j hj
    |1,hfr=>exact zF hA.inv hfr x hx j hj
    |2,_=>exact bO h1 (by decide)
    |3,_=>exact bO h1 (by decide)
    |m+4,_=>exact h1
  . refine⟨⟨by rw[hA.kept.u,hnn];simp[nS],fun r hr=>?_⟩,by rw[hA.kept.status,hnn];simp[nS],by rw[hA.kept.value,hnn];exact⟨by simp[nS],fun v hv=>by rw[(yn.1 (show v∈List.replicate n 0 from hv)).2,ie];omega⟩⟩;rw[hA.kept.u]at hr;obtain⟨i,hi,rfl⟩:=dL.1 hr;rw[hnn];refine⟨eZ,fun v hv=>?_⟩;obtain⟨j,hj,rfl⟩:=gE hv;rw[show(ql n i).length=n from eZ]at hj;unfold ql;rw[dJ hj];refine bO (m:=1) (j2 ?_) (by omega);split<;>decide
  . match n,hfr with
    |0,hfr=>rw[D1 hA.inv (by omega)];simp
    |1,hfr=>exact Hw hA.inv hfr
    |2,_=>exact bO hil (by decide)
    |3,_=>exact bO hil (by decide)
    |m+4,_=>exact hil
theorem Tt(h:CV n sys):Tm (fun N=>qC N (n:Int) (sys.map AQ.to)) (fC sys sys n []):=by
 have hn:=h.hn;have hl:=h.l;unfold qC;refine aU (tmNew (by omega) (by omega)) (Tm.bind (Ni h) ?_);rintro⟨ok,x⟩ ⟨s',hs',hn',hcase⟩;dsimp only at hs' hcase⊢;subst hs';rw[ir (n:=(nS n sys).to.n) (x:=s'.to) (by show(n:Int)=s'.n;rw[hn'])];rcases hcase with⟨rfl,hg,hgi,hgl,hgs⟩|⟨rfl,href⟩
 . refine cz (by simp) (Tm.bind ((PM sys n hn).1 260 sys 100000006 s' hg (Ap hg.n) hgi ?_ ?_) fun r hr=>aM ?_)
   . have:lB n<=542800000:=by
      match n with
      |0=>decide
      |1=>decide
      |2=>decide
      |3=>decide
      |m+4=>exact bI _
     omega
   . have:dB n<=400400000:=by
      match n with
      |0=>decide
      |1=>decide
      |2=>decide
      |3=>decide
      |m+4=>exact bI _
     omega
   . rw[hn',hgs]at hr;exact hr
 . refine cY rfl ?_;unfold jy;exact aU (aM rfl) (aM (.iK (.leaf s'.steps) href))
end
end Go.D
set_option maxHeartbeats 1000000
namespace Go.D
open Go Go.X
def cV(n:Nat)(c:Constraint):List Int:=fP c n c.Linear.aZ.length
def cQ(n:Nat)(c:Constraint):List AQ:=if c.iA=true then[⟨cV n c,-c.Linear.Const⟩,⟨bT (cV n c),c.Linear.Const⟩]else[⟨cV n c,-c.Linear.Const⟩]
def kF(n:Nat)(l:List Constraint):List AQ:=l.flatMap (cQ n)
theorem EZ{n:Nat}{c:Constraint}:(cV n c).length=n:=by unfold cV;rw[qS];simp
theorem Kw{l:List Int}:eV (mB l) l:=⟨dG l,fun j h h'=>by rw[DZ];exact mz _⟩
theorem N3{l:List Int}:bT l=l.map fun v=>-v:=by
 apply pJ (by rw[iY,cN]);intro i h1 h2;rw[<-nH h1,iF,kK,nH]
theorem OI{n:Nat}{c:Constraint}(h:fI c n):nL c n ((cQ n c).map AQ.to):=by
 refine .inr ⟨h,(⟨cV n c,-c.Linear.Const⟩:AQ).to,⟨Kw,mz _⟩,?_⟩;unfold cQ;cases he:c.iA with
 |false=>exact .inl ⟨rfl,by simp⟩
 |true=>
  refine .inr ⟨rfl,(⟨bT (cV n c),c.Linear.Const⟩:AQ).to,⟨?_,mz _⟩,by simp⟩;show eV (mB (bT (cV n c))) ((cV n c).map fun v=>-v);rw[N3];exact Kw
theorem Ls{n:Nat}:∀{l:List Constraint},(∀c∈l,fI c n)->kr n l ((kF n l).map AQ.to)
 |[],_=>rfl
 |c::l,h=>⟨_,_,OI (h c cK),Ls fun d hd=>h d (cH _ hd),by unfold kF;rw[B6,jU]⟩
theorem J2{n:Nat}{l:List Constraint}(h:∀c∈l,fI c n):pM l n ((kF n l).map AQ.to):=.inl ⟨h,Ls h⟩
structure kS (n:Nat)(l:List Constraint):Prop where
 hn:n<=4
 len:l.length<=16
 right:∀c∈l,fI c n
 const:∀c∈l,gm c.Linear.Const
 my:∀c∈l,∀k∈c.Linear.aZ,k.N.natAbs<=50
section
variable {n:Nat} {l:List Constraint}
theorem kS.cl(h:kS n l){c:Constraint}(hc:c∈l):c.Linear.aZ.length<=4:=by
 have:=Ss (h.right c hc);have:=h.hn;omega
theorem kS.okc(h:kS n l):∀c∈l,nR c:=fun c hc=>⟨by have:=h.cl hc;omega,h.const c hc,fun k hk=>by have:=h.my c hc k hk;unfold gm;omega⟩
theorem P5{P:Int->Prop}(h0:P 0){c:Constraint}{n:Int}(hc:∀k∈c.Linear.aZ,P k.N):∀k,∀v∈fP c n k,P v:=by
 intro k;unfold fP;have key:∀(cs:List jN) (v:List Int),(∀k∈cs,P k.N)->(∀x∈v,P x)->∀x∈cs.foldl pT v,P x:=by
  intro cs
  induction cs with
  |nil=>intro v _ hv;exact hv
  |cons a cs ih=>
   intro v ha hv;refine ih (pT v a) (fun k hk=>ha k (cH _ hk)) fun x hx=>?_;rcases pG hx with hx|rfl
   . exact hv x hx
   . exact ha a cK
 exact key _ _ (fun k hk=>hc k (ta hk)) fun x hx=>by rw[(yn.1 hx).2];exact h0
theorem Rx{c:Constraint}:(cQ n c).length<=2:=by unfold cQ;split<;>simp
theorem K8:∀{l:List Constraint},(kF n l).length<=2*l.length
 |[]=>by simp[kF]
 |c::l=>by
  have:=K8 (l:=l);have:=Rx (n:=n) (c:=c);unfold kF at*;rw[B6,db,cA];omega
theorem kS.sys(h:kS n l):CV n (kF n l):=by
 refine⟨h.hn,by have:=h.len;have:=K8 (n:=n) (l:=l);omega,fun q hq=>?_⟩;obtain⟨c,hc,hq⟩:=yw.1 hq;have hv:∀v∈cV n c,v.natAbs<=50:=P5 (P:=fun v=>v.natAbs<=50) (by decide) (h.my c hc) _;have hi:=h.const c hc;unfold gm at hi;have d1:dl c.Linear.Const<=2:=Dl (by omega);have d2:dl (-c.Linear.Const)<=2:=Dl (by omega);have hneg:∀v∈bT (cV n c),v.natAbs<=50:=fun v hv'=>by rw[<-B8];exact hv _ (EJ hv')
 unfold cQ at hq;split at hq
 . rcases dY.1 hq with rfl|hq
   . exact⟨EZ,hv,bO d2 (by decide)⟩
   . rw[cL.1 hq];exact⟨(iY _).trans EZ,hneg,bO d1 (by decide)⟩
 . rw[cL.1 hq];exact⟨EZ,hv,bO d2 (by decide)⟩
def rG(c:Constraint)(x:List Int):Int:=c.Linear.Const+pU c x c.Linear.aZ.length
def tM(l:List Constraint)(x:List Int):Prop:=∀c∈l,rG c x<=0/\(c.iA=true->rG c x=0)
theorem HD{a b:List Int}:∀m,bE (vf a) (vf b) m=nz a b m
 |0=>rfl
 |m+1=>by show bE _ _ m+_=_;rw[HD m];rfl
theorem GG{c:Constraint}{x:List Int}(hx:x.length=n)(h:fI c n):(∀q∈cQ n c,kV n (vf x) q)↔(rG c x<=0/\(c.iA=true->rG c x=0)):=by
 have h1:bE (vf (cV n c)) (vf x) n=pU c x c.Linear.aZ.length:=by
  rw[HD];have:=PC (c:=c) (x:=x) (by rw[hx];exact h) (k:=c.Linear.aZ.length) (bI _);rw[hx]at this;exact this
 have h2:bE (vf (bT (cV n c))) (vf x) n=-pU c x c.Linear.aZ.length:=by rw[LO,h1]
 unfold cQ rG;cases he:c.iA with
 |false=>
  simp only[mb,if_false,cL,forall_eq,kV,h1,false_implies,and_true];omega
 |true=>
  simp only[if_true,dY,My,or_false,forall_eq_or_imp,forall_eq,kV,h1,h2,true_implies];omega
theorem sat_iff{x:List Int}(hx:x.length=n)(h:∀c∈l,fI c n):(∀q∈kF n l,kV n (vf x) q)↔tM l x:=by
 unfold tM kF;constructor
 . exact fun hs c hc=>(GG hx (h c hc)).1 fun q hq=>hs q (yw.2 ⟨c,hc,hq⟩)
 . intro hs q hq;obtain⟨c,hc,hq⟩:=yw.1 hq;exact(GG hx (h c hc)).2 (hs c hc) q hq
theorem Lq{c:Constraint}{x:List Int}:∀k,oU c.Linear (mB x) k=c.Linear.Const+pU c x k
 |0=>by show c.Linear.Const=c.Linear.Const+0;omega
 |k+1=>by
  rw[oU,pU,Lq k,zz,gB];show _+_*vf x _=_+(_+_*vf x _);omega
theorem kS.sum(h:kS n l){x:List Int}(hx:x.length=n)(hd:∀v∈x,dl v<=137438953472):∀c∈l,Fz c.Linear (mB x):=fun c hc=>by
 refine⟨by have:=h.cl hc;omega,h.const c hc,fun k hk=>?_,fun b hb=>?_⟩
 . obtain⟨i,hi,rfl⟩:=nc hk;have:=(h.right c hc).1 i hi;have h50:=h.my c hc _ hk;exact⟨by unfold gm;omega,this.1,by rw[dG,hx];exact this.2.1⟩
 . obtain⟨v,hv,rfl⟩:=dL.1 hb;exact okB (hd v hv)
theorem tmSat(h:kS n l){x:List Int}(hx:x.length=n)(hd:∀v∈x,dl v<=137438953472):Tm (fun N=>ve N l (mB x)) (fun r=>r=true↔tM l x):=by
 refine(RM (by have:=h.len;omega) (h.sum hx hd)).mono fun r hr=>?_;rw[hr,sX];unfold tM;refine forall_congr' fun c=>forall_congr' fun hc=>?_;unfold qk;rw[Lq];show(!(decide (0<rG c x)||(decide (rG c x<0)&&c.iA)))=true↔_;cases c.iA<;>simp<;>omega
theorem tmOwn(hl:l.length<=1073741824)(hc:∀c∈l,c.Linear.aZ.length<=1073741824):Tm (fun N=>yb N l) (·=l):=by
 unfold yb;refine aU (a:=l) (eL l.length (fun k t=>t=(l.take k,(k:Int))) rfl ?_) (aM rfl);rintro k hk _ rfl;dsimp only[Fk];refine aY (fun hlt=>?_) (fun hge=>aM ?_)
 . have hlt:k<l.length:=by omega
   have:=hc _ (du hlt);refine aN (de hlt) (aN (dQ (by simp only[dP];omega) (by decide)) (aN (dQ (by rw[fg];simp only[cA,dP];omega) (by decide)) (aM ⟨hlt,?_⟩)));rw[ep (by omega),<-jV hlt];rfl
 . show _=_;rw[fh (by omega)]
def Kz(n:Nat)(l:List Constraint):Prop:=∃x:List Int,x.length=n/\tM l x
theorem TD(h:kS n l):Tm (fun N=>qg N (n:Int) l) (fun r=>(∃x:List Int,r=(mB x,rX,true)/\x.length=n/\(∀v∈x,dl v<=137438953472)/\tM l x)\/(∃p:lj,r=([],p.to,false)/\Ref n (kF n l) p)):=by
 unfold qg;refine aU (a:=(kF n l).map AQ.to) ((Ns h.okc (by have:=h.len;omega)).mono fun r hr=>hr.uniq (J2 h.right)) (Tm.bind (Tt h.sys) ?_);intro r hr;cases hr with
 |solved x xl xd xs=>exact cY rfl (aM (.inl ⟨x,rfl,xl,xd,(sat_iff xl h.right).1 xs⟩))
 |iK p hp=>exact cz (by show¬(1:Int)=0;decide) (aM (.inr ⟨p,rfl,hp⟩))
 |failed e he ht=>cases he
theorem Pj{p:lj}(hr:∀c∈l,fI c n)(h:Ref n (kF n l) p):¬Kz n l:=by
 rintro⟨x,hx,hs⟩;exact h.sound (vf x) ((sat_iff hx hr).2 hs)
theorem Ty(h:kS n l){p:lj}(hp:Ref n (kF n l) p):Tm (fun N=>qV N (n:Int) l p.to) (·=true):=by
 unfold qV;refine aU (a:=(kF n l).map AQ.to) ((TA h.okc (by have:=h.len;omega)).mono fun r hr=>hr.uniq (J2 h.right)) ?_;refine aU (PH (by have:=h.hn;omega) hp fun e=>?_) (aM rfl);rw[e]at hp;exact hp.sound (fun _=>0) fun q hq=>by cases hq
theorem Q7(h:kS n l):Tm (fun N=>vP N (n:Int) l) (fun r=>r.2=true/\(r.1=true↔Kz n l)):=by
 unfold vP;refine aU (tmOwn (by have:=h.len;omega) fun c hc=>by have:=h.cl hc;omega) (Tm.bind (TD h) ?_);rintro _ (⟨x,rfl,xl,xd,xs⟩|⟨p,rfl,hp⟩)
 . refine cY rfl (cY (by rw[dG];omega) (Tm.bind (tmSat h xl xd) fun r hr=>aM ⟨hr.2 xs,fun _=>⟨x,xl,xs⟩,fun _=>rfl⟩))
 . refine cz (by simp) (cY rfl (aU (Ty h hp) (aM ⟨rfl,fun e=>(by cases e),fun e=>absurd e (Pj h.right hp)⟩)))
structure Bt (n:Int)(l:List Constraint)(most:Int):Prop where
 const:∀c∈l,-1000000<=c.Linear.Const/\c.Linear.Const<=1000000
 my:∀c∈l,∀k∈c.Linear.aZ,-most<=k.N/\k.N<=most
 hn:n<=4
 len:l.length<=6
 right:Ce l n
theorem PS{n:Int}{l:List Constraint}{most:Int}(hl:l.length<=9223372036854775807)(hc:∀c∈l,c.Linear.aZ.length<=9223372036854775807)(hm:0<=most/\most<=100):Tm (fun N=>xb N n l most) (fun r=>r=true->Bt n l most):=by
 unfold xb;refine Tm.bind (Tm.each (body:=fun N=>vN N l most) l (fun c=>(-1000000<=c.Linear.Const/\c.Linear.Const<=1000000)/\∀k∈c.Linear.aZ,-most<=k.N/\k.N<=most) (Q:=fun r=>r=.inr false\/(r=.inl ()/\∀c∈l,(-1000000<=c.Linear.Const/\c.Linear.Const<=1000000)/\∀k∈c.Linear.aZ,-most<=k.N/\k.N<=most)) hl ?_ ?_) ?_
 . intro k hk _;dsimp only[vN];have hcl:=hc _ (du hk);refine cY (by omega) (aN (de hk) (Tm.bind (Q:=fun b=>b=false->(-1000000<=l[k].Linear.Const/\l[k].Linear.Const<=1000000)) (aY (fun h=>aM fun e=>(by cases e)) (fun h=>aM fun e=>?_)) ?_))
   . have:=of_decide_eq_false e;omega
   . intro b hb;refine aY (fun h=>aM (.inr ⟨_,rfl,.inl rfl⟩)) (fun h=>?_);have hcb:=hb (by simpa using h);refine Tm.bind (Tm.each (body:=fun N=>wq N most l[k]) l[k].Linear.aZ (fun q=>-most<=q.N/\q.N<=most) (Q:=fun r=>r=.inr false\/(r=.inl ()/\∀q∈l[k].Linear.aZ,-most<=q.N/\q.N<=most)) hcl ?_ ?_) ?_
     . intro j hj _;dsimp only[wq];refine cY (by omega) (Tm.bind (Q:=fun b=>b=false→-most<=(l[k].Linear.aZ[j]).N/\(l[k].Linear.aZ[j]).N<=most) (aN (de hj) (aY (fun h=>aM fun e=>(by cases e)) (fun h=>aN (de hj) (aM fun e=>?_)))) ?_)
       . have:=of_decide_eq_false e;rw[bK (by omega) (by omega)]at this;omega
       . intro b hb;exact aY (fun h=>aM (.inr ⟨_,rfl,.inl rfl⟩)) (fun h=>aM (.inl ⟨rfl,hb (by simpa using h)⟩))
     . intro h;dsimp only[wq];exact cz (by omega) (aM ⟨_,rfl,.inr ⟨rfl,h⟩⟩)
     . rintro _ (rfl|⟨rfl,h2⟩)
       . exact aM (.inr ⟨_,rfl,.inl rfl⟩)
       . exact aM (.inl ⟨rfl,hcb,h2⟩)
 . intro h;dsimp only[vN];exact cz (by omega) (aM ⟨_,rfl,.inr ⟨rfl,h⟩⟩)
 . rintro _ (rfl|⟨rfl,h⟩)
   . exact aM fun e=>(by cases e)
   . refine aY (fun h1=>aY (fun h2=>?_) (fun h2=>aM fun e=>(by cases e))) (fun h1=>aM fun e=>(by cases e));exact Tm.bind (RS hl hc) fun r hr=>aM fun e=>⟨fun c hc'=>(h c hc').1,fun c hc'=>(h c hc').2,h1,by omega,hr.1 e⟩
theorem Bt.lok{n:Int}{l:List Constraint}{most:Int}(h:Bt n l most)(hm:most<=50):∃m:Nat,n=m/\kS m l:=by
 obtain⟨h1,h2,h3⟩:=h.right;refine⟨n.toNat,by omega,by have:=h.hn;omega,by have:=h.len;omega,fun c hc=>?_,fun c hc=>by have:=h.const c hc;unfold gm;omega,fun c hc k hk=>by have:=h.my c hc k hk;omega⟩;rw[show((n.toNat:Nat):Int)=n by omega];exact h1 c hc
end
end Go.D
set_option maxHeartbeats 1000000
namespace Go.D
open Go Go.X
theorem Uj{n:Int}{l:List Constraint}(hl:l.length<=9223372036854775807)
 (hc:∀c∈l,c.Linear.aZ.length<=9223372036854775807/\gm c.Linear.Const/\∀k∈c.Linear.aZ,gm k.N):Tm (fun N=>yC N n l) (·=true):=by
 unfold yC;refine Tm.bind (Q:=fun r=>r=false->Bt n l 7) ?_ ?_
 . refine Tm.bind JC ?_;rintro _ rfl;refine cz (by simp) (Tm.bind (PS hl (fun c h=>(hc c h).1) (by decide)) fun r hr=>aM fun e=>hr (by simpa using e))
 . intro r hr;refine aY (fun h=>Tm.bind JC fun r hr=>aM hr) (fun h=>?_);obtain⟨m,rfl,hL⟩:=(hr (by simpa using h)).lok (by decide);exact Tm.bind (Q7 hL) fun r hr=>aM hr.1
end Go.D
namespace Go.Proofs
open Go.Shelf
def Tryz.J5:Go.Shelf.Ren:=⟨fun|156=>122|165=>153|166=>154|169=>155|240=>176|241=>177|276=>185|277=>186|n=>n,fun|31=>158|9=>9|3=>3|4=>4|0=>0|20=>20|72=>196|76=>199|70=>193|37=>194|75=>198|127=>219|164=>230|5=>5|80=>201|n=>n,fun|n=>n⟩
theorem Tryz.HT:Go.Proofs.Lays.n156 Tryz.prog Tryz.J5:={
 mixed:=by kernel_rfl
 f156:=Tryz.func122.trans (congrArg some (by kernel_rfl))
 f165:=Tryz.func153.trans (congrArg some (by kernel_rfl))
 f166:=Tryz.func154.trans (congrArg some (by kernel_rfl))
 f169:=Tryz.func155.trans (congrArg some (by kernel_rfl))
 f240:=Tryz.func176.trans (congrArg some (by kernel_rfl))
 f241:=Tryz.func177.trans (congrArg some (by kernel_rfl))
 f276:=Tryz.func185.trans (congrArg some (by kernel_rfl))
 f277:=Tryz.func186.trans (congrArg some (by kernel_rfl))
 t0:=Tryz.underlying0
 a0:=Tryz.isAgg0
 z0:=Tryz.sizeOf0
 v0:=Tryz.zeroValue0
 t3:=Tryz.underlying3
 a3:=Tryz.isAgg3
 z3:=Tryz.sizeOf3
 v3:=Tryz.zeroValue3
 t4:=Tryz.underlying4
 a4:=Tryz.isAgg4
 z4:=Tryz.sizeOf4
 v4:=Tryz.zeroValue4
 t9:=Tryz.underlying9
 a9:=Tryz.isAgg9
 z9:=Tryz.sizeOf9
 v9:=Tryz.zeroValue9
 t20:=Tryz.underlying20
 a20:=Tryz.isAgg20
 z20:=Tryz.sizeOf20
 v20:=Tryz.zeroValue20
 t31:=Tryz.underlying158
 a31:=Tryz.isAgg158
 z31:=Tryz.sizeOf158
 v31:=Tryz.zeroValue158
 t37:=Tryz.underlying194
 a37:=Tryz.isAgg194
 z37:=Tryz.sizeOf194
 v37:=Tryz.zeroValue194
 t70:=Tryz.underlying193
 a70:=Tryz.isAgg193
 z70:=Tryz.sizeOf193
 v70:=Tryz.zeroValue193
 t72:=Tryz.underlying196
 a72:=Tryz.isAgg196
 z72:=Tryz.sizeOf196
 v72:=Tryz.zeroValue196
 t75:=Tryz.underlying198
 a75:=Tryz.isAgg198
 z75:=Tryz.sizeOf198
 v75:=Tryz.zeroValue198
 t76:=Tryz.underlying199
 a76:=Tryz.isAgg199
 z76:=Tryz.sizeOf199
 v76:=Tryz.zeroValue199
 t127:=Tryz.underlying219
 a127:=Tryz.isAgg219
 z127:=Tryz.sizeOf219
 v127:=Tryz.zeroValue219
 t164:=Tryz.underlying230
 a164:=Tryz.isAgg230
 z164:=Tryz.sizeOf230
 v164:=Tryz.zeroValue230}
theorem Tryz.Gx:Builder.Extra Tryz.prog Tryz.J5:={
 sizeBuilder:=by kernel_rfl
 liesBuilder:=by kernel_rfl
 t5:=Tryz.underlying5
 a5:=Tryz.isAgg5
 z5:=Tryz.sizeOf5
 v5:=Tryz.zeroValue5
 infoByte:=by kernel_rfl
 cellsByte:=by kernel_rfl
 sizeByte:=by kernel_rfl
 neB5:=by decide}
open Go.RowKit in
theorem Tryz.strings_Join_none(a:Option Addr)(c:Nat)(sep:ByteArray)(w:World):
 Calls Tryz.prog 122 #[.slice a 0 c,.string sep] w fun e w'=>e=.returned (.string ⟨#[]⟩)/\w'=w:=Any.strings_Join_none Tryz.HT Tryz.Gx a c sep w
open Go.RowKit in
theorem Tryz.strings_Join(bk o c:Nat)(xs:List ByteArray)(sep:ByteArray)(w:World)(hcells:∀(j:Nat) x,xs[j]?=some x->w.cell? ⟨bk,o+j,none⟩=some (.string x))(hbk:bk<w.heap.size)(hN:xs.length<=140737488355328)(hcap:xs.length<=c)(hlen:(Lib.join (xs.map (·.data.toList)) sep.data.toList).length<=140737488355328):
 Calls Tryz.prog 122 #[.slice (some ⟨bk,o,none⟩) xs.length c,.string sep] w fun e w'=>e=.returned (.string ⟨(Lib.join (xs.map (·.data.toList)) sep.data.toList).toArray⟩)/\Below w.heap.size w w':=Any.strings_Join Tryz.HT Tryz.Gx bk o c xs sep w hcells hbk hN hcap hlen
def Tryz.QE:Go.Shelf.Ren:=⟨fun|283=>178|n=>n,fun|3=>3|9=>9|4=>4|n=>n,fun|n=>n⟩
theorem Tryz.M6:Go.Proofs.Lays.n283 Tryz.prog Tryz.QE:={
 mixed:=by kernel_rfl
 f283:=Tryz.func178.trans (congrArg some (by kernel_rfl))
 t3:=Tryz.underlying3
 a3:=Tryz.isAgg3
 z3:=Tryz.sizeOf3
 v3:=Tryz.zeroValue3
 t4:=Tryz.underlying4
 a4:=Tryz.isAgg4
 z4:=Tryz.sizeOf4
 v4:=Tryz.zeroValue4
 t9:=Tryz.underlying9
 a9:=Tryz.isAgg9
 z9:=Tryz.sizeOf9
 v9:=Tryz.zeroValue9}
open Go.Lib in
theorem Tryz.internal_strconv_small(i:Nat)(h:i<100)(w:World):
 Calls Tryz.prog 178 #[.int .i64 i] w fun e w'=>e=.returned (.string ⟨(Lib.decDigits i).toArray⟩)/\w'=w:=Any.internal_strconv_small Tryz.M6 i h w
def Tryz.NR:Go.Shelf.Ren:=⟨fun|284=>179|129=>188|317=>187|318=>189|n=>n,fun|53=>87|3=>3|212=>234|0=>0|4=>4|46=>112|5=>5|9=>9|n=>n,fun|17=>0|n=>n⟩
theorem Tryz.Pr:Go.Proofs.LaysM.n284 Tryz.prog Tryz.NR:={
 mixed:=by kernel_rfl
 f129:=Tryz.func188.trans (congrArg some (by kernel_rfl))
 f284:=Tryz.func179.trans (congrArg some (by kernel_rfl))
 f317:=Tryz.func187.trans (congrArg some (by kernel_rfl))
 f318:=Tryz.func189.trans (congrArg some (by kernel_rfl))
 t0:=Tryz.underlying0
 a0:=Tryz.isAgg0
 z0:=Tryz.sizeOf0
 v0:=Tryz.zeroValue0
 t3:=Tryz.underlying3
 a3:=Tryz.isAgg3
 z3:=Tryz.sizeOf3
 v3:=Tryz.zeroValue3
 t4:=Tryz.underlying4
 a4:=Tryz.isAgg4
 z4:=Tryz.sizeOf4
 v4:=Tryz.zeroValue4
 t5:=Tryz.underlying5
 a5:=Tryz.isAgg5
 z5:=Tryz.sizeOf5
 v5:=Tryz.zeroValue5
 t9:=Tryz.underlying9
 a9:=Tryz.isAgg9
 z9:=Tryz.sizeOf9
 v9:=Tryz.zeroValue9
 t46:=Tryz.underlying112
 a46:=Tryz.isAgg112
 z46:=Tryz.sizeOf112
 v46:=Tryz.zeroValue112
 t53:=Tryz.underlying87
 a53:=Tryz.isAgg87
 z53:=Tryz.sizeOf87
 v53:=Tryz.zeroValue87
 t212:=Tryz.underlying234
 a212:=Tryz.isAgg234
 z212:=Tryz.sizeOf234
 v212:=Tryz.zeroValue234
 g17:=by kernel_rfl
 i0:=by kernel_rfl
 i3:=by kernel_rfl
 i4:=by kernel_rfl
 i5:=by kernel_rfl
 i9:=by kernel_rfl
 i46:=by kernel_rfl
 i53:=by kernel_rfl
 i212:=by kernel_rfl
 m17:=by kernel_rfl}
open Go.Lib in
theorem Tryz.internal_strconv_numDigits(u:Nat)(h1:1<=u)(h2:u<18446744073709551616)(w:World)(htab:Lib.TabIs Tryz.prog w "internal/strconv.uint64pow10" .u64 Lib.pow10Tab):
 Calls Tryz.prog 179 #[.int .u64 u] w fun e w'=>e=.returned (.int .i64 (Lib.nDigits u))/\w'=w:=Any.internal_strconv_numDigits Tryz.Pr u h1 h2 w htab
def Tryz.Pu:Go.Shelf.Ren:=⟨fun|285=>180|n=>n,fun|37=>194|53=>87|3=>3|4=>4|51=>86|9=>9|5=>5|0=>0|n=>n,fun|n=>n⟩
theorem Tryz.Oa:Go.Proofs.Lays.n285 Tryz.prog Tryz.Pu:={
 mixed:=by kernel_rfl
 f285:=Tryz.func180.trans (congrArg some (by kernel_rfl))
 t0:=Tryz.underlying0
 a0:=Tryz.isAgg0
 z0:=Tryz.sizeOf0
 v0:=Tryz.zeroValue0
 t3:=Tryz.underlying3
 a3:=Tryz.isAgg3
 z3:=Tryz.sizeOf3
 v3:=Tryz.zeroValue3
 t4:=Tryz.underlying4
 a4:=Tryz.isAgg4
 z4:=Tryz.sizeOf4
 v4:=Tryz.zeroValue4
 t5:=Tryz.underlying5
 a5:=Tryz.isAgg5
 z5:=Tryz.sizeOf5
 v5:=Tryz.zeroValue5
 t9:=Tryz.underlying9
 a9:=Tryz.isAgg9
 z9:=Tryz.sizeOf9
 v9:=Tryz.zeroValue9
 t37:=Tryz.underlying194
 a37:=Tryz.isAgg194
 z37:=Tryz.sizeOf194
 v37:=Tryz.zeroValue194
 t51:=Tryz.underlying86
 a51:=Tryz.isAgg86
 z51:=Tryz.sizeOf86
 v51:=Tryz.zeroValue86
 t53:=Tryz.underlying87
 a53:=Tryz.isAgg87
 z53:=Tryz.sizeOf87
 v53:=Tryz.zeroValue87}
open Go.RowKit Go.Sort Go.Lib in
theorem Tryz.internal_strconv_formatBase10(dp off cap:Nat)(u:Nat)(d:Array UInt8)(w:World)(hH:Holds (fun(b:UInt8)=>Value.int .u8 (b.toNat:Int)) w dp off d)(hu:u<10^d.size)(hu64:u<18446744073709551616)(hsz:d.size<4611686018427387904):
 Calls Tryz.prog 180 #[.slice (some ⟨dp,off,none⟩) d.size cap,.int .u64 u] w fun e w'=>
  e=.returned (.tuple #[])/\∃(n v':Nat) (dk:Array UInt8),w'=(putRow (fun(b:UInt8)=>Value.int .u8 (b.toNat:Int)) w dp off dk).drewN n/\FmtInv d.size u 0 v' dk:=Any.internal_strconv_formatBase10 Tryz.Oa dp off cap u d w hH hu hu64 hsz
def Tryz.GA:Go.Shelf.Ren:=⟨fun|105=>151|212=>173|99=>174|165=>153|166=>154|170=>175|169=>155|263=>182|264=>183|206=>184|240=>176|241=>177|276=>185|277=>186|n=>n,fun|9=>9|3=>3|4=>4|20=>20|0=>0|46=>112|109=>215|5=>5|72=>196|76=>199|51=>86|146=>226|53=>87|148=>228|70=>193|37=>194|75=>198|127=>219|164=>230|80=>201|n=>n,fun|n=>n⟩
theorem Tryz.Pb:Go.Proofs.Lays.n105 Tryz.prog Tryz.GA:={
 mixed:=by kernel_rfl
 f99:=Tryz.func174.trans (congrArg some (by kernel_rfl))
 f105:=Tryz.func151.trans (congrArg some (by kernel_rfl))
 f165:=Tryz.func153.trans (congrArg some (by kernel_rfl))
 f166:=Tryz.func154.trans (congrArg some (by kernel_rfl))
 f169:=Tryz.func155.trans (congrArg some (by kernel_rfl))
 f170:=Tryz.func175.trans (congrArg some (by kernel_rfl))
 f206:=Tryz.func184.trans (congrArg some (by kernel_rfl))
 f212:=Tryz.func173.trans (congrArg some (by kernel_rfl))
 f240:=Tryz.func176.trans (congrArg some (by kernel_rfl))
 f241:=Tryz.func177.trans (congrArg some (by kernel_rfl))
 f263:=Tryz.func182.trans (congrArg some (by kernel_rfl))
 f264:=Tryz.func183.trans (congrArg some (by kernel_rfl))
 f276:=Tryz.func185.trans (congrArg some (by kernel_rfl))
 f277:=Tryz.func186.trans (congrArg some (by kernel_rfl))
 t0:=Tryz.underlying0
 a0:=Tryz.isAgg0
 z0:=Tryz.sizeOf0
 v0:=Tryz.zeroValue0
 t3:=Tryz.underlying3
 a3:=Tryz.isAgg3
 z3:=Tryz.sizeOf3
 v3:=Tryz.zeroValue3
 t4:=Tryz.underlying4
 a4:=Tryz.isAgg4
 z4:=Tryz.sizeOf4
 v4:=Tryz.zeroValue4
 t5:=Tryz.underlying5
 a5:=Tryz.isAgg5
 z5:=Tryz.sizeOf5
 v5:=Tryz.zeroValue5
 t9:=Tryz.underlying9
 a9:=Tryz.isAgg9
 z9:=Tryz.sizeOf9
 v9:=Tryz.zeroValue9
 t20:=Tryz.underlying20
 a20:=Tryz.isAgg20
 z20:=Tryz.sizeOf20
 v20:=Tryz.zeroValue20
 t37:=Tryz.underlying194
 a37:=Tryz.isAgg194
 z37:=Tryz.sizeOf194
 v37:=Tryz.zeroValue194
 t46:=Tryz.underlying112
 a46:=Tryz.isAgg112
 z46:=Tryz.sizeOf112
 v46:=Tryz.zeroValue112
 t51:=Tryz.underlying86
 a51:=Tryz.isAgg86
 z51:=Tryz.sizeOf86
 v51:=Tryz.zeroValue86
 t53:=Tryz.underlying87
 a53:=Tryz.isAgg87
 z53:=Tryz.sizeOf87
 v53:=Tryz.zeroValue87
 t70:=Tryz.underlying193
 a70:=Tryz.isAgg193
 z70:=Tryz.sizeOf193
 v70:=Tryz.zeroValue193
 t72:=Tryz.underlying196
 a72:=Tryz.isAgg196
 z72:=Tryz.sizeOf196
 v72:=Tryz.zeroValue196
 t75:=Tryz.underlying198
 a75:=Tryz.isAgg198
 z75:=Tryz.sizeOf198
 v75:=Tryz.zeroValue198
 t76:=Tryz.underlying199
 a76:=Tryz.isAgg199
 z76:=Tryz.sizeOf199
 v76:=Tryz.zeroValue199
 t109:=Tryz.underlying215
 a109:=Tryz.isAgg215
 z109:=Tryz.sizeOf215
 v109:=Tryz.zeroValue215
 t127:=Tryz.underlying219
 a127:=Tryz.isAgg219
 z127:=Tryz.sizeOf219
 v127:=Tryz.zeroValue219
 t146:=Tryz.underlying226
 a146:=Tryz.isAgg226
 z146:=Tryz.sizeOf226
 v146:=Tryz.zeroValue226
 t148:=Tryz.underlying228
 a148:=Tryz.isAgg228
 z148:=Tryz.sizeOf228
 v148:=Tryz.zeroValue228
 t164:=Tryz.underlying230
 a164:=Tryz.isAgg230
 z164:=Tryz.sizeOf230
 v164:=Tryz.zeroValue230}
theorem Tryz.NH:Builder.Extra Tryz.prog Tryz.GA:={
 sizeBuilder:=by kernel_rfl
 liesBuilder:=by kernel_rfl
 t5:=Tryz.underlying5
 a5:=Tryz.isAgg5
 z5:=Tryz.sizeOf5
 v5:=Tryz.zeroValue5
 infoByte:=by kernel_rfl
 cellsByte:=by kernel_rfl
 sizeByte:=by kernel_rfl
 neB5:=by decide}
open Go.RowKit Go.Lib in
theorem Tryz.strings_Repeat(s:ByteArray)(c:Nat)(w:World)(hc:c<=9223372036854775807)(hlen:s.size*c<=140737488355328):
 Calls Tryz.prog 151 #[.string s,.int .i64 c] w fun e w'=>e=.returned (.string ⟨(Lib.repeatL s.data.toList c).toArray⟩)/\Below w.heap.size w w':=Any.strings_Repeat Tryz.Pb Tryz.NH s c w hc hlen
def Tryz.Nq:Go.Shelf.Ren:=⟨fun|17=>152|n=>n,fun|24=>158|9=>9|3=>3|4=>4|0=>0|n=>n,fun|n=>n⟩
theorem Tryz.Gq:Go.Proofs.Lays2.n17 Tryz.prog Tryz.Nq:={
 mixed:=by kernel_rfl
 f17:=Tryz.func152.trans (congrArg some (by kernel_rfl))
 t0:=Tryz.underlying0
 a0:=Tryz.isAgg0
 z0:=Tryz.sizeOf0
 v0:=Tryz.zeroValue0
 t3:=Tryz.underlying3
 a3:=Tryz.isAgg3
 z3:=Tryz.sizeOf3
 v3:=Tryz.zeroValue3
 t4:=Tryz.underlying4
 a4:=Tryz.isAgg4
 z4:=Tryz.sizeOf4
 v4:=Tryz.zeroValue4
 t9:=Tryz.underlying9
 a9:=Tryz.isAgg9
 z9:=Tryz.sizeOf9
 v9:=Tryz.zeroValue9
 t24:=Tryz.underlying158
 a24:=Tryz.isAgg158
 z24:=Tryz.sizeOf158
 v24:=Tryz.zeroValue158}
open Go.RowKit Go.Lib Go.Sort in
theorem Tryz.slices_Reverse_string(dp off cap:Nat)(zs:List (List UInt8))(w:World)(hH:Holds encStr w dp off zs.toArray)(hsz:zs.length<=9223372036854775807):
 Calls Tryz.prog 152 #[.slice (some ⟨dp,off,none⟩) zs.length cap] w fun e w'=>e=.returned (.tuple #[])/\∃n,w'=putRow encStr (Sort.ahead w n) dp off zs.reverse.toArray:=Any.slices_Reverse_string Tryz.Gq dp off cap zs w hH hsz
open Go.RowKit Go.Lib Go.Sort in
theorem Tryz.slices_Reverse_string_empty(a:Option Addr)(cap:Nat)(w:World):
 Calls Tryz.prog 152 #[.slice a 0 cap] w fun e w'=>e=.returned (.tuple #[])/\w'=w:=Any.slices_Reverse_string_empty Tryz.Gq a cap w
end Go.Proofs
namespace Go.Proofs.YtipdkfmhfakbnaaGreatDoor.F
open Go Go.Shelf Go.RowKit Go.Sort Go.Lib Go.Proofs
set_option maxHeartbeats 6400000 in
set_option maxRecDepth 100000 in
theorem fmtU(u:Nat)(hu64:u<18446744073709551616)(w:World)
 (htab:Lib.TabIs Tryz.prog w "internal/strconv.uint64pow10" .u64 Lib.pow10Tab):
 Calls Tryz.prog 172 #[.int .u64 u,.int .i64 10] w fun e w'=>e=.returned (.string ⟨(Lib.decDigits u).toArray⟩)/\∃k os,w'=grow (w.drewN k) os:=by
 by_cases hs:u<100
 . go_enter Tryz.func172,Tryz.ntmps172
   go_wp2_with (refine(Tryz.internal_strconv_small u hs _).mono ?_;rintro e w' ⟨rfl,rfl⟩)
   go_ret
   exact⟨rfl,0,#[],by simp[World.drewN_zero]⟩
 . have hu1:1<=u:=by omega
   have hnd20:Lib.nDigits u<=20:=by have:=Lib.numDigits_eq u hu1 hu64;split at this<;>omega
   have hal:Tryz.prog.arrayLen 221=24:=by simp[Program.arrayLen,Tryz.underlying221]
   have hsl1:∀W,(Instr.sliceAt 221 (.pointer (some ⟨w.heap.size,0,none⟩)) none (some (.int .i64 (Lib.nDigits u:Int))) none).run Tryz.prog W=.ok (.slice (some ⟨w.heap.size,0,none⟩) (Lib.nDigits u) 24) W:=fun W=>by
    rw[run_sliceAt_array_h W 221 ⟨w.heap.size,0,none⟩ (by simp[Program.arrayLen,Program.elem,Tryz.underlying221]) .i64 (Lib.nDigits u:Int) (by omega) (by rw[hal];omega)]
    go_simp
   have hH0:=Lib.holds_zero0 w 221 (Lib.nDigits u) (by omega);have hfmt:=Tryz.internal_strconv_formatBase10 w.heap.size 0 24 u (Array.replicate (Lib.nDigits u) 0) (w.alloc (.cells Lib.zeros24 221)) hH0 (by rw[Gk];exact Lib.lt_pow_nDigits u) hu64 (by rw[Gk];omega);rw[Gk]at hfmt;have HH0:=Lib.hid hH0;clear hH0 hal
   go_enter Tryz.func172,Tryz.ntmps172
   go_wp2_with (first
    |(refine(Tryz.internal_strconv_numDigits u hu1 hu64 _ (Lib.tabIs_alloc htab _)).mono ?_;rintro e w' ⟨rfl,rfl⟩))
   refine hfmt.mono ?_;rintro e w' ⟨rfl,k,v',dk,rfl,hF⟩;have hcv:(convert 194 9 (.slice (some ⟨w.heap.size,0,none⟩) (Lib.nDigits u) 24)).run Tryz.prog ((putRow (fun(b:UInt8)=>Value.int .u8 (b.toNat:Int)) (w.alloc (.cells Lib.zeros24 221)) w.heap.size 0 dk).drewN k)=.ok (.string ⟨(Lib.decDigits u).toArray⟩) ((putRow (fun(b:UInt8)=>Value.int .u8 (b.toNat:Int)) (w.alloc (.cells Lib.zeros24 221)) w.heap.size 0 dk).drewN k):=by
    have h:=run_convert_bytes_back (P:=Tryz.prog) ((putRow (fun(b:UInt8)=>Value.int .u8 (b.toNat:Int)) (w.alloc (.cells Lib.zeros24 221)) w.heap.size 0 dk).drewN k) 194 9 5 ⟨w.heap.size,0,none⟩ 24 (Lib.decDigits u) Tryz.underlying194 Tryz.underlying5 Tryz.underlying9 (fun j hj=>by
     rw[Lib.row_is_numeral hF j hj,Lib.add_plain,World.cell?_drewN];exact cell?_putRow (fun(b:UInt8)=>Value.int .u8 (b.toNat:Int)) _ w.heap.size 0 _ dk HH0.out (by rw[hF.size,Gk]) j (by rw[hF.size];rw[Lib.decDigits_length]at hj;exact hj))
    rw[Lib.decDigits_length]at h;exact h
   go_wp2
   go_ret
   obtain⟨os,eo⟩:=Lib.fin_at w (.cells Lib.zeros24 221) dk k 0;exact⟨rfl,k,os,eo⟩
theorem R5(u:Nat)(hu64:u<18446744073709551616)(w:World)
 (htab:Lib.TabIs Tryz.prog w "internal/strconv.uint64pow10" .u64 Lib.pow10Tab):
 Calls Tryz.prog 150 #[.int .u64 u,.int .i64 10] w fun e w'=>e=.returned (.string ⟨(Lib.decDigits u).toArray⟩)/\∃k os,w'=grow (w.drewN k) os:=by
 go_enter Tryz.func150,Tryz.ntmps150
 go_wp2_with (refine(fmtU u hu64 _ htab).mono ?_;rintro e w' ⟨rfl,k,os,rfl⟩)
 go_ret
 exact⟨rfl,k,os,rfl⟩
end Go.Proofs.YtipdkfmhfakbnaaGreatDoor.F
set_option maxRecDepth 100000
namespace Go.X
open Go Go.RowKit Go.Sort Go.Lib Go.Proofs
theorem bS.strs{H:Hp}:∀{cs:List Value} {xs:List (List UInt8)},bS gD H cs xs->cs=xs.map (fun x=>Value.string (s8 x))
 |_,[],h=>h
 |_,x::xs,⟨a,b,h1,h2,h3⟩=>by rw[h1,show a=[.string (s8 x)] from h2,h3.strs];rfl
theorem bS.HL{H:Hp}:∀(xs:List (List UInt8)),bS gD H (xs.map (fun x=>Value.string (s8 x))) xs
 |[]=>rfl
 |x::xs=>⟨[.string (s8 x)],_,rfl,rfl,bS.HL xs⟩
theorem N9(w:World)(k:Nat)(os:Array Obj):Ext w (grow (w.drewN k) os):=
 ⟨rfl,rfl,rfl,by simp[grow,World.drewN],fun g hg=>Lib.heap_grow_old w k os g hg⟩
theorem NW{xs ys:List (List UInt8)}{sp:List Value}(hl:ys.length=xs.length):
 putCells encStr 0 ys.toArray ((xs.map (fun x=>Value.string (s8 x))++sp).toArray)=(ys.map (fun x=>Value.string (s8 x))++sp).toArray:=by
 apply Array.ext_getElem?;intro k;simp only[putCells,Array.getElem?_mapIdx,vC,fy,true_and,eJ,Nat.sub_zero,List.size_toArray];rcases cv k ys.length with h|h
 . rw[jR (by simp;omega),jR (by simpa using h)];have h2:k<xs.length:=by omega
   simp only[gM,bV h2,bV h,oh,if_pos h,td];rw[getElem!_pos _ k (by simpa using h)];simp[encStr,s8]
 . rw[og (by simp;omega),og (by simpa using h)];simp only[cN,hl];cases hs:sp[k-xs.length]?with
   |none=>rfl
   |some v=>simp only[oh];rw[if_neg (by omega)]
end Go.X
namespace Go.Proofs.YtipdkfmhfakbnaaGreatDoor.FS
open Go Go.RowKit Go.Sort Go.Lib Go.Proofs Go.X Go.D Go.Q Go.Proofs.YtipdkfmhfakbnaaGreatDoor.TB
theorem en150:Go.X.Enters Tryz.prog 150:=⟨Tryz.f150,Tryz.func150,by kernel_rfl,by kernel_rfl⟩
theorem en151:Go.X.Enters Tryz.prog 151:=⟨Tryz.f151,Tryz.func151,by kernel_rfl,by kernel_rfl⟩
theorem en122:Go.X.Enters Tryz.prog 122:=⟨Tryz.f122,Tryz.func122,by kernel_rfl,by kernel_rfl⟩
theorem en152:Go.X.Enters Tryz.prog 152:=⟨Tryz.f152,Tryz.func152,by kernel_rfl,by kernel_rfl⟩
theorem RO(N:Nat)(i b:Int)(r:List UInt8)(h:xH N i b=some r):Cn Tryz.prog 150 [sI .u64 i,sI .i64 b] [] [sT r]:=by
 refine Oo en150 fun ν H w l ht hl=>?_;obtain⟨a,_,rfl,⟨h1,h2⟩,a2,_,rfl,⟨h3,h4⟩,rfl⟩:=hl;subst h1 h3;unfold xH at h;split at h
 . rename_i hc;obtain⟨h0,h1,rfl⟩:=hc;obtain⟨u,rfl⟩:=qP h0;cases h;refine(F.R5 u (by omega) w (TP ht)).mono ?_;rintro e w' ⟨rfl,k,os,rfl⟩;exact⟨[_],rfl,N9 w k os,fun ν' H'=>⟨_,[],rfl,⟨rfl,rfl⟩,rfl⟩⟩
 . cases h
theorem QJ(N:Nat)(s:List UInt8)(c:Int)(r:List UInt8)(h:wI N s c=some r):Cn Tryz.prog 151 [sT s,sI .i64 c] [] [sT r]:=by
 refine S7 en151 fun ν H w l hl=>?_;obtain⟨a,_,rfl,⟨h1,h2⟩,a2,_,rfl,⟨h3,h4⟩,rfl⟩:=hl;subst h1 h3;unfold wI at h;split at h
 . rename_i hc;obtain⟨h0,h1,h2⟩:=hc;obtain⟨u,rfl⟩:=qP h0;cases h;refine(Tryz.strings_Repeat (s8 s) u w (by omega) (by rw[xm];exact Int.ofNat_le.1 (by rw[FU];exact h2))).mono ?_;rintro e w' ⟨rfl,hB⟩;exact⟨[_],rfl,hB,fun ν' H'=>⟨_,[],rfl,⟨rfl,rfl⟩,rfl⟩⟩
 . cases h
theorem KR(N:Nat)(xs:List (List UInt8))(s r:List UInt8)(h:pY N xs s=some r):Cn Tryz.prog 122 [sR gD false xs,sT s] [] [sT r]:=by
 refine NT en122 fun ν H w l hv hl=>?_;obtain⟨v,_,rfl,hs,a2,_,rfl,⟨h3,h4⟩,rfl⟩:=hl;subst h3;unfold pY at h;split at h
 . rename_i hc;obtain⟨h0,h1⟩:=hc;cases h;have hx:∀l:List (List UInt8),(l.map s8).map (·.data.toList)=l:=fun l=>by rw[mf];exact(B5 fun x _=>by simp[s8]).trans (List.map_id l)
   have hj0:Calls Tryz.prog 122 #[v,.string (s8 s)] w fun e w'=>e=.returned (.string (s8 (Lib.join xs s)))/\Ext w w':=by
    have hs:Rs gD (H false) v xs:=hs;rcases hs with⟨⟨oa,rfl⟩,rfl⟩|⟨b,o,cap,rfl,hcap,hxs⟩
    . refine(Tryz.strings_Join_none oa 0 (s8 s) w).mono ?_;rintro e w' ⟨rfl,rfl⟩;exact⟨by simp[Lib.join,s8],Ext.refl _⟩
    . have hcell:∀(j:Nat) x,(xs.map s8)[j]?=some x->w.cell? ⟨b,o+j,none⟩=some (.string x):=by
       intro j x hj;rw[gM]at hj;cases hx1:xs[j]?with
       |none=>rw[hx1]at hj;cases hj
       |some y=>
        rw[hx1]at hj;cases hj;obtain⟨vs,-,hA,hv'⟩:=hxs j y hx1;have hv':vs=[.string (s8 y)]:=hv';have h3:=hA.get 0 (v:=.string (s8 y)) (by rw[hv'];rfl);have h4:=xY (A:=[]) (xa (hv false) h3);rw[show o+j*gD.sz+0=o+j from by show o+j*1+0=o+j;omega]at h4;exact h4
      cases xs with
      |nil=>
       refine(Tryz.strings_Join_none (some ⟨b,o,none⟩) cap (s8 s) w).mono ?_;rintro e w' ⟨rfl,rfl⟩;exact⟨by simp[Lib.join,s8],Ext.refl _⟩
      |cons y ys=>
       have hb:b<w.heap.size:=by
        have h5:=hcell 0 (s8 y) rfl;rcases cv b w.heap.size with h6|h6
        . exact h6
        . simp[World.cell?,BM h6]at h5
       have h7:=Tryz.strings_Join b o cap ((y::ys).map s8) (s8 s) w hcell hb (by simpa using h0) (by simpa using hcap) (by rw[hx];exact h1);rw[hx,cN]at h7;exact h7
   exact hj0.mono fun e w' ⟨he,hE⟩=>⟨[_],he,hE,fun ν' H'=>⟨_,[],rfl,⟨rfl,rfl⟩,rfl⟩⟩
 . cases h
theorem RN(N:Nat)(xs r:List (List UInt8))(h:xZ N xs=some r):Cx Tryz.prog 152 [sO 0] [.row gD true xs] [(0,some (.row gD true r))] []:=by
  obtain⟨hs,rfl⟩:=Q4 h;refine⟨en152,fun X w H ν l hν hS hl=>?_⟩;obtain⟨v,_,rfl,⟨b,c,n,p1,rfl⟩,rfl⟩:=hl;obtain⟨b',c',n',k,q1,q2,q3⟩:=hS.cP 0 _ rfl;rw[p1]at q1;cases q1;obtain⟨rfl,e0,cs,sp,rfl,e3,e4⟩:=q3;have hcs:=e3.strs;have fin:∀w',Go.X.Loc [b] [] w w' [b] [.cells ([]++(xs.reverse.map (fun x=>Value.string (s8 x))++sp))]->wJ X w H ν 1 [(0,some (.row gD true xs.reverse))] [] [] w':=by
    intro w' hL;obtain⟨g1,g2⟩:=hS.mod (ob:=.row gD true xs.reverse) rfl rfl p1 hL (fun H' hH=>⟨by simp,e0,xs.reverse.map (fun x=>Value.string (s8 x)),sp,rfl,bS.HL _,by rw[<-e4,hcs];simp⟩);refine⟨ν,fun _ _=>rfl,?_,rfl⟩;have:aQ [(0,some (Ob.row gD true xs.reverse))]=bG [(0,some (Ob.row gD true xs.reverse))] (aQ (eh 0 [Ob.row gD true xs])):=by
      funext t;show(bif Nat.beq t 0 then _ else none)=(bif Nat.beq t 0 then _ else(bif Nat.beq t 0 then _ else none));cases Nat.beq t 0<;>rfl
    rw[this];exact g1
  cases b with
  |none=>
    have h0:[]++(cs++sp)=[]:=q2;have hcs0:cs=[]:=by simp at h0;exact h0.1
    have hx0:xs=[]:=by rw[hcs0]at hcs;cases xs with|nil=>rfl|cons _ _=>cases hcs
    subst hx0;refine(Tryz.slices_Reverse_string_empty none 0 w).mono ?_;rintro e w' ⟨rfl,rfl⟩;refine⟨[],rfl,fin _ ?_⟩;have:=je q2;rw[hcs0]at this;exact this
  |some b=>
    have hH:Holds encStr w b 0 xs.toArray:=by
      intro j hj;have hj':j<xs.length:=by simpa using hj
      have hcell:([]++(cs++sp))[0+j]?=some (Value.string (s8 xs[j])):=by
        rw[ja,hcs,eJ,jR (by simpa using hj'),gM,bV hj'];rfl
      refine⟨?_,?_⟩
      . rw[rh q2 hcell,getElem!_pos _ j hj];rfl
      . obtain⟨t,lo,hi,h1,h2,h3⟩:=q2
        have := h3 (0 + j) (by rcases cv (0 + j) ([] ++ (cs ++ sp)).length with h | h; · exact h
                               . rw[fM h]at hcell;cases hcell)
        simp[World.frozen?,h1];omega
    refine(Tryz.slices_Reverse_string b 0 c xs w hH hs).mono ?_;rintro e w' ⟨rfl,n,rfl⟩;refine⟨[],rfl,fin _ ?_⟩;have hL:=je q2;obtain⟨t,lo,hi,h1,h2,h3⟩:=q2;have hlen:(xs.reverse.map (fun x=>Value.string (s8 x))++sp).length=(cs++sp).length:=by rw[hcs];simp
    exact(hL.put (w':=putRow encStr (Sort.ahead w n) b 0 xs.reverse.toArray) 0 rfl (c':=.cells ([]++(xs.reverse.map (fun x=>Value.string (s8 x))++sp)))
      ⟨t,lo,hi,by
        simp only[putRow,mapBlock,Sort.ahead,Mj,if_true,h1,oh,onCells,ja];rw[hcs,NW (by simp)],h2,fun j hj=>h3 j (by rw[ja]at hj⊢;rw[<-hlen];exact hj)⟩
      (fun k hk=>by simp[putRow,mapBlock,Sort.ahead,Mj,Ne.symm hk]) (by simp[putRow,mapBlock,Sort.ahead]) rfl rfl rfl).1
end Go.Proofs.YtipdkfmhfakbnaaGreatDoor.FS
namespace Go.X
open Go Go.RowKit
def nO(rd:Option Nat):Fence:={fn:=fun _=>True,depth:=none,alive:=false,round:=rd}
theorem Ki{rd:Option Nat}{m:Nat}{P:Program}{o:Oper}{a:Act}{w:World}{K:Act->World->Prop}{Q:Exit->Act->World->Prop}{R:Value->World->Prop}
 (hd:∀c,o.op≠.defer c)(h:aF P o.op o.type (ev (cJ a)) w R)(hk:∀v w',R v w'->K (a.put o.dst v) w'):o.wpIn (nO rd) m P a w K Q:=by
 refine⟨fun _ _=>trivial,?_⟩;rw[Oper.semAt_eq _ _ _ hd];unfold aF at h;rw[ET,<-rk];generalize(execOp (ev (cJ a)) (cU o.op o.type)).run P w=r at*;cases r with
 |ok n w'=>
  cases n<;>simp only[upon,Oper.uponIn]at h⊢<;>first|exact hk _ _ h|exact h.elim|skip
  . exact⟨fun hh=>(by cases hh),CallsIn.mono (callsIn_wide.2 h:CallsIn Fence.wide (m-1) P _ _ _ _) fun e w'' he=>by cases e<;>first|exact hk _ _ he|exact he.elim⟩
  . refine⟨fun hh=>(by cases hh),fun c cs _=>?_⟩;obtain⟨v,w'',r1,r2⟩:=h c cs;exact⟨v,w'',hk _ _ r1,stepsIn_wide.2 r2⟩
 |halt x w'=>cases x<;>simp only[upon]at h
def Cw(rd:Option Nat)(ds:List Deferred)(P:Program)(n:Nat)(c:Code)(Q:Exit->Env->World->Prop)(e:Env)(w:World):Prop:= ∀(m:Nat) (a:Act),a.tmps.size=n->a.defers=ds->cJ a=e->c.wpIn (nO rd) m P (fun x a' w'=>a'.tmps.size=n/\a'.defers=ds/\Q x (cJ a') w') a w
section
variable {rd:Option Nat} {ds:List Deferred} {P:Program} {n:Nat} {Q Q':Exit->Env->World->Prop} {e:Env} {w:World}
theorem Cw.mono{c:Code}(h:Cw rd ds P n c Q e w)(hq:∀x e w,Q x e w->Q' x e w):Cw rd ds P n c Q' e w:=
 fun m a h1 h2 h3=>wpIn_mono (h m a h1 h2 h3) fun x a' w' g=>⟨g.1,g.2.1,hq _ _ _ g.2.2⟩
theorem Cw.skip(h:Q .normal e w):Cw rd ds P n .skip Q e w:=fun m a h1 h2 h3=>wpIn_skip ⟨h1,h2,h3▸h⟩
theorem Cw.ret(h:Q .ret e w):Cw rd ds P n .ret Q e w:=fun m a h1 h2 h3=>wpIn_ret ⟨h1,h2,h3▸h⟩
def Cm(K:Env->World->Prop)(Q:Exit->Env->World->Prop):Exit->Env->World->Prop
 |.normal=>K
 |x=>Q x
theorem Cw.seq{x y:Code}{K:Env->World->Prop}(h:Cw rd ds P n x (Cm K Q) e w)(h2:∀e w,K e w->Cw rd ds P n y Q e w):Cw rd ds P n (.seq x y) Q e w:=by
 intro m a g1 g2 g3;refine wpIn_seq (wpIn_mono (h m a g1 g2 g3) ?_);rintro x a' w' ⟨k1,k2,k3⟩;cases x with
 |normal=>exact h2 _ _ k3 m a' k1 k2 rfl
 |_=>exact⟨k1,k2,k3⟩
theorem Cw.cond{c:Operand}{x y:Code}{b:Bool}(hc:ev e c=.bool b)(h:Cw rd ds P n (bif b then x else y) Q e w):Cw rd ds P n (.cond c x y) Q e w:=by
 intro m a g1 g2 g3;have:=h m a g1 g2 g3;cases b
 . exact wpIn_cond_false (by rw[<-rk,g3];exact hc) this
 . exact wpIn_cond_true (by rw[<-rk,g3];exact hc) this
theorem Cw.block{id:Nat}{c:Code}(h:Cw rd ds P n c Q e w)(hx:∀j e w,¬Q (.exit j) e w):Cw rd ds P n (.block id c) Q e w:=by
 intro m a g1 g2 g3;refine wpIn_block (wpIn_mono (h m a g1 g2 g3) ?_);rintro x a' w' ⟨k1,k2,k3⟩;cases x with
 |exit j=>exact absurd k3 (hx j _ _)
 |_=>exact⟨k1,k2,k3⟩
def tq:List Oper->Bool
 |[]=>true
 |o::r=>(match o.op with|.defer _=>false|_=>true)&&tq r
theorem Lr{l:List Oper}(h:tq l=true):∀o,o∈l->∀c,o.op≠.defer c:=by
 induction l with
 |nil=>intro o ho;cases ho
 |cons x r ih=>
  simp only[tq,fD]at h;intro o ho c;cases ho with
  |head=>have h1:=h.1;intro hc;rw[hc]at h1;cases h1
  |tail _ hm=>exact ih h.2 o hm c
theorem PF{all:List Oper}(hall:∀o,o∈all->∀d,o.dst=some d->d<n)(hnd:∀o,o∈all->∀c,o.op≠.defer c){m:Nat}{K:Env->World->Prop}{Q':Exit->Act->World->Prop}
 (hK:∀a w,a.tmps.size=n->a.defers=ds->K (cJ a) w->Q' .normal a w):
 ∀(l:List Oper),(∀o,o∈l->o∈all)->∀(a:Act) (w:World),a.tmps.size=n->a.defers=ds->Rl P all l K (cJ a) w->wpListIn (nO rd) m P all.toArray Q' l a w:=by
 intro l
 induction l with
 |nil=>intro _ a w h1 h2 h;exact hK a w h1 h2 h
 |cons o r ih=>
  intro hsub a w h1 h2 h;have hin:=hsub o cK;have hd:∀d,o.dst=some d->d<n:=hall o hin;have hall':∀o,o∈all->∀d,o.dst=some d->d<a.tmps.size:=by rw[h1];exact hall
  refine wpListIn_step fun K' hK'=>?_;rw[Ey hall' o];simp only[Rl]at h;cases hw:ik all o (cJ a)with
  |true=>
   rw[hw]at h;rw[if_pos rfl];refine Ki (hnd o hin) h fun v w' hv=>hK' _ _ ?_;refine ih (fun o ho=>hsub o (cH _ ho)) _ _ (by rw[oI];exact h1) (by rw[qe];exact h2) ?_;rw[tQ a h1 hd];exact hv
  |false=>
   rw[hw]at h;rw[if_neg (by simp)];refine⟨fun _ _=>trivial,hK' _ _ ?_⟩;refine ih (fun o ho=>hsub o (cH _ ho)) _ _ (by rw[oI];exact h1) (by rw[qe];exact h2) ?_;rw[tQ a h1 hd];exact h
theorem Cw.region{id:Nat}{l:List Oper}{K:Env->World->Prop}(h:Rl P l l K e w)(hK:∀e w,K e w->Q .normal e w)(hok:lH n l=true:=by rfl)(hnd:tq l=true:=by rfl):Cw rd ds P n (.region id l.toArray false) Q e w:=by
 intro m a g1 g2 g3;subst g3;exact wpIn_region_lit (PF (BB hok) (Lr hnd) (K:=K) (fun a' w' k1 k2 k3=>⟨k1,k2,hK _ _ k3⟩) l (fun _ h=>h) a w g1 g2 h)
theorem Cw.Ja{id:Nat}{c:Code}(h:Cw rd ds P n c (fun x=>match x with|.exit j=>if j=id then Q .normal else Q (.exit j)|x=>Q x) e w):Cw rd ds P n (.block id c) Q e w:=by
 intro m a g1 g2 g3;refine wpIn_block (wpIn_mono (h m a g1 g2 g3) ?_);rintro x a' w' ⟨k1,k2,k3⟩;cases x with
 |exit j=>
  simp only[Exit.inBlock];by_cases hj:j=id
  . rw[if_pos hj];simp only[if_pos hj]at k3;exact⟨k1,k2,k3⟩
  . rw[if_neg hj];simp only[if_neg hj]at k3;exact⟨k1,k2,k3⟩
 |_=>exact⟨k1,k2,k3⟩
theorem Cw.exit{id:Nat}(h:Q (.exit id) e w):Cw rd ds P n (.exit id) Q e w:=fun m a h1 h2 h3=>wpIn_exit ⟨h1,h2,h3▸h⟩
theorem Cw.loop{c:Code}(I:Nat->Env->World->Prop)(k:Nat)(h0:I k e w)(round:∀k e w,I k e w->Cw rd ds P n c (Cm (fun e w=>∃j,j<k/\I j e w) Q) e w):Cw rd ds P n (.loop c) Q e w:=by
 intro m a g1 g2 g3;have key:∀M k,k<=M->∀a w,a.tmps.size=n->a.defers=ds->I k (cJ a) w->Code.roundsIn (nO rd) m P c (fun x a' w'=>a'.tmps.size=n/\a'.defers=ds/\Q x (cJ a') w') (M+1) a w:=by
  intro M
  induction M with
  |zero=>
   intro k hk a w h1 h2 hI;refine wpIn_mono (round k _ _ hI m a h1 h2 rfl) ?_;rintro x a' w' ⟨k1,k2,k3⟩;cases x with
   |normal=>obtain⟨j,hj,_⟩:=k3;omega
   |_=>exact⟨k1,k2,k3⟩
  |succ M ih=>
   intro k hk a w h1 h2 hI;refine wpIn_mono (round k _ _ hI m a h1 h2 rfl) ?_;rintro x a' w' ⟨k1,k2,k3⟩;cases x with
   |normal=>obtain⟨j,hj,h⟩:=k3;exact ih j (by omega) a' w' k1 k2 h
   |_=>exact⟨k1,k2,k3⟩
 exact wpIn_loop_rounds (k+1) (key k k (bI _) a w g1 g2 (g3▸h0))
theorem nN{all r:List Oper}{o:Oper}{m:Nat}{Q':Exit->Act->World->Prop}{a:Act}(h1:a.tmps.size=n)(h2:a.defers=ds)
 (h:aF P o.op o.type (ev (cJ a)) w fun v w'=>∀a':Act,a'.tmps.size=n->a'.defers=ds->cJ a'=ju (cJ a) o.dst v->wpListIn (nO rd) m P all.toArray Q' r a' w')(hg:o.guard=none:=by rfl)(hd:lH n [o]=true:=by rfl)(hn:tq [o]=true:=by rfl):wpListIn (nO rd) m P all.toArray Q' (o::r) a w:=
 wpListIn_plain hg fun K hK=>Ki (Lr hn o cK) h fun v w' hv=>hK _ _ (hv _ (by rw[oI];exact h1) (by rw[qe];exact h2) (tQ a h1 (BB hd o cK) v))
theorem QC{o:Oper}{m l:Nat}{a:Act}{g:Operand}{args:List Operand}{ats:Array TypeId}{az:List Value}{R:Ending->World->Prop}{K:Act->World->Prop}{Q':Exit->Act->World->Prop}
 (ho:o.op=.call {callee:=.value g,args:=args.toArray,argTypes:=ats})(hf:cJ a=e)(hv:ev e g=.func (.yield l) #[] #[]) (ha:args.map (ev e)=az) (hy:YieldAt (nO rd) (m-1) P l az.toArray w R)
 (hR:∀x w',R x w'->∃v,x=.returned v/\K (a.put o.dst v) w'):o.wpIn (nO rd) m P a w K Q':=by
 obtain⟨fn,tmps,assign,body,h1,h2⟩:=hy;refine⟨fun _ _=>trivial,?_⟩;rw[Oper.semAt_eq _ _ _ (by rw[ho];intro c h;cases h),ET,<-rk,hf,ho];have hr:(execOp (ev e) (cU (.call {callee:=.value g,args:=args.toArray,argTypes:=ats}) o.type)).run P w=.ok (.round l fn tmps assign body) w:=by
  simp only[cU,execOp,resolve,hv];simp[Deferred.ofValue,invoke,ha,h1]
 rw[hr];refine⟨fun hh=>(by cases hh),RoundIn.mono h2 fun x w' hx=>?_⟩;obtain⟨v,rfl,hk⟩:=hR x w' hx;exact hk
theorem NZ{k k' l:Nat}{az:Array Value}{R:Ending->World->Prop}(h:YieldAt Fence.wide k P l az w R):YieldAt (nO none) k' P l az w R:=by
 obtain⟨fn,tmps,assign,body,h1,h2,h3⟩:=h;exact⟨fn,tmps,assign,body,h1,h2,fun c cs _=>h3 c cs (room_wide _)⟩
theorem GX{l:List Value}:cJ {tmps:=l.toArray++Array.replicate (n-l.toArray.size) undef,defers:=ds}=ku l:=by
 funext i;simp only[cJ,ku,Mh,cy];by_cases hi:i<l.length
 . rw[Ur (by simpa using hi)];simp
 . rw[Us (by simpa using hi),fM (by omega)];by_cases hj:i-l.toArray.size<n-l.toArray.size
   . rw[FK (by simpa using hj)];simp
   . rw[BM (by simpa using hj)]
theorem NJ{f:FuncId}{fn:Func}{c:Code}{l:List Value}{m:Nat}{R:Ending->World->Prop}(hf:P.funcs[f]?=some fn)(hb:fn.body=some c)(hn:fn.ntmps=n)(hl:l.length<=n)
 (h:Cw none [] P n c (fun x e w'=>(x=.normal\/x=.ret)/\∀tmps:Array Value,(∀i,tmps.getD i undef=e i)->∃v,(results fn tmps).run P w'=.ok v w'/\R (.returned v) w') (ku l) w):CallsIn Fence.wide m P f l.toArray w R:=by
 subst hn;refine callsIn_of_wp hf hb trivial (wpIn_mono (h m _ (by simp;omega) rfl GX) ?_);rintro x a' w' ⟨h1,h2,h3,h4⟩;obtain⟨v,hv,hR⟩:=h4 a'.tmps (fun _=>rfl);rcases h3 with rfl|rfl<;>exact⟨h2,v,hv,hR⟩
end
end Go.X
namespace Go.Q
open Go Go.RowKit Go.X
variable [eT]
def w8:Ob->Bool
 |.row .. =>true
 |.box .. =>true
 |.aG .. =>true
 |_=>false
theorem Je{ob:Ob}(h:w8 ob=true){ν:Nu}{H:Bool->Hp}{c n:Nat}{k:cR}(hr:ob.R ν H c n k):∃l,k=.cells l:=by
 cases ob with
 |row r κ xs=>obtain⟨_,_,cs,sp,rfl,_⟩:=hr;exact⟨_,rfl⟩
 |box l=>obtain⟨vs,rfl,_⟩:=hr;exact⟨_,rfl⟩
 |aG r κ xs=>obtain⟨_,⟨_,cs,sp,rfl,_⟩|⟨_,rfl⟩⟩:=hr<;>exact⟨_,rfl⟩
 |map _ _ _ _=>cases h
 |deep _ _ _ _=>cases h
 |hd _ _ _ _ _ _=>cases h
theorem Df{ob:Ob}(h:w8 ob=true):ob.tid=none:=by cases ob<;>first|rfl|cases h
theorem cG.on{X:Nat->Prop}{w0 w w':World}{H0:Bool->Hp}{ν:Nu}{oF:OF}(hS:cG X w0 H0 ν oF w)(hp:∀i ob,oF i=some ob->w8 ob=true)
 (h1:w'.os=w.os)(h2:w'.tape=w.tape)(h3:w'.output=w.output)(h4:w.heap.size<=w'.heap.size)(h5:∀k,k<w0.heap.size->¬X k->w'.heap[k]?=w.heap[k]?)(h6:∀(k:Nat) (o:Obj),ky (w.heap[k]?)=some o->w'.heap[k]?=some o):
 cG X w0 H0 ν oF w'/\∀κ,Le (HF X w0 H0 ν oF w κ) (HF X w0 H0 ν oF w' κ):=by
 have le:∀κ,Le (HF X w0 H0 ν oF w κ) (HF X w0 H0 ν oF w' κ):=fun κ b o h=>by
  rcases sU h with⟨g1,g2,g3⟩|⟨g1,g2,g3⟩
  . rw[nm g1 g2];exact g3
  . refine lk g1 g2 ?_;rw[h6 b o g3];have:=mP g3;rw[this]at g3;exact g3
 refine⟨⟨h1.trans hS.os,h2.trans hS.tape,h3.trans hS.output,bO hS.size h4,fun k hk hx=>(h5 k hk hx).trans (hS.keep k hk hx),hS.h0,hS.mT,hS.oM,fun i ob h=>?_,hS.fresh,hS.gG,fun i ob h=>⟨fun t ht=>?_,(hS.parts i ob h).2⟩⟩,le⟩
 . obtain⟨b,c,n,k,q1,q2,q3⟩:=hS.cP i ob h;obtain⟨l,rfl⟩:=Je (hp i ob h) q3;refine⟨b,c,n,_,q1,?_,q3.mono (eP.refl ν) le fun j b c n hj _=>absurd hj (by rw[Df (hp i ob h)];simp)⟩;cases b with
   |none=>exact q2
   |some b=>
    obtain⟨t,lo,hi,k1,k2,k3⟩:=q2;exact⟨t,lo,hi,h6 b _ (by rw[k1];rfl),k2,k3⟩
 . rw[uO (Df (hp i ob h))]at ht;cases ht
end Go.Q
namespace Go.X
open Go Go.RowKit
def Aw(P:Program)(n:Nat)(c:Code)(QQ:Exit->Act->World->Prop)(e:Env)(w:World):Prop:=∀a:Act,a.tmps.size=n->a.defers=[]->cJ a=e->c.wpIn Fence.wide 5 P QQ a w
section
variable {P:Program} {n:Nat} {QQ:Exit->Act->World->Prop} {e:Env} {w:World}
theorem Aw.Dk{x y:Code}{k:List It}(h:ct P n (.code x::k) (fun _ _=>False) e w)(hx:∀ex e w,ex≠Exit.normal->¬ji P n k (fun _ _=>False) ex e w)(h2:∀e w,ct P n k (fun _ _=>False) e w->Aw P n y QQ e w):Aw P n (.seq x y) QQ e w:=by
 intro a g1 g2 g3;refine wpIn_seq (wpIn_mono (wpIn_wide.2 (h a g1 g2 g3)) ?_);rintro x a' w' ⟨k1,k2,k3⟩;cases x with
 |normal=>exact h2 _ _ k3 a' k1 k2 rfl
 |_=>exact absurd k3 (hx _ _ _ (by simp))
theorem Aw.seq3{x1 x2 x3 y:Code}{J:Env->World->Prop}(h:ct P n [.code x1,.code x2,.code x3,.back J] (fun _ _=>False) e w)(h2:∀e w,J e w->Aw P n y QQ e w):Aw P n (.seq x1 (.seq x2 (.seq x3 y))) QQ e w:=
 Aw.Dk h (fun x e w hx h=>by cases x<;>first|exact hx rfl|exact h) fun _ _ g=>Aw.Dk g (fun x e w hx h=>by cases x<;>first|exact hx rfl|exact h) fun _ _ g=>Aw.Dk g (fun x e w hx h=>by cases x<;>first|exact hx rfl|exact h) h2
def qX(D:Nat):Deferred:={target:=.collected D,args:=#[]}
theorem P3{f:FuncId}{fn:Func}{c:Code}{l:List Value}{R:Ending->World->Prop}(hf:P.funcs[f]?=some fn)(hb:fn.body=some c)(hn:fn.ntmps=n)(hl:l.length<=n)
 (h:Aw P n c (fun x a' w'=>(x=.normal\/x=.ret)/\∃D,a'.defers=[qX D]/\w'.heap[D]?=some (.deferred (some []))/\∃v,(results fn a'.tmps).run P (w'.putObj D (.deferred none))=.ok v (w'.putObj D (.deferred none))/\R (.returned v) (w'.putObj D (.deferred none))) (ku l) w):
 Calls P f l.toArray w R:=by
 subst hn;refine(callsIn_wide (n:=5)).1 (callsIn_of_wp_marks hf hb trivial (wpIn_mono (h _ (by simp;omega) rfl GX) ?_));rintro x a' w' ⟨h1,D,h2,h3,v,hv,hR⟩;rcases h1 with rfl|rfl<;>(show LeavesInM _ _ _ _ _ _ a'.defers _ _;rw[h2];exact⟨by simp,.inl ⟨D,_,rfl,run_takeDeferred h3,v,hv,hR⟩⟩)
theorem Si{fn:Func}{rl:List ResultVar}{vs:List Value}{tmps:Array Value}(hr:fn.results=rl.toArray)(he:∀i,tmps.getD i undef=e i)(h1:rb P e w rl vs):(results fn tmps).run P w=.ok (jm vs) w:=by
 unfold results;rw[hr];simp only[Mm,Sem.run_bind,Sem.run_map];rw[Av he _ (fun _=>rfl) (fun _ _=>rfl) h1];simp only[Result.andThen_ok];cases vs with
 |nil=>rfl
 |cons v vs=>cases vs<;>simp[jm]
end
theorem Jc{W W':World}(hc:∀(k:Nat) (o:Obj),Go.Q.ky (W.heap[k]?)=some o->W'.heap[k]?=some o){b o:Nat}{vs:List Value}(h:At (view [] W) b o vs):At (view [] W') b o vs:=by
 intro i hi;have h1:=h i hi;rw[bV hi]at h1⊢;unfold lh at h1⊢;cases hb:view [] W b with
 |none=>rw[hb]at h1;cases h1
 |some ob=>
  rw[hb]at h1;cases ob with
  |cells cs t fr=>
   have:=hc b _ (show Go.Q.ky (W.heap[b]?)=some (.cells cs t fr) by rw[AL hb];rfl);rw[uh this (by simp)];exact h1
  |_=>cases h1
end Go.X
namespace Go.Q
open Go Go.RowKit Go.X
variable [eT]
theorem tD{P:Program}{tb:List (dE P)}{F:Fx}{L:SS}(L':SS)(ren:List Nat){cP:List (Nat×Option Ob)}{bQ:List (Nat×Option Sv)}(hI:L'=⟨ren.length,cP,bQ⟩:=by rfl)(h1:kR (aQ L.bC) ren cP=some cP:=by rfl)(h2:fF ren=true:=by rfl)(h3:n9 L ren bQ=some bQ:=by rfl)(h4:nT F.m ren=true:=by rfl):
 tu tb F (fun e w=>St F L' e w) L:=⟨fun e w hs=>by rw[hI];exact hs.ov ren h1 h2 h3 h4⟩
theorem ya{P:Program}{tb:List (dE P)}{F:Fx}{ops:List Oper}{L:SS}{J:Env->World->Prop}{rd:Option Nat}{ds:List Deferred}{i:Nat}{Q:Exit->Env->World->Prop}{e:Env}{w:World}
 (h:Gr tb F ops ops [.back J] L)(hs:St F L e w)(hJ:∀e w,J e w->Q .normal e w)(hok:lH F.n ops=true:=by rfl)(hnd:tq ops=true:=by rfl):Cw rd ds P F.n (.region i ops.toArray false) Q e w:=
 Cw.region ((Gr.ok h).ok e w hs) hJ hok hnd
theorem MZ{ν ν':Nu}{oF oF':OF}(hp:∀i ob,oF' i=some ob->w8 ob=true/\∃ob0,oF i=some ob0)(hν:∀k,ν' k=ν k){b:Nat}(h:Ow ν' oF' b):Ow ν oF b:=by
 obtain⟨i,ob,h1,h2⟩:=h;obtain⟨h3,ob0,h4⟩:=hp i ob h1;refine⟨i,ob0,h4,.inl ?_⟩;have:=(pX (Df h3)).1 h2;unfold dp at this⊢;rw[<-hν i];exact this
end Go.Q

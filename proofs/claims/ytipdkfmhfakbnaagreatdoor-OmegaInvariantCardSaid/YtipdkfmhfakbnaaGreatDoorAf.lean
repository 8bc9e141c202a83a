/- Plain theorems and definitions of this seat, several texts in one. -/
import Derived.Test.YtipdkfmhfakbnaaGreatDoorAe
import Derived.Test.YtipdkfmhfakbnaaGreatDoorAd
import Derived.KernelRfl
import Derived.Shelf.Strings.Builder1
import Derived.Shelf.Strings.Builder2
import Derived.Shelf.Strings.OnBuilder
import Derived.Shelf.Small.Bits
import Derived.Shelf.Strings.BuilderF
import Derived.Shelf.Strconv.Itoa0
import Derived.Shelf.Strconv.Itoa1
import Derived.Shelf.LaysM
import Derived.Shelf.Strconv.Itoa2
import Derived.Shelf.Strings.Prefix
import Derived.Shelf.Bits.Mul64
import Derived.Shelf.Strings.Repeat
import Derived.Ground.Names2Prog
import Derived.Shelf.Slices.ReverseS
import Derived.Shelf.Slices.Clone
import Derived.Shelf.Slices.Cells
import Derived.Ground.SlgnProg
import Derived.Shelf.SlicesE.Clone
import Derived.Test.YtipdkfmhfakbnaaGreatDoorProg
import Derived.Shelf.Strconv.Itoa3
import Derived.Lib.AppendIntMem
set_option linter.unusedVariables false
set_option linter.unusedSimpArgs false
set_option linter.unusedSectionVars false
set_option maxHeartbeats 1000000
namespace Go.D
open Go Go.X
theorem K8{α:Type}{a c:α->Int}:∀{U:List α},(∀x∈U,0<a x)->∃z:Int,∀x∈U,a x*z<=c x
 |[],_=>⟨0,fun x hx=>by cases hx⟩
 |u::U,h=>by
  obtain⟨z,hz⟩:=K8 (c:=c) (U:=U) fun x hx=>h x (cJ _ hx);have hu:=h u cO;refine⟨min z ((c u).fdiv (a u)),fun x hx=>?_⟩;rcases eb.1 hx with rfl|hx
  . have h1:=qE (a:=c x) hu;have h2:=fZ (Int.min_le_right z ((c x).fdiv (a x))) (ed hu);rw[fm (a x) ((c x).fdiv (a x))]at h2;omega
  . have h1:=hz x hx;have h2:=fZ (Int.min_le_left z ((c u).fdiv (a u))) (ed (h x (cJ _ hx)));omega
theorem Hy{α:Type}{b d:α->Int}:∀{W:List α},W≠[]->(∀x∈W,0<b x)->∃z:Int,(∀x∈W,d x<=b x*z)/\∃x∈W,b x*z<=d x+b x-1
 |[],h0,_=>absurd rfl h0
 |w::W,_,h=>by
  have hw:=h w cO;have h1:=qE (a:=-d w) hw;generalize hq:(-d w).fdiv (b w)=q at h1;have e1:b w*-q=-(q*b w):=by rw[ns,fm]
  by_cases hW:W=[]
  . subst hW;exact⟨-q,fun x hx=>by rw[cP.1 hx];omega,w,cO,by omega⟩
  . obtain⟨z,hz,x,hx,hxz⟩:=Hy (d:=d) hW fun x hx=>h x (cJ _ hx);rcases vW (-q) z with hc|hc
    . refine⟨z,fun y hy=>?_,x,cJ _ hx,hxz⟩;rcases eb.1 hy with rfl|hy
      . have:=fZ hc (ed hw);omega
      . exact hz y hy
    . refine⟨-q,fun y hy=>?_,w,cO,by omega⟩;rcases eb.1 hy with rfl|hy
      . omega
      . have:=fZ hc (ed (h y (cJ _ hy)));have:=hz y hy;omega
theorem Qs{α:Type}{U W:List α}{a c b d:α->Int}(ha:∀x∈U,0<a x)(hb:∀w∈W,0<b w)(h:∀x∈U,∀w∈W,(a x-1)*(b w-1)<=b w*c x-a x*d w):
 ∃z:Int,(∀x∈U,a x*z<=c x)/\∀w∈W,d w<=b w*z:=by
 by_cases hW:W=[]
 . subst hW;obtain⟨z,hz⟩:=K8 (c:=c) ha;exact⟨z,hz,fun w hw=>by cases hw⟩
 . obtain⟨z,hz,w,hw,hwz⟩:=Hy (d:=d) hW hb;refine⟨z,fun x hx=>?_,hz⟩;have h1:=h x hx w hw;have hap:=ha x hx;have hbp:=hb w hw;have h2:=fZ hwz (ed hap);have e1:a x*(b w*z)=b w*(a x*z):=by grind
   have e2:a x*(d w+b w-1)=a x*d w+a x*b w-a x:=by grind
   have e3:(a x-1)*(b w-1)=a x*b w-a x-b w+1:=by grind
   have h3:b w*(a x*z)<b w*(c x+1):=by rw[pP,yE];omega
   have:=Gw h3 (ed hbp);omega
def fy(s:St)(v:Nat)(dD:Bool)(ats:List Nat):St:={s with status:=s.status.set v 2,items:=s.items.filter (fun x=>!decide (vf x.g v≠0)),stack:=s.stack++[⟨v,ats,dD⟩]}
def fg(s:St)(v:Nat):List Nat:=(cz v s.items++du v s.items).map AI.pos
theorem UB(s:St)(v:Nat)(dD:Bool):eH s v dD=fy s v dD (fg s v):=rfl
theorem qD{s:St}{v:Nat}{t:Bool}{ats:List Nat}{x:AI}:x∈(fy s v t ats).items↔x∈s.items/\vf x.g v=0:=by
 show x∈s.items.filter _↔_;simp[Ga]
def wi(s:St)(v:Nat)(ats:List Nat):Prop:=∀p∈ats,p<s.known.length/\(∀j,j<s.n->vf s.status j≠0->cu s.u s.n (aI s.known p).c j=0)/\cu s.u s.n (aI s.known p).c v≠0
theorem KT{s:St}{v:Nat}(hI:Inv s)(hv:v<s.n):wi s v (fg s v):=by
 intro p hp;obtain⟨x,hx,rfl⟩:=dz.1 hp;have hx':x∈s.items/\vf x.g v≠0:=by
  rcases fR.1 hx with h|h
  . have:=j7.1 h;exact⟨this.1,by omega⟩
  . have:=im.1 h;exact⟨this.1,by omega⟩
 refine⟨(hI.it x hx'.1).1,fun j hj hst=>?_,?_⟩
 . rw[<-hI.dp x hx'.1 j hj];exact hI.nf x hx'.1 j hj hst
 . rw[<-hI.dp x hx'.1 v hv];exact hx'.2
section
variable {s:St} {v:Nat} {t:Bool} {ats:List Nat}
theorem pX(hI:Inv s)(hv:v<s.n)(j:Nat):vf (fy s v t ats).status j=if v=j then 2 else vf s.status j:=jR (by rw[hI.fX];exact hv)
theorem Inv.fy(hI:Inv s)(hv:v<s.n)(hst:vf s.status v=0)(ha:wi s v ats):Inv (fy s v t ats)where
 ul:=hI.ul
 fX:=by show(s.status.set v 2).length=_;rw[iS];exact hI.fX
 vl:=hI.vl
 kl:=hI.kl
 it x hx:=hI.it x (qD.1 hx).1
 dp x hx:=hI.dp x (qD.1 hx).1
 nf x hx j hj h:=by
  rw[pX hI hv]at h;by_cases e:v=j
  . subst e;exact(qD.1 hx).2
  . rw[if_neg e]at h;exact hI.nf x (qD.1 hx).1 j hj h
 gD x hx:=hI.gD x (qD.1 hx).1
 kh:=List.Pairwise.filter _ hI.kh
 j2:=hI.j2
 stat j hj:=by
  rw[pX hI hv];split
  . exact .inr (.inr rfl)
  . exact hI.stat j hj
 sv e he:=by
  rcases fR.1 he with he|he
  . obtain⟨e1,e2,e3⟩:=hI.sv e he;refine⟨e1,?_,e3⟩;rw[pX hI hv];split
    . rfl
    . exact e2
  . rw[cP.1 he];exact⟨hv,by rw[pX hI hv,if_pos rfl],fun p hp=>(ha p hp).1⟩
 s2 j hj h:=by
  rw[pX hI hv]at h;by_cases e:v=j
  . exact⟨_,vR _ (cP.2 rfl),e⟩
  . rw[if_neg e]at h;obtain⟨e',he',hv'⟩:=hI.s2 j hj h;exact⟨e',Ca _ he',hv'⟩
 sd:=by
  refine List.pairwise_append.2 ⟨hI.sd,List.pairwise_singleton _ _,fun a ha' b hb=>?_⟩;rw[cP.1 hb];obtain⟨a1,a2,_⟩:=hI.sv a ha';refine⟨fun e=>?_,fun p hp=>(ha p hp).2.1 a.v a1 (by omega)⟩;have e:a.v=v:=e;rw[e,hst]at a2;omega
theorem KZ{n:Nat}{x y:AI}:(comb n v x y).length=n:=eN
theorem BF{n j:Nat}{x y:AI}(hj:j<n):vf (comb n v x y) j=-vf y.g v*vf x.g j+vf x.g v*vf y.g j:=dH hj
theorem tW{a b:Int}{A B:Nat}(ha:a.natAbs<=A)(hb:b.natAbs<=B):(a*b).natAbs<=A*B:=by rw[vS];exact iu ha hb
theorem KA{Kk C:Nat}(hI:Inv s)(hs:gr Kk s)(hv:v<s.n)(hC:∀x∈s.items,∀j,j<s.n->(vf x.g j).natAbs<=C)(hCb:C<=4294967296):
 ∀a∈dc s v,(lJ Kk (fy s v t ats) a/\xo (4*(C*C)) a)/\mG Kk (fy s v t ats) a:=by
 intro a ha;obtain⟨x,hx,y,hy,rfl⟩:=J1.1 ha;obtain⟨hxm,hxv⟩:=j7.1 hx;obtain⟨hym,hyv⟩:=im.1 hy;obtain⟨x1,x2⟩:=hI.it x hxm;obtain⟨y1,y2⟩:=hI.it y hym;have hC2:C*C<=4294967296*4294967296:=iu hCb hCb;have hb:∀j,j<s.n->(vf (comb s.n v x y) j).natAbs<=2*(C*C):=fun j hj=>by
  rw[BF hj];have h1:=tW (a:=-vf y.g v) (b:=vf x.g j) (A:=C) (B:=C) (by rw[Co];exact hC y hym v hv) (hC x hxm j hj);have h2:=tW (hC x hxm v hv) (hC y hym j hj);omega
 have hgb:GB (4*(C*C)) (comb s.n v x y):=fun w hw=>by
  obtain⟨j,hj,rfl⟩:=gE hw;rw[KZ]at hj;have:=hb j hj;omega
 have hd4:∀w∈comb s.n v x y,dl w<=4:=fun w hw=>Aj (B9 (hgb w hw) (by omega));have hU:∀{z:AI} {m:Int},z∈s.items->0<=m->m.natAbs<=C->mc s.n Kk s.known ⟨z.pos,m⟩:=fun{z m} hz hm hmC=>by
  have h1:=(hI.it z hz).1;have h2:=hs.k _ (eL h1);exact⟨h1,hm,Aj (show m.natAbs<_ by omega),h2.1,h2.2⟩
 have hP:gF Kk (fy s v t ats) (comb s.n v x y) [⟨x.pos,-vf y.g v⟩,⟨y.pos,vf x.g v⟩]:=⟨KZ,fun w hw=>bO (hd4 w hw) (by decide),by simp,by simp,fun u hu=>by
  rcases eb.1 hu with rfl|hu
  . exact hU hxm (by omega) (by rw[Co];exact hC y hym v hv)
  . rw[cP.1 hu];exact hU hym (by omega) (hC x hxm v hv)⟩
 refine⟨⟨hP,hgb⟩,hP,⟨fun j hj=>?_,fun j hj h=>?_⟩,?_⟩
 . have hj:j<s.n:=hj;rw[BF hj];show _=cu s.u s.n (vec s.n (dX s.known _)) j;have e:cu s.u s.n (vec s.n (dX s.known [⟨x.pos,-vf y.g v⟩,⟨y.pos,vf x.g v⟩])) j=cu s.u s.n (vec s.n fun i=>-vf y.g v*vf (aI s.known x.pos).c i) j+vf x.g v*cu s.u s.n (aI s.known y.pos).c j:=zC fun r hr=>by
    rw[dH hr,dH hr];show-vf y.g v*vf (aI s.known x.pos).c r+(vf x.g v*vf (aI s.known y.pos).c r+0)=_;omega
   have e2:cu s.u s.n (vec s.n fun i=>-vf y.g v*vf (aI s.known x.pos).c i) j=-vf y.g v*cu s.u s.n (aI s.known x.pos).c j:=A5 fun r hr=>dH hr;rw[e,e2,<-hI.dp x hxm j hj,<-hI.dp y hym j hj]
 . have hj:j<s.n:=hj;rw[pX hI hv]at h;rw[BF hj];by_cases e:v=j
   . subst e;rw[lM,fm (vf x.g v)];omega
   . rw[if_neg e]at h;rw[hI.nf x hxm j hj h,hI.nf y hym j hj h];simp
 . unfold dv;split
   . exact bO jF (by decide)
   . exact u5 hd4
def yN(s:St)(v:Nat)(y:Nat->Int):Prop:=∀x∈cz v s.items,∀w∈du v s.items,-vf w.g v*bE (vf x.g) y s.n+vf x.g v*bE (vf w.g) y s.n≤-vf w.g v*(aI s.known x.pos).b+vf x.g v*(aI s.known w.pos).b
theorem OE{n:Nat}{x w:AI}{y:Nat->Int}:bE (vf (comb n v x w)) y n=-vf w.g v*bE (vf x.g) y n+vf x.g v*bE (vf w.g) y n:=by
 rw[eF (f':=fun j=>-vf w.g v*vf x.g j+vf x.g v*vf w.g j) (g':=y) (fun j hj=>BF hj) fun _ _=>rfl,u9,rW]
theorem Jb{Kk M:Nat}{c:St}(hA:yn Kk M (fy s v t ats) (dc s v) true c){y:Nat->Int}(hy:∀z∈c.items,IH c y z):(∀z∈s.items,vf z.g v=0->IH s y z)/\yN s v y:=by
 obtain⟨h1,h2⟩:=hA.imp rfl y hy;refine⟨fun z hz h0=>h1 z (qD.2 ⟨hz,h0⟩),fun x hx w hw=>?_⟩;have:bE (vf (comb s.n v x w)) y s.n≤-vf w.g v*(aI s.known x.pos).b+(vf x.g v*(aI s.known w.pos).b+0):=h2 (mC s.n v x w) (J1.2 ⟨x,hx,w,hw,rfl⟩);rw[OE]at this;omega
theorem Qy{s0 c:St}{Kk M:Nat}(hI0:Inv s0)(hI:Inv s)(hk:Kept s0 s)(hv:v<s.n)(hst:vf s.status v=0)
 (hcov:∀y,(∀x∈s.items,vf x.g v=0->IH s y x)->(∀p∈ats,hx s (ux s y) p)->∀x∈s0.items,IH s0 y x)
 (hats:wi s v ats)(hA:yn Kk M (fy s v t ats) (dc s v) true c):gT s0 c:=by
 obtain⟨e1,he1⟩:=hk.kn;obtain⟨e2,he2⟩:=hA.kept.kn;have he2:c.known=s.known++e2:=he2;have hn:c.n=s.n:=hA.kept.n;have hn0:s.n=s0.n:=hk.n;have hu:c.u=s.u:=hA.kept.u;have hux:∀y i,ux c y i=ux s y i:=fun y i=>by unfold ux;rw[hu,hn]
 have hux0:∀y i,ux s y i=ux s0 y i:=fun y i=>by unfold ux;rw[hk.u,hk.n]
 have hstat:∀j,vf c.status j=if v=j then 2 else vf s.status j:=fun j=>by rw[hA.kept.status];exact pX hI hv j
 have hstk:c.stack=s0.stack++[⟨v,ats,t⟩]:=by rw[hA.kept.dP,<-hk.dP];rfl
 refine⟨hn.trans hn0,⟨e1++e2,by rw[he2,he1,je]⟩,⟨_,hstk⟩,fun j hj hs=>?_,fun y=>⟨y,fun i _=>(hux y i).trans (hux0 y i),fun _ _ _=>rfl,fun k hkl ⟨h1,h2,h3⟩=>?_⟩⟩
 . have hvj:v≠j:=fun e=>hs (by rw[<-e,<-hk.status];exact hst);exact⟨by rw[hstat,if_neg hvj,hk.status],fun _=>by rw[hA.kept.value];show vf s.value j=_;rw[hk.value],fun i _=>by rw[hu,hk.u]⟩
 . obtain⟨g1,_⟩:=Jb hA h2;have hats2:∀p∈ats,hx s (ux s y) p:=fun p hp=>by
    have h4:=h3 ⟨v,ats,t⟩ (by rw[hstk,B8 hkl];simp) p hp;exact(si hn he2 (hats p hp).1 fun i _=>hux y i).1 h4
   refine⟨fun j hj hs=>?_,hcov y g1 hats2,fun e' he' p hp=>?_⟩
   . have hvj:v≠j:=fun e=>by rw[<-e,<-hk.status,hst]at hs;omega
     have:=h1 j (by rw[hn,hn0];exact hj) (by rw[hstat,if_neg hvj,hk.status];exact hs);rw[this,hA.kept.value];show vf s.value j=_;rw[hk.value]
   . have h4:=h3 e' (by rw[hstk,B8 hkl];exact Ca _ he') p hp;exact(si (hn.trans hn0) (e:=e1++e2) (by rw[he2,he1,je]) ((hI0.sv e' (Gi he')).2.2 p hp) fun i _=>(hux y i).trans (hux0 y i)).1 h4
theorem Sb{c:St}{Kk M k:Nat}(hI:Inv s)(hv:v<s.n)(hats:wi s v ats)(hA:yn Kk M (fy s v t ats) (dc s v) true c)(hz:∀y,yN s v y->∃z,∀p∈ats,hx s (ux s (cK y v z)) p):
 ∀y,Hs c y k->∃z,∀p∈ats,hx c (ux c (cK y v z)) p:=by
 intro y ⟨_,h2,_⟩;obtain⟨z,hz⟩:=hz y (Jb hA h2).2;obtain⟨e2,he2⟩:=hA.kept.kn;have hn:c.n=s.n:=hA.kept.n;refine⟨z,fun p hp=>(si hn he2 (hats p hp).1 fun i _=>?_).2 (hz p hp)⟩;unfold ux;rw[hA.kept.u,hn];rfl
theorem FZ{x:AI}{y:Nat->Int}{z:Int}(hv:v<s.n):IH s (cK y v z) x↔vf x.g v*z<=(aI s.known x.pos).b-bE (vf x.g) y s.n+vf x.g v*y v:=by
 unfold IH;rw[uk hv,Int.mul_sub];omega
theorem H5{y:Nat->Int}(hv:v<s.n)(Wb:AI->Int)
 (h:∀x∈cz v s.items,∀w∈du v s.items,(vf x.g v-1)*(-vf w.g v-1)<=(-vf w.g v*(aI s.known x.pos).b+vf x.g v*Wb w)-(-vf w.g v*bE (vf x.g) y s.n+vf x.g v*bE (vf w.g) y s.n)):
 ∃z,(∀x∈cz v s.items,IH s (cK y v z) x)/\∀w∈du v s.items,vf w.g v*z<=Wb w-bE (vf w.g) y s.n+vf w.g v*y v:=by
 obtain⟨z,h1,h2⟩:=Qs (U:=cz v s.items) (W:=du v s.items) (a:=fun x=>vf x.g v) (b:=fun w=>-vf w.g v) (c:=fun x=>(aI s.known x.pos).b-bE (vf x.g) y s.n+vf x.g v*y v) (d:=fun w=>-(Wb w-bE (vf w.g) y s.n+vf w.g v*y v))
  (fun x hx=>(j7.1 hx).2) (fun w hw=>by have:=(im.1 hw).2;omega) (fun x hx w hw=>by
   have:=h x hx w hw;generalize vf x.g v=a at*;generalize vf w.g v=b at*;generalize(aI s.known x.pos).b=B at*;generalize bE (vf x.g) y s.n=X at*;generalize bE (vf w.g) y s.n=Y at*;grind)
 refine⟨z,fun x hx=>(FZ hv).2 (h1 x hx),fun w hw=>?_⟩;have:=h2 w hw;rw[lM]at this;omega
end
open Go Go.X
def By(N:Nat)(s:aR)(x1:(List aB)):((List aB)×Int)->Option (aK ((List aB)×Int) (List aB))
 |(b,a)=>(if(a:Int)<(List.length x1:Int)then ((((idx s.status a).bind fun c=>(if(c:Int)=1 then (idx s.value a).bind fun d=>(idx b a).bind fun g=>(dw b a d).bind fun e=>some e else some b)):Option (List aB))).bind fun ss=>match ss with
    |f=>some (aK.next (f,(iw (a+1)))) else some (aK.done b))
def nQ(N:Nat)(s:aR):Nat->List aB->Bool
 |0,_=>true
 |k+1,y=>s.stack.all fun e=>match nA N s e y with
  |none=>false
  |some (n,ok)=>if ok then(match dw y e.v n with
   |none=>false
   |some y=>nQ N s k y)else true
def ij(N:Nat)(s:aR):List dK->List aB->Option (Sum (List aB) Int)
 |[],y=>some (.inl y)
 |e::r,y=>(nA N s e y).bind fun(n,ok)=>if ok then(dw y e.v n).bind (ij N s r)else some (.inr e.v)
def rk(N:Nat)(s:aR):Option bX:=(gg (α:=aB) 32 (aB.mk false ([]:(List Int))) s.n).bind fun x1=>(bI (By N s x1) N (x1,0)).bind fun y=>if s.stack.length<=9223372036854775807/\nQ N s s.stack.length y=true then (ij N s s.stack.reverse y).bind fun
  |.inr v=>some (bX.mk 2 [] (Proof.mk [] [] (aB.mk false []) []) v)
  |.inl y=>(qz N s y).bind fun x=>some (bX.mk 0 x (Proof.mk [] [] (aB.mk false []) []) 0) else none
def sa(N:Nat)(run:aR->Option bX)(self:aR->aY->aB->aB->Option bX)(s:aR)(low:aY)(k:aB)(most:aB):Option bX:=(iN N k most).bind fun r1=>(if(r1:Int)=0 then (qQ N s).bind fun r7=>(run r7).bind fun r8=>some r8 else (idx s.known low.pos).bind fun x9=>(mu N x9.aT).bind fun f=>(jq N x9.dA).bind fun i=>(ng N s (bB.mk f i)).bind fun c=>(mu N low.g).bind fun j=>(kX N c (aY.mk (iw ((List.length c.known:Int)-1)) j)).bind fun b=>(run (aR.mk c.n b.known b.steps b.u b.status b.value b.items b.stack)).bind fun d=>(if(d.kind:Int)≠1 then some d else (fN N 1).bind fun l=>(jc N x9.dA l).bind fun m=>(ng N s (bB.mk x9.aT m)).bind fun a=>(vg N a.items low.pos (iw ((List.length a.known:Int)-1))).bind fun o=>(fN N 1).bind fun p=>(iT N k p).bind fun v=>(self (aR.mk a.n a.known a.steps a.u a.status a.value o a.stack) (aY.mk (iw ((List.length a.known:Int)-1)) low.g) v most).bind fun e=>(if(e.kind:Int)≠1 then some e else (qO N s f i d e).bind fun y=>some y)))
def qC:Nat->(aR->Option bX)->aR->aY->aB->aB->Option bX
 |0=>fun _ _ _ _ _=>none
 |N+1=>fun run=>sa N run (qC N run)
def ua(N:Nat)(run:aR->Option bX)(self:aR->Int->(List aY)->(List Int)->Option bX)(v:Int)(r1:((List aY)×(List aY))):(List aY)->Option (aK (List aY) (List aY))
 |a=>((((if((List.length a:Int):Int)>0 then (idx a 0).bind fun b=>(ox N v b r1.1).bind fun c=>(gJ N c).bind fun d=>some (decide ((d:Int)<0)) else some false)):Option Bool)).bind fun ss=>match ss with
   |e=>(if e=true then (cut a 1 (List.length a:Int)).bind fun f=>some (aK.next f) else some (aK.done a))
def pI(N:Nat)(run:aR->Option bX)(self:aR->Int->(List aY)->(List Int)->Option bX)(s:aR)(v:Int)(lows:(List aY))(vat3:(List Int)):Option bX:=(sy N s v).bind fun r1=>(bI (ua N run self v r1) N lows).bind fun ss=>match ss with
  |d=>(if((List.length d:Int):Int)=0 then (qQ N s).bind fun i=>(n5 N i v false).bind fun a=>(idx a.2.stack (iw ((List.length a.2.stack:Int)-1))).bind fun o=>(dw a.2.stack (iw ((List.length a.2.stack:Int)-1)) (dK.mk o.v vat3 o.dD)).bind fun p=>(if(!a.1)=true then (jG N (aR.mk i.n a.2.known a.2.steps a.2.u a.2.status a.2.value a.2.items p)).bind fun a1=>some a1 else (run (aR.mk i.n a.2.known a.2.steps a.2.u a.2.status a.2.value a.2.items p)).bind fun a2=>some a2) else (idx d 0).bind fun e=>(idx d 0).bind fun a3=>(ox N v a3 r1.1).bind fun j=>(idx s.known e.pos).bind fun f=>(mu N f.aT).bind fun y=>(jc N f.dA j).bind fun a4=>(fN N 1).bind fun a5=>(jc N a4 a5).bind fun a6=>(ng N s (bB.mk f.aT a6)).bind fun b=>(vg N b.items e.pos (iw ((List.length b.known:Int)-1))).bind fun a7=>(cut d 1 (List.length d:Int)).bind fun a8=>(self (aR.mk b.n b.known b.steps b.u b.status b.value a7 b.stack) v a8 vat3).bind fun k=>(if(k.kind:Int)≠1 then some k else (jc N j f.dA).bind fun a0=>(ng N s (bB.mk y a0)).bind fun l=>(mu N e.g).bind fun a9=>(kX N l (aY.mk (iw ((List.length l.known:Int)-1)) a9)).bind fun c=>(qC N run (aR.mk l.n c.known c.steps c.u c.status c.value c.items c.stack) e (aB.mk false ([]:(List Int))) j).bind fun m=>(if(m.kind:Int)≠1 then some m else (qO N s y a0 m k).bind fun aa=>some aa)))
def mD:Nat->(aR->Option bX)->aR->Int->(List aY)->(List Int)->Option bX
 |0=>fun _ _ _ _ _=>none
 |N+1=>fun run=>pI N run (mD N run)
def wZ(N:Nat)(run:aR->Option bX)(s:aR)(c:gQ):Option bX:=(iT N c.low c.high).bind fun r1=>(fN N 2).bind fun r2=>(kG N r1 r2).bind fun r3=>(idx s.known c.up.pos).bind fun x4=>(ng N s (bB.mk x4.aT r3.1)).bind fun r5=>(kX N r5 (aY.mk (iw ((List.length r5.known:Int)-1)) c.up.g)).bind fun r6=>(run (aR.mk r5.n r6.known r6.steps r6.u r6.status r6.value r6.items r6.stack)).bind fun r7=>(if(r7.kind:Int)≠1 then some r7 else (mu N x4.aT).bind fun e=>(jq N r3.1).bind fun f=>(fN N 1).bind fun i=>(jc N f i).bind fun j=>(ng N s (bB.mk e j)).bind fun b=>(mu N c.up.g).bind fun k=>(kX N b (aY.mk (iw ((List.length b.known:Int)-1)) k)).bind fun a=>(run (aR.mk b.n a.known a.steps a.u a.status a.value a.items a.stack)).bind fun d=>(if(d.kind:Int)≠1 then some d else (qO N s x4.aT r3.1 r7 d).bind fun l=>some l))
def DV(N:Nat)(run:aR->Option bX)(b:(List aY)):((List Int)×Int)->Option (aK ((List Int)×Int) (List Int))
 |(c,a)=>(if(a:Int)<(List.length b:Int)then (idx b a).bind fun d=>(cM 8 c [d.pos]).bind fun e=>some (aK.next (e,(iw (a+1)))) else some (aK.done c))
def vz(N:Nat)(run:aR->Option bX)(s:aR)(v:Int):Option bX:=(wg N s).bind fun r1=>((((if r1.2=true then (jc N r1.1.high r1.1.low).bind fun e=>((((fN N 64).bind fun f=>(iN N e f).bind fun g=>(if(g:Int)<=0 then (wy N s v).bind fun i=>(iN N e i).bind fun j=>some (decide ((j:Int)<0)) else some false)):Option Bool)).bind fun ss=>match ss with
   |k=>(if k=true then (wZ N run s r1.1).bind fun l=>some (Sum.inr l) else some (Sum.inl ())) else some (Sum.inl ()))):Option (Sum Unit bX))).bind fun ss=>match ss with
  |(Sum.inl _)=>(qQ N s).bind fun b=>(n5 N b v true).bind fun a=>(if(!a.1)=true then (jG N (aR.mk b.n a.2.known a.2.steps a.2.u a.2.status a.2.value a.2.items a.2.stack)).bind fun m=>some m else (run (aR.mk b.n a.2.known a.2.steps a.2.u a.2.status a.2.value a.2.items a.2.stack)).bind fun c=>((((if(c.kind:Int)≠2 then some true else some (decide ((c.v:Int)≠v)))):Option Bool)).bind fun ss=>match ss with
     |o=>(if o=true then some c else (sy N s v).bind fun d=>(tU N [d.1,d.2]).bind fun p=>(bI (DV N run p) N (([]:(List Int)),0)).bind fun ss=>match ss with
        |y=>(mD N run s v d.2 y).bind fun a0=>some a0))
  |(Sum.inr z)=>some z
def uS(N:Nat)(self:aR->Option bX)(s:aR):((List bB)×(List Step)×(List (List aB))×(List Int)×(List aB)×(List aY)×(List dK))->Option (aK ((List bB)×(List Step)×(List (List aB))×(List Int)×(List aB)×(List aY)×(List dK)) bX)
 |(e,f,g,i,j,k,l)=>(ud N (aR.mk s.n e f g i j k l)).bind fun a=>(if(!a.2.2.2.1)=true then (jG N (aR.mk s.n a.2.2.2.2.known a.2.2.2.2.steps a.2.2.2.2.u a.2.2.2.2.status a.2.2.2.2.value a.2.2.2.2.items a.2.2.2.2.stack)).bind fun m=>some (aK.done m) else (if a.2.2.1=true then (td N (aR.mk s.n a.2.2.2.2.known a.2.2.2.2.steps a.2.2.2.2.u a.2.2.2.2.status a.2.2.2.2.value a.2.2.2.2.items a.2.2.2.2.stack) a.1 a.2.1).bind fun b=>(if(!b.1)=true then (jG N (aR.mk s.n b.2.known b.2.steps b.2.u b.2.status b.2.value b.2.items b.2.stack)).bind fun o=>some (aK.done o) else some (aK.next (b.2.known,b.2.steps,b.2.u,b.2.status,b.2.value,b.2.items,b.2.stack))) else (uI N (aR.mk s.n a.2.2.2.2.known a.2.2.2.2.steps a.2.2.2.2.u a.2.2.2.2.status a.2.2.2.2.value a.2.2.2.2.items a.2.2.2.2.stack)).bind fun d=>(if(!d.2)=true then (rk N (aR.mk s.n a.2.2.2.2.known a.2.2.2.2.steps a.2.2.2.2.u a.2.2.2.2.status a.2.2.2.2.value a.2.2.2.2.items a.2.2.2.2.stack)).bind fun p=>some (aK.done p) else (uA N (aR.mk s.n a.2.2.2.2.known a.2.2.2.2.steps a.2.2.2.2.u a.2.2.2.2.status a.2.2.2.2.value a.2.2.2.2.items a.2.2.2.2.stack) d.1).bind fun v=>(if(!v)=true then (vz N self (aR.mk s.n a.2.2.2.2.known a.2.2.2.2.steps a.2.2.2.2.u a.2.2.2.2.status a.2.2.2.2.value a.2.2.2.2.items a.2.2.2.2.stack) d.1).bind fun y=>some (aK.done y) else (n5 N (aR.mk s.n a.2.2.2.2.known a.2.2.2.2.steps a.2.2.2.2.u a.2.2.2.2.status a.2.2.2.2.value a.2.2.2.2.items a.2.2.2.2.stack) d.1 false).bind fun c=>(if(!c.1)=true then (jG N (aR.mk s.n c.2.known c.2.steps c.2.u c.2.status c.2.value c.2.items c.2.stack)).bind fun a0=>some (aK.done a0) else some (aK.next (c.2.known,c.2.steps,c.2.u,c.2.status,c.2.value,c.2.items,c.2.stack)))))))
def xB(N:Nat)(self:aR->Option bX)(s:aR):Option bX:=(bI (uS N self s) N (s.known,s.steps,s.u,s.status,s.value,s.items,s.stack)).bind fun ss=>match ss with
  |z=>some z
def jS:Nat->aR->Option bX
 |0=>fun _=>none
 |N+1=>xB N (jS N)
def qj(N:Nat)(n:Int)(system:(List bB)):Option bX:=(yb N n system).bind fun r1=>(ur N r1).bind fun r2=>(if(!r2.1)=true then (jG N (aR.mk r1.n r2.2.known r2.2.steps r2.2.u r2.2.status r2.2.value r2.2.items r2.2.stack)).bind fun r7=>some r7 else (jS N (aR.mk r1.n r2.2.known r2.2.steps r2.2.u r2.2.status r2.2.value r2.2.items r2.2.stack)).bind fun r8=>some r8)
def qp(N:Nat)(n:Int)(l:(List Constraint)):Option ((List aB)×Proof×Bool):=(um N l n).bind fun r1=>(qj N n r1).bind fun r2=>(if(r2.kind:Int)=0 then some (r2.x,(Proof.mk ([]:(List Step)) ([]:(List aB)) (aB.mk false ([]:(List Int))) ([]:(List Proof))),true) else some (([]:(List aB)),r2.proof,false))
def Kc(N:Nat)(system:(List bB)):((List bB)×Int)->Option (aK ((List bB)×Int) (List bB))
 |(b,a)=>(if(a:Int)<(List.length system:Int)then (idx system a).bind fun c=>(cM 56 b [(bB.mk c.aT (aB.mk false ([]:(List Int))))]).bind fun d=>some (aK.next (d,(iw (a+1)))) else some (aK.done b))
def DH(N:Nat)(n:Int)(system:(List bB))(v:Int):Option Bool:=(bI (Kc N system) N (([]:(List bB)),0)).bind fun ss=>match ss with
  |a=>(fN N (-1)).bind fun b=>(Bj N n v 1 b).bind fun c=>(cM 56 a [c]).bind fun d=>(qj N n d).bind fun e=>some (decide ((e.kind:Int)=0))
def LN(N:Nat)(n:Int)(v:Int)(g:aB)(r1:(List bB)):(aB×aB×Bool×aB)->Option (aK (aB×aB×Bool×aB) (aB×Bool))
 |(a,c,d,b)=>((((jc N a b).bind fun i=>((((if d=true then (iT N c a).bind fun j=>(fN N 2).bind fun k=>(kG N j k).bind fun l=>(jc N a c).bind fun m=>(iN N m g).bind fun o=>(if(o:Int)<=0 then some (Sum.inr (a,true)) else some (Sum.inl l.1)) else some (Sum.inl i))):Option (Sum aB (aB×Bool)))).bind fun ss=>match ss with
   |(Sum.inl e)=>(AW N r1).bind fun p=>(Bj N n v 1 e).bind fun s=>(cM 56 p [s]).bind fun u=>(qj N n u).bind fun f=>(if(f.kind:Int)=0 then (idx f.x v).bind fun y=>(iT N b b).bind fun a0=>some (Sum.inl (y,c,d,a0)) else some (Sum.inl (a,e,true,b)))
   |(Sum.inr z)=>some (Sum.inr z)):Option (Sum (aB×aB×Bool×aB) (aB×Bool)))).bind fun ss=>match ss with
   |(Sum.inl (a1,a2,a3,a4))=>some (aK.next (a1,a2,a3,a4))
   |(Sum.inr z)=>some (aK.done z)
def Eo(N:Nat)(n:Int)(l:(List Constraint))(v:Int):Option (aB×Bool):=(um N l n).bind fun r1=>(qj N n r1).bind fun r2=>((((if(r2.kind:Int)≠0 then some true else (DH N n r1 v).bind fun b=>some b)):Option Bool)).bind fun ss=>match ss with
  |x6=>(if x6=true then some ((aB.mk false ([]:(List Int))),false) else (fN N 1).bind fun a=>(idx r2.x v).bind fun c=>(bI (LN N n v a r1) N (c,(aB.mk false ([]:(List Int))),false,a)).bind fun ss=>match ss with
     |z=>some z)
end Go.D
set_option maxHeartbeats 1000000
namespace Go.D
open Go Go.X
structure j6 (K Ku:Nat)(s:St):Prop where
 n:s.n<=4
 hK:K<=536870912
 n9:Ku<=17179869184
 u:SU Ku s
 k:∀q∈s.known,fF K q/\q.c.length=s.n
 kl:s.known.length<=1073741824
theorem sC{f g:Nat->Int}{A B:Nat}(hf:∀j,dl (f j)<=A)(hg:∀j,dl (g j)<=B):∀n,dl (bE f g n)<=A+B+n
 |0=>by show dl 0<=_;rw[ir];omega
 |n+1=>by
  have h1:=sC hf hg n;have h2:=kr (f n) (g n);have:=hf n;have:=hg n;exact oD (K:=A+B+n) h1 (by omega)
section
variable {K Ku:Nat} {s:St}
theorem j6.mx(h:j6 K Ku s)(i j:Nat):dl (mx s.u i j)<=Ku:=by
 unfold D.mx;rcases cw i s.u.length with hi|hi
 . rw[cA,bV hi];exact(h.u.u.2 _ (cX hi)).vf j
 . rw[cA,fQ hi];show dl (vf [] j)<=_;rw[lV (by simp),ir];omega
theorem j6.q(h:j6 K Ku s)(p j:Nat):dl (vf (aI s.known p).c j)<=K:=by
 rcases cw p s.known.length with hp|hp
 . exact(h.k _ (eL hp)).1.vf j
 . unfold aI;rw[cA,fQ hp];show dl (vf [] j)<=_;rw[lV (by simp),ir];omega
theorem j6.cu(h:j6 K Ku s)(p j:Nat):dl (cu s.u s.n (aI s.known p).c j)<=K+Ku+4:=by
 have:=sC (f:=vf (aI s.known p).c) (g:=fun i=>D.mx s.u i j) (h.q p) (fun i=>h.mx i j) s.n;have:=h.n;show dl (bE _ _ _)<=_;omega
theorem GS(h:j6 K Ku s){i:Nat}(hi:i<s.n):∃r:List Int,idx s.to.u (i:Int)=some (mB r)/\r.length=s.n/\∀j,vf r j=mx s.u i j:=by
 have hl:i<s.u.length:=by rw[h.u.u.1];exact hi
 refine⟨s.u[i],?_,(h.u.u.2 _ (cX hl)).1,fun j=>?_⟩
 . show idx (s.u.map mB) _=_;rw[cU (by simpa using hl),ky]
 . unfold mx;rw[cA,bV hl];rfl
theorem Jw(h:j6 K Ku s){p j:Nat}(hp:p<s.known.length)(hj:j<s.n):Tm (fun N=>vJ N s.to (p:Int) (j:Int)) (·=B (cu s.u s.n (aI s.known p).c j)):=by
 have hL:cY=1099511627776:=rfl;have hK:=h.hK;have n9:=h.n9;have hn:=h.n;have hql:=(h.k _ (eL hp)).2;unfold vJ;refine aN (nN hp) ?_;refine aU (a:=B (cu s.u s.n (aI s.known p).c j)) (ei s.n (fun k t=>t=(B (bE (vf (aI s.known p).c) (fun i=>mx s.u i j) k),(k:Int))) (by show(_,_)=_;rw[show bE _ _ 0=0 from rfl,B0];rfl) ?_) (aL rfl);rintro k hk _ rfl;dsimp only[D4];have hcl:(aI s.known p).to.aT.length=s.n:=(dJ _).trans hql;rw[hcl];refine aZ (fun hlt=>?_) (fun hge=>aL ?_)
 . have hlt:k<s.n:=by omega
   obtain⟨r,hr,hrl,hrv⟩:=GS h hlt;have d1:=h.q p k;have d2:=h.mx k j;have d3:=sC (f:=vf (aI s.known p).c) (g:=fun i=>mx s.u i j) (h.q p) (fun i=>h.mx i j) k;have d4:=kr (vf (aI s.known p).c k) (mx s.u k j);refine aN (ez (l:=(aI s.known p).c) (by omega)) (aN hr (aN (ez (l:=r) (by omega)) ?_));rw[hrv];exact aU (oc (by omega) (by omega)) (aU (mN (by omega) (by omega)) (aL ⟨hlt,by rw[dT (by omega)];rfl⟩))
 . have:k=s.n:=by omega
   subst this;rfl
def rst(s:St)(v:Nat)(y:Nat->Int)(p:Nat):Int:=(aI s.known p).b-bE (cu s.u s.n (aI s.known p).c) (cK y v 0) s.n
theorem Te{y:Nat->Int}{v:Nat}{z w:Int}:cK (cK y v z) v w=cK y v w:=by
 funext j;unfold cK;split<;>rfl
theorem NR{v p:Nat}{y:Nat->Int}{z:Int}(hv:v<s.n):hx s (ux s (cK y v z)) p↔cu s.u s.n (aI s.known p).c v*z<=rst s v y p:=by
 unfold hx rst;rw[AJ];have h:=uk (f:=cu s.u s.n (aI s.known p).c) (y:=cK y v 0) (z:=z) hv;rw[Te]at h;rw[h];have:cK y v 0 v=0:=by unfold cK;rw[if_pos rfl]
 rw[this,GH];omega
theorem Jy{y:Nat->Int}{v D:Nat}(hy:∀j,dl (y j)<=D)(j:Nat):dl (cK y v 0 j)<=D:=by
 unfold cK;split
 . rw[ir];omega
 . exact hy j
theorem Ok(h:j6 K Ku s){v p D:Nat}{y:Nat->Int}(hp:p<s.known.length)(hy:∀j,dl (y j)<=D):dl (rst s v y p)<=K+Ku+D+9:=by
 have hn:=h.n;have h1:=sC (f:=cu s.u s.n (aI s.known p).c) (g:=cK y v 0) (fun j=>h.cu p j) (Jy hy) s.n;have h2:=(h.k _ (eL hp)).1.2;exact jX (K:=K+Ku+D+8) (by omega) (by omega)
theorem To(h:j6 K Ku s){e:dK}{v p D:Nat}{y:List Int}(hev:e.v=(v:Int))(hp:p<s.known.length)(hyl:y.length=s.n)(hy:∀j,dl (vf y j)<=D)(hD:D<=549755813888):
 Tm (fun N=>bI (zx N s.to e (mB y) (p:Int)) N (B (aI s.known p).b,0)) (·=B (rst s v (vf y) p)):=by
 have hL:cY=1099511627776:=rfl;have hK:=h.hK;have n9:=h.n9;have hn:=h.n;refine(ei s.n (fun k t=>t=(B ((aI s.known p).b-bE (cu s.u s.n (aI s.known p).c) (cK (vf y) v 0) k),(k:Int))) (by rw[show bE (cu s.u s.n (aI s.known p).c) (cK (vf y) v 0) 0=0 from rfl,GH];rfl) ?_);rintro k hk _ rfl;dsimp only[zx];rw[dJ,hyl];refine aZ (fun hlt=>?_) (fun hge=>aL ?_)
 . have hlt:k<s.n:=by omega
   have d1:=h.cu p k;have d2:=hy k;have d3:=sC (f:=cu s.u s.n (aI s.known p).c) (g:=cK (vf y) v 0) (fun j=>h.cu p j) (Jy hy) k;have d4:=(h.k _ (eL hp)).1.2;have d5:=kr (cu s.u s.n (aI s.known p).c k) (vf y k);have d6:=jX (K:=K+Ku+D+8) (a:=(aI s.known p).b) (b:=bE (cu s.u s.n (aI s.known p).c) (cK (vf y) v 0) k) (by omega) (by omega);refine aU (a:=B ((aI s.known p).b-bE (cu s.u s.n (aI s.known p).c) (cK (vf y) v 0) (k+1))) (aZ (fun hc=>?_) (fun hc=>aL ?_)) (aL ⟨hlt,by rw[dT (by omega)]⟩)
   . rw[hev]at hc;have hkv:k≠v:=by omega
     refine aU (Jw h hp hlt) (aN (ez (l:=y) (by omega)) (aU (oc (by omega) (by omega)) (aU (l5 (by omega) (by omega)) (aL ?_))));congr 1;show _=_-(bE _ _ k+_*cK (vf y) v 0 k);rw[show cK (vf y) v 0 k=vf y k by unfold cK;rw[if_neg hkv]];omega
   . rw[hev]at hc;have hkv:k=v:=by omega
     congr 1;show _=_-(bE _ _ k+_*cK (vf y) v 0 k);rw[show cK (vf y) v 0 k=0 by unfold cK;rw[if_pos hkv]];omega
 . have:k=s.n:=by omega
   subst this;rfl
theorem GL{a c z:Int}(hc:0<c):z<=a.fdiv c↔c*z<=a:=by
 have h1:=qE (a:=a) hc;constructor
 . intro h;have:=fZ h (ed hc);rw[fm c (a.fdiv c)]at this;omega
 . intro h;refine Int.le_of_lt_add_one (Gw (a:=c) ?_ (ed hc));rw[pP,yE,fm c (a.fdiv c)];omega
theorem R9{a c z:Int}(hc:c<0):-(a.fdiv (-c))<=z↔c*z<=a:=by
 have:=GL (a:=a) (c:=-c) (z:=-z) (by omega);rw[Int.neg_mul_neg]at this;rw[<-this];omega
structure py (s:St)(e:AE):Prop where
 il:e.items.length<=1073741824
 v:e.v<s.n
 p:∀p∈e.items,p<s.known.length/\cu s.u s.n (aI s.known p).c e.v≠0
theorem JS(h:j6 K Ku s){e:AE}(he:py s e){D:Nat}{y:List Int}(hyl:y.length=s.n)(hy:∀j,dl (vf y j)<=D)(hD:D<=549755813888):
    Tm (fun N=>nA N s.to e.to (mB y)) (fun r=>∃z,r.1=B z/\dl z<=K+Ku+D+9/\(r.2=true->∀p∈e.items,hx s (ux s (cK (vf y) e.v z)) p)/\(r.2=false->¬∃z,∀p∈e.items,hx s (ux s (cK (vf y) e.v z)) p)):=by
  have hL:cY=1099511627776:=rfl;have hK:=h.hK;have n9:=h.n9;have hn:=h.n;have hev:=he.v;generalize hcf:(fun p=>cu s.u s.n (aI s.known p).c e.v)=c;have hc':∀p,cu s.u s.n (aI s.known p).c e.v=c p:=fun p=>by rw[<-hcf]
  generalize hrf:rst s e.v (vf y)=rs;have hxr:∀p z,hx s (ux s (cK (vf y) e.v z)) p↔c p*z<=rs p:=fun p z=>by rw[NR hev,hc',hrf]
  have hil:e.to.items.length=e.items.length:=cD ..;unfold nA;refine Tm.bind (Q:=fun t=>∃(lo hi:Int) (hl hh:Bool),t=(B lo,B hi,hl,hh)/\dl lo<=K+Ku+D+9/\dl hi<=K+Ku+D+9/\
      (hl=true->∀z,lo<=z↔∀p∈e.items,c p<0->c p*z<=rs p)/\(hl=false->∀p∈e.items,¬c p<0)/\(hh=true->∀z,z<=hi↔∀p∈e.items,0<c p->c p*z<=rs p)/\(hh=false->∀p∈e.items,¬0<c p))
    (ei e.items.length (fun k t=>∃(lo hi:Int) (hl hh:Bool),t=(B lo,B hi,hl,hh,(k:Int))/\dl lo<=K+Ku+D+9/\dl hi<=K+Ku+D+9/\
      (hl=true->∀z,lo<=z↔∀p∈e.items.take k,c p<0->c p*z<=rs p)/\(hl=false->∀p∈e.items.take k,¬c p<0)/\(hh=true->∀z,z<=hi↔∀p∈e.items.take k,0<c p->c p*z<=rs p)/\(hh=false->∀p∈e.items.take k,¬0<c p))
      ⟨0,0,false,false,by rw[B0];rfl,by rw[ir];omega,by rw[ir];omega,fun e=>(by cases e),fun _ p hp=>(by cases hp),fun e=>(by cases e),fun _ p hp=>(by cases hp)⟩ ?_) ?_
  . rintro k hk _ ⟨lo,hi,hl,hh,rfl,dlo,dhi,l1,l2,h1,h2⟩;dsimp only[CO];rw[hil];refine aZ (fun hlt=>?_) (fun hge=>aL ?_)
    . have hlt:k<e.items.length:=by omega
      obtain⟨q1,q2⟩:=he.p _ (cX hlt);have htk:=jh hlt;rw[<-htk];generalize hp0:e.items[k]=p at*;have hrd:=Ok h (v:=e.v) q1 hy;rw[hrf]at hrd;rw[hc']at q2;have hcd:dl (c p)<=K+Ku+4:=by rw[<-hc'];exact h.cu p e.v
      have hcoef:=Jw h q1 hev;rw[hc']at hcoef;have hrest:=To h (e:=e.to) (v:=e.v) rfl q1 hyl hy hD;rw[hrf]at hrest;have hidx:idx e.to.items (k:Int)=some (p:Int):=by
        show idx (e.items.map Int.ofNat) _=_;rw[cU (by simpa using hlt),ky];rw[hp0];rfl
      refine Tm.bind (Q:=fun t=>∃(lo' hi':Int) (hl' hh':Bool),t=(B lo',B hi',hl',hh')/\dl lo'<=K+Ku+D+9/\dl hi'<=K+Ku+D+9/\((c p<0/\hi'=hi/\hh'=hh/\hl'=true/\((hl=true/\lo'=max lo (-((rs p).fdiv (-c p))))\/(hl=false/\lo'=-((rs p).fdiv (-c p)))))\/(0<c p/\lo'=lo/\hl'=hl/\hh'=true/\((hh=true/\hi'=min hi ((rs p).fdiv (c p)))\/(hh=false/\hi'=(rs p).fdiv (c p))))))
        (aN hidx (aN (nN q1) (aU hrest (aU hcoef (aU (jv (by omega)) ?_))))) ?_
      . refine aZ (fun hs=>?_) (fun hs=>?_)
        . have hpos:0<c p:=by unfold bM at hs;(repeat' split at hs)<;>omega
          refine Tm.bind (qH (a:=rs p) (b:=c p) (by omega) (by omega)) ?_;rintro⟨q,qr,qo⟩ hq;dsimp only at hq⊢;subst hq;have hfd:=re (rs p) (c p);refine Tm.bind (Q:=fun b=>b=decide (hh=false\/(rs p).fdiv (c p)<hi)) (aZ (fun h3=>aL ?_) (fun h3=>?_)) ?_
          . have:hh=false:=by simpa using h3
            simp[this]
          . have:hh=true:=by simpa using h3
            refine aU (j8 (by omega) (by omega)) (aL ?_);subst this;simp[og]
          . rintro _ rfl;refine aZ (fun h3=>aL ⟨lo,(rs p).fdiv (c p),hl,true,rfl,dlo,by omega,.inr ⟨hpos,rfl,rfl,rfl,?_⟩⟩) (fun h3=>aL ⟨lo,hi,hl,hh,rfl,dlo,dhi,.inr ⟨hpos,rfl,rfl,?_,?_⟩⟩)
            . rcases of_decide_eq_true h3 with h4|h4
              . exact .inr ⟨h4,rfl⟩
              . cases hh with
                |false=>exact .inr ⟨rfl,rfl⟩
                |true=>exact .inl ⟨rfl,by omega⟩
            . cases hh with
              |false=>exact absurd (decide_eq_true (.inl rfl)) h3
              |true=>rfl
            . cases hh with
              |false=>exact absurd (decide_eq_true (.inl rfl)) h3
              |true=>
                have:¬(rs p).fdiv (c p)<hi:=fun e=>h3 (decide_eq_true (.inr e));exact .inl ⟨rfl,by omega⟩
        . have hneg:c p<0:=by unfold bM at hs;(repeat' split at hs)<;>omega
          refine aU (nX (by omega)) (Tm.bind (qH (a:=rs p) (b:=-c p) (by omega) (by rw[fY];omega)) ?_);rintro⟨q,qr,qo⟩ hq;dsimp only at hq⊢;subst hq;have hfd:=re (rs p) (-c p);refine aU (nX (by omega)) ?_;have hfd2:dl (-((rs p).fdiv (-c p)))<=K+Ku+D+9:=by rw[fY];omega
          refine Tm.bind (Q:=fun b=>b=decide (hl=false\/lo< -((rs p).fdiv (-c p)))) (aZ (fun h3=>aL ?_) (fun h3=>?_)) ?_
          . have:hl=false:=by simpa using h3
            simp[this]
          . have:hl=true:=by simpa using h3
            refine aU (j8 (by omega) (by omega)) (aL ?_);subst this;have e:bM (-((rs p).fdiv (-c p))) lo>0↔lo< -((rs p).fdiv (-c p)):=by unfold bM;(repeat' split)<;>omega
            simp[e]
          . rintro _ rfl;refine aZ (fun h3=>aL ⟨-((rs p).fdiv (-c p)),hi,true,hh,rfl,by omega,dhi,.inl ⟨hneg,rfl,rfl,rfl,?_⟩⟩) (fun h3=>aL ⟨lo,hi,hl,hh,rfl,dlo,dhi,.inl ⟨hneg,rfl,rfl,?_,?_⟩⟩)
            . rcases of_decide_eq_true h3 with h4|h4
              . exact .inr ⟨h4,rfl⟩
              . cases hl with
                |false=>exact .inr ⟨rfl,rfl⟩
                |true=>exact .inl ⟨rfl,by omega⟩
            . cases hl with
              |false=>exact absurd (decide_eq_true (.inl rfl)) h3
              |true=>rfl
            . cases hl with
              |false=>exact absurd (decide_eq_true (.inl rfl)) h3
              |true=>
                have:¬lo< -((rs p).fdiv (-c p)):=fun e=>h3 (decide_eq_true (.inr e));exact .inl ⟨rfl,by omega⟩
      . rintro _ ⟨lo',hi',hl',hh',rfl,d1,d2,hcase⟩;refine aL ⟨hlt,lo',hi',hl',hh',by rw[dT (by have:=he.il;omega)],d1,d2,?_⟩;have happ:∀{P:Nat->Prop},(∀q∈e.items.take k++[p],P q)↔(∀q∈e.items.take k,P q)/\P p:=fun{P}=>by
          simp only[fR,cP];exact⟨fun h=>⟨fun q hq=>h q (.inl hq),h p (.inr rfl)⟩,fun h q hq=>hq.elim (h.1 q) fun e=>e▸h.2⟩
        rcases hcase with⟨hneg,rfl,rfl,rfl,hlo⟩|⟨hpos,rfl,rfl,rfl,hhi⟩
        . refine⟨fun _ z=>?_,fun e=>(by cases e),fun e z=>?_,fun e=>happ.2 ⟨h2 e,by omega⟩⟩
          . rw[happ];have hg:=R9 (a:=rs p) (z:=z) hneg;rcases hlo with⟨g1,g2⟩|⟨g1,g2⟩
            . have:=l1 g1 z;constructor
              . intro g;exact⟨this.1 (by omega),fun _=>hg.1 (by omega)⟩
              . intro g;have:=this.2 g.1;have:=hg.2 (g.2 hneg);omega
            . constructor
              . intro g;exact⟨fun q hq hq0=>absurd hq0 (l2 g1 q hq),fun _=>hg.1 (by omega)⟩
              . intro g;have:=hg.2 (g.2 hneg);omega
          . rw[happ,h1 e z];exact⟨fun g=>⟨g,fun g'=>by omega⟩,fun g=>g.1⟩
        . refine⟨fun e z=>?_,fun e=>happ.2 ⟨l2 e,by omega⟩,fun _ z=>?_,fun e=>(by cases e)⟩
          . rw[happ,l1 e z];exact⟨fun g=>⟨g,fun g'=>by omega⟩,fun g=>g.1⟩
          . rw[happ];have hg:=GL (a:=rs p) (z:=z) hpos;rcases hhi with⟨g1,g2⟩|⟨g1,g2⟩
            . have:=h1 g1 z;constructor
              . intro g;exact⟨this.1 (by omega),fun _=>hg.1 (by omega)⟩
              . intro g;have:=this.2 g.1;have:=hg.2 (g.2 hpos);omega
            . constructor
              . intro g;exact⟨fun q hq hq0=>absurd hq0 (h2 g1 q hq),fun _=>hg.1 (by omega)⟩
              . intro g;have:=hg.2 (g.2 hpos);omega
    . rw[eU (by omega)]at l1 l2 h1 h2;exact⟨lo,hi,hl,hh,rfl,dlo,dhi,l1,l2,h1,h2⟩
  . rintro _ ⟨lo,hi,hl,hh,rfl,dlo,dhi,l1,l2,h1,h2⟩;have hall:∀z,(∀p∈e.items,hx s (ux s (cK (vf y) e.v z)) p)↔(∀p∈e.items,c p<0->c p*z<=rs p)/\∀p∈e.items,0<c p->c p*z<=rs p:=fun z=>by
      constructor
      . exact fun g=>⟨fun p hp _=>(hxr p z).1 (g p hp),fun p hp _=>(hxr p z).1 (g p hp)⟩
      . rintro⟨g1,g2⟩ p hp;have hne:=(he.p p hp).2;rw[hc']at hne;rcases tw hne with g|g
        . exact(hxr p z).2 (g1 p hp g)
        . exact(hxr p z).2 (g2 p hp g)
    dsimp only;refine aZ (fun g=>aL ⟨hi,rfl,dhi,fun _=>(hall hi).2 ⟨fun p hp hp0=>absurd hp0 (l2 (by simpa using g) p hp),?_⟩,fun e=>(by cases e)⟩) (fun g=>?_)
    . cases hh with
      |true=>exact(h1 rfl hi).1 (nk _)
      |false=>exact fun p hp hp0=>absurd hp0 (h2 rfl p hp)
    . have hl1:hl=true:=by simpa using g
      refine aZ (fun g2=>aL ⟨lo,rfl,dlo,fun _=>(hall lo).2 ⟨(l1 hl1 lo).1 (nk _),fun p hp hp0=>absurd hp0 (h2 (by simpa using g2) p hp)⟩,fun e=>(by cases e)⟩) (fun g2=>?_);have hh1:hh=true:=by simpa using g2
      refine aU (j8 (by omega) (by omega)) (aL ⟨lo,rfl,dlo,fun g3=>(hall lo).2 ⟨(l1 hl1 lo).1 (nk _),(h1 hh1 lo).1 (EX.1 (of_decide_eq_true g3))⟩,fun g3=>?_⟩);rintro⟨z,hz⟩;obtain⟨z1,z2⟩:=(hall z).1 hz;have:=(l1 hl1 z).2 z1;have:=(h1 hh1 z).2 z2;exact of_decide_eq_false g3 (EX.2 (by omega))
end
end Go.D
set_option maxHeartbeats 1000000
namespace Go.D
open Go Go.X
section
variable {K Ku:Nat} {s:St}
theorem E7{c:List aB}{k:Nat}{b:aB}(h:idx c (k:Int)=some b)(hk:k<c.length):c.set k b=c:=by
 rw[cU hk]at h;obtain rfl:=iR h;exact List.set_getElem_self hk
theorem Ri(h:j6 K Ku s){D:Nat}{y:List Int}(hyl:y.length=s.n)(hy:∀j,dl (vf y j)<=D)(hD:D<=549755813888):
 Tm (fun N=>qz N s.to (mB y)) (·=mB (vec s.n fun i=>ux s (vf y) i)):=by
 have hL:cY=1099511627776:=rfl;have hK:=h.hK;have n9:=h.n9;have hn:=h.n;unfold qz;refine aN (ik (n:=s.n) rfl (by omega) (by decide)) ?_;rw[<-oy];refine aU (Tm.sr (n:=s.n) (by omega) (fun i=>ux s (vf y) i) (by simp) (fin:=id) ?_ ?_) (aL rfl)
 . intro k hk c hc hi;dsimp only[BD];rw[show vf (List.replicate s.n (0:Int)) k=0 by rw[wL,dH hk]]at hi;refine cL (by rw[dJ,kQ];omega) ?_;obtain⟨r,hr,hrl,hrv⟩:=GS h hk;refine aU (a:=c.set k (B (ux s (vf y) k))) (ei s.n (fun j t=>t=(c.set k (B (bE (mx s.u k) (vf y) j)),(j:Int))) (by show(_,_)=_;rw[show bE (mx s.u k) (vf y) 0=0 from rfl,E7 hi (by omega)];rfl) ?_) (aL rfl);rintro j hj _ rfl;dsimp only[E0];rw[dJ,hyl];refine aZ (fun hlt=>?_) (fun hge=>aL ?_)
   . have hlt:j<s.n:=by omega
     have d1:=h.mx k j;have d2:=hy j;have d3:=sC (f:=mx s.u k) (g:=vf y) (fun j=>h.mx k j) hy j;have d4:=kr (mx s.u k j) (vf y j);have hci:∀b:aB,idx (c.set k b) (k:Int)=some b:=fun b=>kK (by rw[yv (by omega)]);refine aN (hci _) (aN hr (aN (ez (l:=r) (by omega)) (aN (ez (l:=y) (by omega)) ?_)));rw[hrv];refine aU (oc (by omega) (by omega)) (aU (mN (by omega) (by omega)) (aN (hci _) (aN (ee rfl (by rw[iS];omega)) (aL ⟨hlt,?_⟩))));rw[List.set_set,dT (by omega)];rfl
   . have:j=s.n:=by omega
     subst this;rfl
 . intro c hc;dsimp only[BD];exact cC (by rw[dJ,kQ];omega) (aL rfl)
theorem T7{y:List Int}{v:Nat}{z:Int}(hv:v<y.length):vf (y.set v z)=cK (vf y) v z:=by
 funext j;rw[jR hv];unfold cK;by_cases e:v=j
 . rw[if_pos e,if_pos e.symm]
 . rw[if_neg e,if_neg fun h=>e h.symm]
theorem LM{α:Type}{P:Nat->α->Prop}:∀{l:List α},(∀e∈l,∃N0,∀N,N0<=N->P N e)->∃N0,∀N,N0<=N->∀e∈l,P N e
 |[],_=>⟨0,fun _ _ e he=>by cases he⟩
 |a::l,h=>by
  obtain⟨N1,h1⟩:=h a cO;obtain⟨N2,h2⟩:=LM (P:=P) (l:=l) fun e he=>h e (cJ _ he);refine⟨max N1 N2,fun N hN e he=>?_⟩;rcases eb.1 he with rfl|he
  . exact h1 N (by omega)
  . exact h2 N (by omega) e he
theorem LI{y:List Int}{e:AE}{z:Int}(hv:e.v<y.length):dw (mB y) e.to.v (B z)=some (mB (y.set e.v z)):=by
 rw[show e.to.v=(e.v:Int) from rfl,ee (n:=e.v) rfl (by rw[dJ];exact hv),vE]
theorem IW{y:List Int}{v D D':Nat}{z:Int}(hv:v<y.length)(hy:∀j,dl (vf y j)<=D)(hz:dl z<=D')(h:D<=D')(j:Nat):dl (vf (y.set v z) j)<=D':=by
 rw[jR hv];split
 . exact hz
 . exact bO (hy j) h
theorem GK(h:j6 K Ku s)(hE:∀e∈s.stack,py s e):∀(k D:Nat) (y:List Int),y.length=s.n->(∀j,dl (vf y j)<=D)->D+k*(K+Ku+9)<=549755813888->∃N0,∀N,N0<=N->nQ N s.to k (mB y)=true
 |0,D,y,_,_,_=>⟨0,fun _ _=>rfl⟩
 |k+1,D,y,hyl,hy,hD=>by
  rw[gL]at hD;have key:=LM (P:=fun N (e:AE)=>(match nA N s.to e.to (mB y)with|none=>false|some (n,ok)=>if ok then(match dw (mB y) e.to.v n with|none=>false|some y=>nQ N s.to k y)else true)=true) (l:=s.stack) fun e he=>by
   obtain⟨⟨zb,ok⟩,N1,⟨z,hz,hzd,-,-⟩,hN⟩:=JS h (hE e he) hyl hy (by omega);dsimp only at hz;subst hz;have hv:e.v<y.length:=by rw[hyl];exact(hE e he).v
   obtain⟨N2,h2⟩:=GK h hE k (K+Ku+D+9) (y.set e.v z) (by rw[iS];exact hyl) (IW hv hy hzd (by omega)) (by omega);refine⟨max N1 N2,fun N hNN=>?_⟩;rw[show nA N s.to e.to (mB y)=some (B z,ok) from hN N (by omega)];dsimp only;cases ok with
   |false=>rfl
   |true=>
    rw[if_pos rfl,LI hv];exact h2 N (by omega)
  obtain⟨N0,h0⟩:=key;refine⟨N0,fun N hN=>?_⟩;show(s.stack.map AE.to).all _=true;rw[tg];intro x hx;obtain⟨e,he,rfl⟩:=dz.1 hx;exact h0 N hN e he
theorem UM{c:List Int}{v:Nat}{y:Nat->Int}{z:Int}(hv:v<s.n)(h:cu s.u s.n c v=0):bE (vf c) (ux s (cK y v z)) s.n=bE (vf c) (ux s y) s.n:=by
 rw[AJ,AJ,uk hv,h];simp
theorem Py(hI:Inv s)(hi:s.items=[]){k:Nat}{e:AE}(hk:s.stack[k]?=some e){y:Nat->Int}{z:Int}(hy:Hs s y (k+1))(hz:∀p∈e.items,hx s (ux s (cK y e.v z)) p):Hs s (cK y e.v z) k:=by
 obtain⟨h1,h2,h3⟩:=hy;have hm:=ni hk;obtain⟨e1,e2,e3⟩:=hI.sv e hm;have hkl:k<s.stack.length:=(dS.1 hk).1;have hek:s.stack[k]=e:=(dS.1 hk).2;refine⟨fun j hj hst=>?_,fun x hx=>(by rw[hi]at hx;cases hx),fun e' he' p hp=>?_⟩
 . have:j≠e.v:=fun h=>by rw[h,e2]at hst;omega
   unfold cK;rw[if_neg this];exact h1 j hj hst
 . rw[fD hkl,hek]at he';rcases eb.1 he' with rfl|he'
   . exact hz p hp
   . have h4:=h3 e' he' p hp;have h5:cu s.u s.n (aI s.known p).c e.v=0:=by
      have h6:=Nh.1 hI.sd;obtain⟨m,hm',rfl⟩:=nm he';rw[Gk]at hp;rw[vQ]at hm';have:=(h6 k (k+1+m) hkl (by omega) (by omega)).2 p hp;rw[hek]at this;exact this
     unfold hx at h4⊢;rw[UM e1 h5];exact h4
theorem Ky(h:j6 K Ku s)(hI:Inv s)(hi:s.items=[])(hE:∀e∈s.stack,py s e)(hF:∀k e,s.stack[k]?=some e->e.dD=false->∀y,Hs s y (k+1)->∃z,∀p∈e.items,hx s (ux s (cK y e.v z)) p):
 ∀(k D:Nat) (y:List Int),k<=s.stack.length->y.length=s.n->(∀j,dl (vf y j)<=D)->D+k*(K+Ku+9)<=549755813888->Hs s (vf y) k->
  Tm (fun N=>ij N s.to ((s.stack.take k).map AE.to).reverse (mB y)) (fun r=>(∃y':List Int,r=.inl (mB y')/\y'.length=s.n/\(∀j,dl (vf y' j)<=D+k*(K+Ku+9))/\Hs s (vf y') 0)\/∃e∈s.stack,e.dD=true/\r=.inr (e.v:Int))
 |0,D,y,_,hyl,hy,_,hh=>aL (.inl ⟨y,rfl,hyl,fun j=>by have:=hy j;omega,hh⟩)
 |k+1,D,y,hk,hyl,hy,hD,hh=>by
  rw[gL]at hD;have hkl:k<s.stack.length:=hk;obtain⟨e,he⟩:∃e,s.stack[k]?=some e:=⟨_,bV hkl⟩;have hm:=ni he;have hek:s.stack[k]=e:=(dS.1 he).2;have hv:e.v<y.length:=by rw[hyl];exact(hE e hm).v
  have e1:((s.stack.take (k+1)).map AE.to).reverse=e.to::((s.stack.take k).map AE.to).reverse:=by
   rw[<-jh hkl,hek,jg,Nb];rfl
  rw[e1];show Tm (fun N=>(nA N s.to e.to (mB y)).bind _) _;refine Tm.bind (JS h (hE e hm) hyl hy (by omega)) ?_;rintro⟨zb,ok⟩ ⟨z,hz,hzd,g1,g2⟩;dsimp only at hz g1 g2⊢;subst hz;refine aZ (fun h1=>?_) (fun h1=>aL (.inr ⟨e,hm,?_,rfl⟩))
  . refine aN (LI hv) ?_;refine(Ky h hI hi hE hF k (K+Ku+D+9) (y.set e.v z) (by omega) (by rw[iS];exact hyl) (IW hv hy hzd (by omega)) (by omega) ?_).mono ?_
    . rw[T7 hv];exact Py hI hi he hh (g1 h1)
    . rintro r (⟨y',a1,a2,a3,a4⟩|a)
      . exact .inl ⟨y',a1,a2,fun j=>by have:=a3 j;rw[gL];omega,a4⟩
      . exact .inr a
  . cases ht:e.dD with
    |true=>rfl
    |false=>exact absurd (hF k e he ht (vf y) hh) (g2 (by simpa using h1))
theorem E3(hI:Inv s):s.stack.length<=s.n:=by
 have hn:(s.stack.map AE.v).Nodup:=by
  unfold List.Nodup;rw[GG];exact hI.sd.imp fun h=>h.1
 have:=U3 (l₂:=List.range s.n) hn (fun v hv=>by
  obtain⟨e,he,rfl⟩:=dz.1 hv;exact th.2 (hI.sv e he).1)
 simpa using this
abbrev sV:Proof:=Proof.mk [] [] (aB.mk false []) []
theorem UN(h:j6 K Ku s)(hI:Inv s)(hi:s.items=[])(hE:∀e∈s.stack,py s e)(hF:∀k e,s.stack[k]?=some e->e.dD=false->∀y,Hs s y (k+1)->∃z,∀p∈e.items,hx s (ux s (cK y e.v z)) p):
    Tm (fun N=>rk N s.to) (fun r=>(∃x:List Int,r=bX.mk 0 (mB x) sV 0/\x.length=s.n/\(∀v∈x,dl v<=137438953472)/\∃y,Hs s y 0/\∀i,i<s.n->vf x i=ux s y i)\/∃e∈s.stack,e.dD=true/\r=bX.mk 2 [] sV (e.v:Int)):=by
  have hL:cY=1099511627776:=rfl;have hK:=h.hK;have n9:=h.n9;have hn:=h.n;have hst:=E3 hI;unfold rk;refine aN (ik (n:=s.n) rfl (by omega) (by decide)) ?_;rw[<-oy];refine aU (a:=mB (vec s.n fun j=>if vf s.status j=1 then vf s.value j else 0)) ((Tm.sr (n:=s.n) (by omega) (fun j=>if vf s.status j=1 then vf s.value j else 0) (by simp) (fin:=id) ?_ ?_)) ?_
  . intro k hk c hc hi';rw[show vf (List.replicate s.n (0:Int)) k=0 by rw[wL,dH hk]]at hi';dsimp only[By];refine cL (by rw[dJ,kQ];omega) (aU (a:=c.set k (B (if vf s.status k=1 then vf s.value k else 0))) (aN (A2 (l:=s.status) (by rw[hI.fX];exact hk)) (aZ (fun h1=>?_) (fun h1=>aL ?_))) (aL rfl))
    . refine aN (ez (l:=s.value) (by rw[hI.vl];exact hk)) (aN hi' (aN (ee rfl (by omega)) (aL ?_)));rw[if_pos h1]
    . rw[if_neg h1,E7 hi' (by omega)]
  . intro c hc;dsimp only[By];exact cC (by rw[dJ,kQ];omega) (aL rfl)
  generalize hy0:(vec s.n fun j=>if vf s.status j=1 then vf s.value j else 0)=y0;have y0l:y0.length=s.n:=by rw[<-hy0];exact eN
  have y0d:∀j,dl (vf y0 j)<=Ku:=fun j=>by
    rcases cw j s.n with hj|hj
    . rw[<-hy0,dH hj];split
      . exact h.u.v.vf j
      . rw[ir];omega
    . rw[lV (by omega),ir];omega
  have hsl:s.to.stack.length=s.stack.length:=cD ..;have hmul:s.stack.length*(K+Ku+9)<=4*(536870912+17179869184+9):=iu (by omega) (by omega);have hh:Hs s (vf y0) s.stack.length:=⟨fun j hj hs=>by rw[<-hy0,dH hj,if_pos hs],fun x hx=>(by rw[hi]at hx;cases hx),fun e he=>(by rw[Ci]at he;cases he)⟩;obtain⟨N1,hN1⟩:=GK h hE s.stack.length Ku y0 y0l y0d (by omega);have hback:=Ky h hI hi hE hF s.stack.length Ku y0 (bK _) y0l y0d (by omega) hh;rw[tq]at hback;have key:Tm (fun N=>(ij N s.to s.to.stack.reverse (mB y0)).bind fun
      |.inr v=>some (bX.mk 2 [] (Proof.mk [] [] (aB.mk false []) []) v)
      |.inl y=>(qz N s.to y).bind fun x=>some (bX.mk 0 x (Proof.mk [] [] (aB.mk false []) []) 0)) (fun r=>(∃x:List Int,r=bX.mk 0 (mB x) sV 0/\x.length=s.n/\(∀v∈x,dl v<=137438953472)/\∃y,Hs s y 0/\∀i,i<s.n->vf x i=ux s y i)\/∃e∈s.stack,e.dD=true/\r=bX.mk 2 [] sV (e.v:Int)):=by
    refine Tm.bind (show Tm (fun N=>ij N s.to s.to.stack.reverse (mB y0)) _ from hback) ?_;rintro _ (⟨y,rfl,yl,yd,yh⟩|⟨e,he,ht,rfl⟩)
    . dsimp only;refine aU (Ri h yl yd (by omega)) (aL (.inl ⟨_,rfl,eN,fun v hv=>?_,vf y,yh,fun i hi'=>dH hi'⟩));obtain⟨i,hi',rfl⟩:=gE hv;rw[eN]at hi';rw[dH hi'];have:=sC (f:=mx s.u i) (g:=vf y) (fun j=>h.mx i j) yd s.n;show dl (bE _ _ _)<=_;omega
    . exact aL (.inr ⟨e,he,ht,rfl⟩)
  obtain⟨a,N2,ha,hN2⟩:=key;refine⟨a,max N1 N2,ha,fun N hN=>?_⟩;show(if s.to.stack.length<=9223372036854775807/\nQ N s.to s.to.stack.length (mB y0)=true then _ else none)=_;rw[hsl,if_pos ⟨by omega,hN1 N (by omega)⟩];exact hN2 N (by omega)
end
open Go Go.X
def oI(N:Nat)(x:Int)(y:Int)(c:Int)(equal:Bool):Option Constraint:= some (Constraint.mk (Linear.mk c [(gK.mk 0 x),(gK.mk 1 y)]) equal)
def CQ(N:Nat)(l:(List Constraint)):((List Constraint)×Int)->Option (aK ((List Constraint)×Int) (List Constraint))
 |(c,a)=>(if(a:Int)<(List.length l:Int)then (idx l a).bind fun b=>(cM 16 ([]:(List gK)) b.Linear.aT).bind fun d=>(cM 40 c [(Constraint.mk (Linear.mk b.Linear.Const d) b.e9)]).bind fun e=>some (aK.next (e,(iw (a+1)))) else some (aK.done c))
def wU(N:Nat)(l:(List Constraint)):Option (List Constraint):=(bI (CQ N l) N (([]:(List Constraint)),0)).bind fun ss=>match ss with
  |a=>some a
def qG(N:Nat)(n:Int)(l:(List Constraint)):Option (Bool×Bool):=(wU N l).bind fun r1=>(qp N n r1).bind fun r2=>(if r2.2.2=true then (if((List.length r2.1:Int):Int)=n then (vF N l r2.1).bind fun r9=>some (true,r9) else some (true,false)) else (if((List.length r2.1:Int):Int)=0 then (rm N n l r2.2.1).bind fun a=>some (false,a) else some (false,false)))
def uK(N:Nat):Option Bool:=(oI N 3 (-5) (-1) true).bind fun r1=>(oI N 1 0 (-10) false).bind fun r2=>(oI N (-1) 0 3 false).bind fun r3=>(qp N 2 [r1,r2,r3]).bind fun r4=>(Eo N 2 [r1,r2,r3] 0).bind fun r5=>(oI N 4 (-3) 2 false).bind fun r6=>(oI N (-4) 3 (-1) false).bind fun r7=>(qp N 2 [r6,r7]).bind fun r8=>(oI N 2 (-2) (-1) true).bind fun r9=>(qp N 2 [r9]).bind fun a=>(if r4.2.2=true then (if((List.length r4.1:Int):Int)=2 then (idx r4.1 0).bind fun b=>(kS N 7).bind fun c=>(wV N b c).bind fun d=>(if d=true then (idx r4.1 1).bind fun e=>(kS N 4).bind fun f=>(wV N e f).bind fun g=>(if g=true then (if r5.2=true then (kS N 7).bind fun i=>(wV N r5.1 i).bind fun j=>(if j=true then (if(!r8.2.2)=true then (rm N 2 [r6,r7] r8.2.1).bind fun k=>(if k=true then (if(!a.2.2)=true then (oI N 2 (-2) (-1) true).bind fun l=>(rm N 2 [l] a.2.1).bind fun m=>some m else some false) else some false) else some false) else some false) else some false) else some false) else some false) else some false) else some false)
def wa(N:Nat)(vby3:(List Int)):Int->Option (aK Int (Sum Unit Bool))
 |a=>(if(a:Int)<(List.length vby3:Int)then (idx vby3 a).bind fun b=>((((if(b:Int)>1000000 then some true else some (decide ((b:Int)<(-1000000))))):Option Bool)).bind fun ss=>match ss with
    |c=>(if c=true then some (aK.done (Sum.inr true)) else some (aK.next (iw (a+1)))) else some (aK.done (Sum.inl ())))
def EV(N:Nat)(l:(List Constraint))(k:Int):((List Constraint)×(List Constraint)×Int)->Option (aK ((List Constraint)×(List Constraint)×Int) ((List Constraint)×(List Constraint)))
 |(b,c,a)=>(if(a:Int)≥0 then (idx l a).bind fun d=>(idx l a).bind fun e=>(cM 40 b [d,e]).bind fun f=>(idx l a).bind fun g=>(xF N g (iw (1+(Int.tmod (iw k) 4)))).bind fun i=>(cM 40 c [i]).bind fun j=>some (aK.next (f,j,(iw (a-1)))) else some (aK.done (b,c)))
def Au(N:Nat)(n:Int)(l:(List Constraint))(k:Int)(vby3:(List Int)):Option Bool:=((((uK N).bind fun r9=>(if(!r9)=true then some true else (wW N n l 5).bind fun e=>(if(!e)=true then some true else some (decide (((List.length vby3:Int):Int)≠n))))):Option Bool)).bind fun ss=>match ss with
  |x6=>(if x6=true then (uK N).bind fun f=>some f else (bI (wa N vby3) N 0).bind fun ss=>match ss with
     |(Sum.inl _)=>(qG N n l).bind fun a=>(bI (EV N l k) N (([]:(List Constraint)),([]:(List Constraint)),(iw ((List.length l:Int)-1)))).bind fun ss=>match ss with
       |(g,i)=>(qG N n g).bind fun b=>(qG N n i).bind fun c=>(xR N l vby3).bind fun j=>(qG N n j).bind fun d=>(if a.2=true then (if b.2=true then (if c.2=true then (if d.2=true then (if(a.1==b.1)=true then (if(a.1==c.1)=true then some (a.1==d.1) else some false) else some false) else some false) else some false) else some false) else some false)
     |(Sum.inr z)=>some z)
end Go.D
set_option maxRecDepth 1000000
set_option maxHeartbeats 4000000
namespace Go.D
theorem US(N:Nat):uK (N+100)=some true:=by kernel_rfl
open Go Go.X
theorem GM:Tm (fun N=>uK N) (fun r=>r=true):=⟨true,100,rfl,fun N hN=>by rw[show N=(N-100)+100 by omega];exact US _⟩
def DO(l:List Constraint)(n:Int):Prop:=(∀c∈l,fe c n)/\0<=n/\n<=512
theorem T4{n:Int}{l:List Constraint}(hl:l.length<=9223372036854775807)(hc:∀c∈l,c.Linear.aT.length<=9223372036854775807):
 Tm (fun N=>wj N n l) (fun r=>r=true↔DO l n):=by
 unfold wj;refine Tm.bind (Tm.each (body:=fun N=>xk N l n) l (fun c=>fe c n) (Q:=fun r=>(r=.inr false/\¬DO l n)\/(r=.inl ()/\∀c∈l,fe c n)) hl ?_ ?_) ?_
 . intro k hk _;dsimp only[xk];refine cL (by omega) (aN (cU hk) (Tm.bind (C3 (hc _ (cX hk))) fun r hr=>aZ (fun h=>aS (.inr ⟨_,rfl,.inl ⟨rfl,fun ha=>?_⟩⟩)) (fun h=>aS (.inl ⟨rfl,hr.1 (by simpa using h)⟩))));have:=hr.2 (ha.1 _ (cX hk));simp[this]at h
 . intro h;dsimp only[xk];exact cC (by omega) (aS ⟨_,rfl,.inr ⟨rfl,h⟩⟩)
 . rintro _ (⟨rfl,h⟩|⟨rfl,h⟩)
   . exact aS ⟨fun e=>(by cases e),fun e=>absurd e h⟩
   . refine aZ (fun h1=>aS ?_) (fun h1=>aS ?_)
     . simp only[decide_eq_true_eq];exact⟨fun h2=>⟨h,h1,h2⟩,fun h2=>h2.2.2⟩
     . exact⟨fun e=>(by cases e),fun e=>absurd e.2.1 h1⟩
def o6(f:Linear)(x:List aB):Nat->Int
 |0=>f.Const
 |k+1=>o6 f x k+(f.aT.getD k ⟨0,0⟩).N*bv (x.getD (f.aT.getD k ⟨0,0⟩).Var.toNat eP)
def qf(c:Constraint)(x:List aB):Bool:=decide (0<o6 c.Linear x c.Linear.aT.length)||(decide (o6 c.Linear x c.Linear.aT.length<0)&&c.e9)
theorem getDk{l:List gK}{n:Nat}(h:n<l.length):l.getD n ⟨0,0⟩=l[n]:=by rw[cA,bV h];rfl
structure Cq (f:Linear)(x:List aB):Prop where
 len:f.aT.length<=1073741824
 const:fG f.Const
 jw:∀k∈f.aT,fG k.N/\0<=k.Var/\k.Var<x.length
 x:∀b∈x,jE 137438953472 b
theorem CC{a:Int}:bM a 0>0↔0<a:=by unfold bM;(repeat' split)<;>omega
theorem UC{f:Linear}{x:List aB}(h:Cq f x):Tm (fun N=>wI N f x) (fun r=>bA aC r.aP/\r.aP.length<=274877906944/\bv r=o6 f x f.aT.length):=by
 unfold wI;refine Tm.bind (uW h.const.1 h.const.2) ?_;rintro b ⟨hb,hbl⟩;refine Tm.bind (Q:=fun r=>bA aC r.aP/\r.aP.length<=274877906944/\bv r=o6 f x f.aT.length) (ei f.aT.length (fun k s=>s.2=(k:Int)/\bA aC s.1.aP/\s.1.aP.length<=137438953476+k/\bv s.1=o6 f x k) ⟨rfl,hb.dg.bL,by dsimp only;omega,hb.bv⟩ ?_) fun r hr=>aL hr;rintro k hk ⟨s,i⟩ ⟨rfl,h1,h2,h3⟩;dsimp only at h1 h2 h3;dsimp only[Dl];have hL:=h.len;refine aZ (fun hlt=>?_) (fun hge=>aL ?_)
 . have hlt:k<f.aT.length:=by omega
   obtain⟨g1,g2,g3⟩:=h.jw _ (cX hlt);refine aN (cU hlt) (Tm.bind (uW g1.1 g1.2) ?_);rintro e ⟨he,hel⟩;have hv:(f.aT[k].Var).toNat<x.length:=by omega
   obtain⟨x1,x2⟩:=h.x _ (cX hv);refine aN (cU hlt) (aN (gi (n:=(f.aT[k].Var).toNat) (by omega) hv) (Tm.bind (Dp he.dg.bL x1 (by omega) (by omega)) ?_));rintro p ⟨hp,hpl⟩;refine Tm.bind (w8 h1 hp.dg.bL (by omega) (by omega)) ?_;rintro q ⟨hq,hql⟩;refine aL ⟨hlt,dT (by omega),hq.dg.bL,by dsimp only;omega,?_⟩;dsimp only;rw[hq.bv,hp.bv,he.bv,h3,o6,getDk hlt,ta hv]
 . have:k=f.aT.length:=by omega
   subst this;exact⟨h1,by omega,h3⟩
theorem RX{l:List Constraint}{x:List aB}(hl:l.length<=9223372036854775807)(h:∀c∈l,Cq c.Linear x):Tm (fun N=>vF N l x) (·=l.all (fun c=>!qf c x)):=by
 unfold vF;refine aU (Tm.allL (b:=fun N=>wv N l x) l (fun c=>!qf c x) hl ?_ ?_) ?_
 . intro k hk;dsimp only[wv];refine cL (by omega) (aN (cU hk) (Tm.bind (UC (h _ (cX hk))) ?_));rintro r ⟨h1,h2,h3⟩;refine Tm.bind (oh h1 (by omega)) ?_;rintro _ rfl;rw[h3];refine Tm.bind (Q:=(·=qf l[k] x)) (aZ (fun hp=>aL ?_) (fun hp=>aZ (fun hq=>aN (cU hk) (aL ?_)) (fun hq=>aL ?_))) ?_
   . rw[CC]at hp;simp[qf,hp]
   . rw[As]at hq;simp[qf,hq];omega
   . rw[CC]at hp;rw[As]at hq;simp[qf,hp,hq]
   rintro _ rfl;refine aZ (fun h=>aL ?_) (fun h=>aL ?_)
   . simp[h]
   . simp[h]
 . dsimp only[wv];exact cC (by omega) (aL rfl)
 . cases l.all (fun c=>!qf c x)with
   |true=>exact aL rfl
   |false=>exact aL rfl
end Go.D
set_option maxHeartbeats 1000000
namespace Go.D
open Go Go.X
section
variable {K:Nat} {s:St}
structure pG (s:St):Prop where
 n:s.n<=4
 ul:s.u.length=s.n
 fX:s.status.length=s.n
 vl:s.value.length=s.n
 il:s.items.length<=1073741824
 kl:s.known.length<=1073741824
theorem Inv.cp(h:Inv s)(hn:s.n<=4)(hil:s.items.length<=1073741824)(hkl:s.known.length<=1073741824):pG s:=⟨hn,h.ul.1,h.fX,h.vl,hil,hkl⟩
theorem zR(h:pG s):Tm (fun N=>qQ N s.to) (·=s.to):=by
 have:=h.n;have:=h.ul;have:=h.fX;have:=h.vl;have:=h.il;unfold qQ;refine aU (a:=s.to.known) (aL rfl) (aU (a:=s.to.steps) (aL rfl) ?_);refine aU (a:=s.to.u) ?_ (aU (a:=s.to.status) ?_ (aU (a:=s.to.value) (zB (l:=s.value) (by omega)) (aU (a:=s.to.items) ?_ (aU (a:=s.to.stack) (aL rfl) (aL rfl)))))
 . unfold AO;exact aN (dN (by show(_+(s.u.map mB).length)*_<=_;rw[cD];simp only[dM];omega) (by decide)) (aL (jf _))
 . unfold zU;exact aN (dN (by show(_+s.status.length)*_<=_;simp only[dM];omega) (by decide)) (aL (jf _))
 . unfold qI;exact aN (dN (by show(_+(s.items.map AI.to).length)*_<=_;rw[cD];simp only[dM];omega) (by decide)) (aL (jf _))
def cR(s:St)(q:AQ):St:={s with known:=s.known++[q],steps:=[]}
theorem tA{q:AQ}(h:pG s):Tm (fun N=>ng N s.to q.to) (·=(cR s q).to):=by
 have:=h.kl;unfold ng;refine aU (zR h) (aN (dN (by show((s.known.map AQ.to).length+_)*_<=_;simp only[cD,cv,dM];omega) (by decide)) (aL ?_));unfold cR St.to;simp
def rG(l:List AI)(p p':Nat):List AI:=l.map fun x=>if x.pos=p then{x with pos:=p'}else x
theorem Hz{l:List AI}{p p':Nat}(hl:l.length<=1073741824):Tm (fun N=>vg N (mI l) (p:Int) (p':Int)) (·=mI (rG l p p')):=by
 unfold vg;refine aU (a:=mI l) ?_ ?_
 . unfold qI;exact aN (dN (by rw[fh];simp only[dM];omega) (by decide)) (aL (jf _))
 . refine aU (a:=mI (rG l p p')) ((Tm.fill (n:=l.length) (by omega) (c0:=mI l) (fun k=>(if(l.getD k ⟨0,[]⟩).pos=p then({(l.getD k ⟨0,[]⟩)with pos:=p'}:AI)else l.getD k ⟨0,[]⟩).to) (fh l) (fin:=id) ?_ ?_).mono ?_) (aL rfl)
   . intro k hk c hc hi;have e0:(mI l)[k]?=some (l[k]).to:=by unfold mI;rw[gR,bV hk];rfl
     rw[e0]at hi;dsimp only[BE];rw[show l.getD k ⟨0,[]⟩=l[k] by rw[cA,bV hk];rfl];refine cL (by rw[fh];omega) (aN (kK hi) (aZ (fun h=>?_) (fun h=>aL ?_)))
     . have h:((l[k]).pos:Int)=(p:Int):=h;refine aN (kK hi) (aN (ee rfl (by omega)) (aL ?_));rw[if_pos (by omega)];rfl
     . have h:¬((l[k]).pos:Int)=(p:Int):=h;rw[if_neg (by omega)];have:c.set k (l[k]).to=c:=by
        obtain⟨h1,h2⟩:=dS.1 hi;rw[<-h2];exact List.set_getElem_self h1
       rw[this]
   . intro c hc;dsimp only[BE];exact cC (by rw[fh];omega) (aL rfl)
   . intro r hr;rw[hr,id];unfold mI rG;rw[mq];exact xA (f:=fun x:AI=>(if x.pos=p then({x with pos:=p'}:AI)else x).to)
theorem RJ{v:Nat}(hi:iD s.n s.items)(hv:v<s.n)(hne:cz v s.items≠[]\/du v s.items=[]):Tm (fun N=>wy N s.to (v:Int)) (fun r=>∃t,r=B t/\dl t<=cY):=by
 have hL:cY=1099511627776:=rfl;have hlo:=xY (v:=v) hi;have hll:=hlo.1;unfold wy;refine aU (wJ hi hv) ?_;refine Tm.bind (Q:=fun r=>∃t,r=B t/\dl t<=cY) (ei (du v s.items).length (fun k t=>∃c,t=(B c,(k:Int))/\dl c<=20+k) ⟨0,by rw[B0];rfl,by rw[ir];omega⟩ ?_) fun r hr=>aL hr;rintro k hk _ ⟨c,rfl,hc⟩;dsimp only[Ei];rw[fh];refine aZ (fun hlt=>?_) (fun hge=>aL ⟨c,rfl,by omega⟩);have hlt:k<(du v s.items).length:=by omega
 have hm:=cX hlt;have hun:cz v s.items≠[]:=by
  rcases hne with h|h
  . exact h
  . rw[h]at hlt;cases hlt
 have hsd:=yf (low:=(du v s.items)[k]) (oG (v:=v) hi) hun (hlo.vf hm v);refine Tm.bind (Q:=fun r=>∃c,r=B c/\dl c<=20+(k+1)) (aN (oL hlt) (aU (wh (oG (v:=v) hi) hun (hlo.2 _ hm).1 (hlo.vf hm v) hv) (aU (jv (by omega)) (aZ (fun h2=>?_) (fun h2=>aL ⟨c,rfl,by omega⟩))))) ?_
 . have h1:dl 1<=18:=bO jF (by decide);have ha:=oD hsd h1;refine aU (jU (by decide) (by decide)) (aU (mN (by omega) (by omega)) (aU (mN (by omega) (by omega)) (aL ⟨_,rfl,?_⟩)));have:=oD (K:=20+k) hc (show dl (gM v (du v s.items)[k] (cz v s.items)+1)<=20+k by omega);omega
 . rintro _ ⟨c',rfl,hc'⟩;exact aL ⟨hlt,c',by rw[dT (by omega)],hc'⟩
def sL(n:Nat)(g:List Int)(w:Nat):Prop:=w<n/\vf g w≠0/\∀j,j<n->j≠w->vf g j=0
theorem Ml{n:Nat}{x:AI}(hl:x.g.length=n)(hn:n<=512)(hd:∀v∈x.g,dl v<=8):Tm (fun N=>uH N x.to) (fun r=>r.2=true->∃w:Nat,r.1=(w:Int)/\sL n x.g w):=by
 have hL:cY=1099511627776:=rfl;unfold uH;refine Tm.bind (Q:=fun t:Int×Int=>t.2=1->∃w:Nat,t.1=(w:Int)/\sL n x.g w)
  (ei n (fun k t=>t.2.2=(k:Int)/\0<=t.2.1/\t.2.1<=(k:Int)/\(t.2.1=0->∀j,j<k->vf x.g j=0)/\(t.2.1=1->∃w:Nat,t.1=(w:Int)/\w<k/\vf x.g w≠0/\∀j,j<k->j≠w->vf x.g j=0)) ⟨rfl,nk _,nk _,fun _ j hj=>by omega,fun e=>by cases e⟩ ?_) ?_
 . rintro k hk ⟨a,m,i⟩ ⟨rfl,hm0,hmk,h0,h1⟩;dsimp only at hm0 hmk h0 h1;dsimp only[Da];rw[show x.to.g.length=n from(dJ _).trans hl];refine aZ (fun hlt=>?_) (fun hge=>aL ?_)
   . have hlt:k<n:=by omega
     refine aN (ez (l:=x.g) (by omega)) (aU (jv (bO (hd _ (gj (by omega))) (by decide))) (aZ (fun hs=>aL ?_) (fun hs=>aL ?_)))
     . have hs:=pJ.1 hs;have hw:iw (m+1)=m+1:=bH (by omega) (by omega);refine⟨hlt,dT (by omega),by dsimp only;rw[hw];omega,by dsimp only;rw[hw];omega,fun e=>by dsimp only at e;rw[hw]at e;omega,fun e=>⟨k,rfl,by omega,hs,fun j hj hjk=>h0 (by dsimp only at e;rw[hw]at e;omega) j (by omega)⟩⟩
     . have hs:vf x.g k=0:=jL fun e=>hs (pJ.2 e);refine⟨hlt,dT (by omega),hm0,by dsimp only;omega,fun e j hj=>?_,fun e=>?_⟩
       . rcases cw j k with h2|h2
         . exact h0 e j h2
         . obtain rfl:j=k:=by omega
           exact hs
       . obtain⟨w,w1,w2,w3,w4⟩:=h1 e;refine⟨w,w1,by omega,w3,fun j hj hjw=>?_⟩;rcases cw j k with h2|h2
         . exact w4 j h2 hjw
         . obtain rfl:j=k:=by omega
           exact hs
   . have:k=n:=by omega
     subst this;intro e;obtain⟨w,w1,w2,w3,w4⟩:=h1 e;exact⟨w,w1,w2,w3,w4⟩
 . rintro⟨a,m⟩ h;exact aL fun e=>h (of_decide_eq_true e)
def qg(s:St)(c:gQ):Prop:=∃x∈s.items,∃y∈s.items,∃w,w<s.n/\(∀j,j<s.n->vf x.g j=if j=w then 1 else 0)/\(∀j,j<s.n->vf y.g j=if j=w then-1 else 0)/\c=⟨x.to,B (-(aI s.known y.pos).b),B (aI s.known x.pos).b⟩
theorem Ea{n w:Nat}{g:List Int}(hl:g.length=n)(hp:dh g=1)(h:sL n g w):(vf g w).natAbs=1:=by
 have h2:vf g w∣((dh g:Nat):Int):=oA fun v hv=>by
  obtain⟨j,hj,rfl⟩:=gE hv;by_cases e:j=w
  . subst e;exact Int.dvd_refl _
  . rw[h.2.2 j (by omega) e];exact yG _
 rw[hp]at h2;have:=Int.natAbs_dvd_natAbs.2 h2;exact GF this
theorem Pl(hI:Inv s)(hi:iD s.n s.items)(hn:s.n<=512)(hb:∀q∈s.known,fF K q)(hK:K<=1099511627000):Tm (fun N=>wg N s.to) (fun r=>r.2=true->qg s r.1):=by
 have hL:cY=1099511627776:=rfl;have hil:=hi.1;have hmi:s.to.items.length=s.items.length:=cD ..;have hget:∀{k:Nat} (h:k<s.items.length),idx s.to.items (k:Int)=some (s.items[k]).to:=fun{k} h=>by
  show idx (s.items.map AI.to) _=_;rw[cU (by simpa using h),ky]
 have hbd:∀x∈s.items,dl (aI s.known x.pos).b<=K:=fun x hx=>(hb _ (eL (hI.it x hx).1)).2;unfold wg;refine Tm.bind (Q:=fun t:gQ×Bool=>t.2=true->qg s t.1) (ei s.items.length (fun k t=>t.2.2=(k:Int)/\(t.2.1=true->qg s t.1)) ⟨rfl,fun e=>by cases e⟩ ?_) ?_
 . rintro k hk ⟨a,b,i⟩ ⟨rfl,hab⟩;dsimp only at hab;dsimp only[DN];rw[hmi];refine aZ (fun hlt=>?_) (fun hge=>aL hab);have hlt:k<s.items.length:=by omega
   have hxm:=cX hlt;obtain⟨x1,x2⟩:=hi.2 _ hxm;have hgk:=hget hlt;generalize s.items[k]=x at*;refine Tm.bind (Q:=fun t:gQ×Bool=>t.2=true->qg s t.1) (aN hgk (Tm.bind (Ml x1 hn x2) ?_)) (fun t ht=>aL ⟨hlt,dT (by omega),ht⟩);rintro⟨p,ok⟩ hs;dsimp only at hs;refine Tm.bind (Q:=fun c=>c=false->∃w:Nat,p=(w:Int)/\sL s.n x.g w/\0<vf x.g w) (aZ (fun h=>aL fun e=>(by cases e)) (fun h=>?_)) ?_
   . have h:ok=true:=by simpa using h
     obtain⟨w,rfl,hw⟩:=hs h;refine aN (ez (l:=x.g) (by have:=hw.1;omega)) (aU (jv (bO (x2 _ (gj (by have:=hw.1;omega))) (by decide))) (aL fun e=>⟨w,rfl,hw,?_⟩));have h1:¬bM (vf x.g w) 0<0:=of_decide_eq_false e;have h2:=hw.2.1;have:¬vf x.g w<0:=fun e=>h1 (og.2 e);omega
   . rintro c hc;refine aZ (fun h=>aL hab) (fun h=>?_);obtain⟨w,rfl,hw,hw0⟩:=hc (by simpa using h);have hxone:∀j,j<s.n->vf x.g j=if j=w then 1 else 0:=fun j hj=>by
      have:=Ea x1 (hI.gD x hxm) hw;by_cases e:j=w
      . subst e;rw[if_pos rfl];omega
      . rw[if_neg e];exact hw.2.2 j hj e
     refine Tm.bind (Q:=fun t:gQ×Bool=>t.2=true->qg s t.1) (ei s.items.length (fun m t=>t.2.2=(m:Int)/\(t.2.1=true->qg s t.1)) ⟨rfl,hab⟩ ?_) fun t ht=>aL ht;rintro m hm ⟨a,b,i⟩ ⟨rfl,hab⟩;dsimp only at hab;dsimp only[El];rw[hmi];refine aZ (fun hlt2=>?_) (fun hge=>aL hab);have hlt2:m<s.items.length:=by omega
     have hym:=cX hlt2;obtain⟨y1,y2⟩:=hi.2 _ hym;have hgm:=hget hlt2;generalize s.items[m]=y at*;refine Tm.bind (Q:=fun t:gQ×Bool=>t.2=true->qg s t.1) (aN hgm (Tm.bind (Ml y1 hn y2) ?_)) (fun t ht=>aL ⟨hlt2,dT (by omega),ht⟩);rintro⟨p,ok⟩ hs';dsimp only at hs';refine Tm.bind (Q:=fun c=>c=false->sL s.n y.g w/\vf y.g w<0) (aZ (fun h=>aL fun e=>(by cases e)) (fun h=>aZ (fun h2=>aL fun e=>(by cases e)) (fun h2=>?_))) ?_
     . have h:ok=true:=by simpa using h
       obtain⟨w',rfl,hw'⟩:=hs' h;have h2:(w':Int)=(w:Int):=by simpa using h2
       obtain rfl:w'=w:=by omega
       refine aN (ez (l:=y.g) (by have:=hw.1;omega)) (aU (jv (bO (y2 _ (gj (by have:=hw.1;omega))) (by decide))) (aL fun e=>⟨hw',?_⟩));have h1:¬bM (vf y.g w') 0>0:=of_decide_eq_false e;have h2:=hw'.2.1;have:¬0<vf y.g w':=fun e=>h1 (CC.2 e);omega
     . rintro c hc;refine aZ (fun h=>aL hab) (fun h=>?_);obtain⟨hw',hw0'⟩:=hc (by simpa using h);have hyone:∀j,j<s.n->vf y.g j=if j=w then-1 else 0:=fun j hj=>by
        have:=Ea y1 (hI.gD y hym) hw';by_cases e:j=w
        . subst e;rw[if_pos rfl];omega
        . rw[if_neg e];exact hw'.2.2 j hj e
       have b1:=hbd y hym;have b2:=hbd x hxm;have hnew:qg s (gQ.mk x.to (B (-(aI s.known y.pos).b)) (B (aI s.known x.pos).b)):=⟨x,hxm,y,hym,w,hw.1,hxone,hyone,rfl⟩;refine aU (IM (hI.it y hym).1) (aU (nX (by omega)) (aU (IM (hI.it x hxm).1) ?_));refine Tm.bind (Q:=fun _=>True) (aZ (fun h3=>aL trivial) (fun h3=>?_)) fun v _=>aZ (fun h4=>aL fun _=>hnew) (fun h4=>aL hab);have h3:b=true:=by simpa using h3
       obtain⟨x',hx',y',hy',w',-,-,-,rfl⟩:=hab h3;have b3:=hbd y' hy';have b4:=hbd x' hx';have d1:=jX (K:=K) (a:=(aI s.known x.pos).b) (b:=-(aI s.known y.pos).b) b2 (by rw[fY];exact b1);have d2:=jX (K:=K) (a:=(aI s.known x'.pos).b) (b:=-(aI s.known y'.pos).b) b4 (by rw[fY];exact b3);exact aU (l5 (by omega) (by rw[fY];omega)) (aU (l5 (by omega) (by rw[fY];omega)) (aU (j8 (by omega) (by omega)) (aL trivial)))
 . rintro⟨a,b⟩ h;exact aL h
end
end Go.D
set_option maxHeartbeats 1000000
namespace Go.D
open Go Go.X
inductive lH where
 |leaf (st:List AS)
 |node (st:List AS) (f:List Int) (b:Int) (l r:lH)
def lH.to:lH->Proof
 |leaf st=>⟨st.map AS.to,[],⟨false,[]⟩,[]⟩
 |node st f b l r=>⟨st.map AS.to,mB f,B b,[l.to,r.to]⟩
def pe(n:Nat)(kn:List AQ):Prop:=kn.length<=1073741824/\∀q∈kn,fF 536870912 q/\q.c.length=n
inductive Ref (n:Nat):List AQ->lH->Prop where
 |leaf {base:List AQ} {st:List AS} {kn:List AQ} (hD:gV n base st kn) (hk:pe n kn) (q:AQ) (hq:q∈kn) (hz:∀j,j<n->vf q.c j=0) (hb:q.b<0):Ref n base (.leaf st)
 |node {base:List AQ} {st:List AS} {kn:List AQ} {f:List Int} {b:Int} {l r:lH} (hD:gV n base st kn) (hf:f.length=n) (hl:Ref n (kn++[⟨f,b⟩]) l) (hr:Ref n (kn++[⟨bT f,-b-1⟩]) r):Ref n base (.node st f b l r)
theorem pe.sub{n:Nat}{kn e:List AQ}(h:pe n (kn++e)):pe n kn:=⟨by have:=h.1;rw[dd]at this;omega,fun q hq=>h.2 q (Ca _ hq)⟩
theorem gV.pre{n:Nat}{base:List AQ}{st:List AS}{kn:List AQ}(h:gV n base st kn):∃e,kn=base++e/\e.length=st.length:=by
 induction h with
 |nil=>exact⟨[],by simp,rfl⟩
 |snoc h hs ih=>
  obtain⟨e,he,hl⟩:=ih;exact⟨e++[_],by rw[he,je],by simp[hl]⟩
theorem Ref.kok{n:Nat}{base:List AQ}{p:lH}(h:Ref n base p):pe n base:=by
 induction h with
 |leaf hD hk q hq hz hb=>
  obtain⟨e,rfl,_⟩:=hD.pre;exact hk.sub
 |node hD hf hl hr ihl ihr=>
  obtain⟨e,rfl,_⟩:=hD.pre;exact ihl.sub.sub
def lE(n:Nat)(x:Nat->Int)(q:AQ):Prop:=bE (vf q.c) x n<=q.b
theorem Lq{n:Nat}{x:Nat->Int}{kn:List AQ}(hk:∀q∈kn,lE n x q):∀{us:List AU},(∀u∈us,u.ix<kn.length/\0<=u.n)->bE (dX kn us) x n<=gk kn us
 |[],_=>by rw[sX (f:=dX kn []) fun _ _=>rfl];exact nk 0
 |u::us,h=>by
  have h1:=Lq hk (us:=us) fun v hv=>h v (cJ _ hv);obtain⟨h2,h3⟩:=h u cO;have h4:=hk _ (eL h2);have e:bE (dX kn (u::us)) x n=bE (dX kn us) x n+u.n*bE (vf (aI kn u.ix).c) x n:=by
   rw[<-u9];exact eF (fun j _=>by show _+_=_;omega) fun _ _=>rfl
  rw[e];have:=fZ h4 h3;show _<=u.n*(aI kn u.ix).b+gk kn us;omega
theorem PJ{n:Nat}{x:Nat->Int}{kn:List AQ}{s:AS}{q:AQ}(hk:∀q∈kn,lE n x q)(hs:zy n kn s q):lE n x q:=by
 have h1:=Lq hk (us:=s.cG) fun u hu=>⟨(hs.cG u hu).1,(hs.cG u hu).2.1⟩;rw[hs.q];show bE (vf (vec n fun j=>dX kn s.cG j/s.d)) x n<=gk kn s.cG/s.d;have e:bE (dX kn s.cG) x n=s.d*bE (vf (vec n fun j=>dX kn s.cG j/s.d)) x n:=by
  rw[<-rW];refine eF (fun j hj=>?_) fun _ _=>rfl;rw[dH hj,fm,Nd (hs.dvd j hj)]
 rw[e]at h1;exact(Int.le_ediv_iff_mul_le hs.d).2 (by rw[fm];exact h1)
theorem gV.sound{n:Nat}{x:Nat->Int}{base:List AQ}{st:List AS}{kn:List AQ}(h:gV n base st kn)(hb:∀q∈base,lE n x q):∀q∈kn,lE n x q:=by
 induction h with
 |nil=>exact hb
 |snoc h hs ih=>
  intro q hq;rcases fR.1 hq with hq|hq
  . exact ih q hq
  . rw[cP.1 hq];exact PJ ih hs
theorem Lm{f:List Int}{x:Nat->Int}{n:Nat}:bE (vf (bT f)) x n=-bE (vf f) x n:=by
 have:=rW (f:=vf f) (g:=x) (k:=-1) n;rw[eF (f:=vf (bT f)) (f':=fun j=>-1*vf f j) (g:=x) (g':=x) (fun j _=>by rw[iL];omega) fun _ _=>rfl,this];omega
theorem Ref.sound{n:Nat}{base:List AQ}{p:lH}(h:Ref n base p)(x:Nat->Int):¬∀q∈base,lE n x q:=by
 induction h with
 |leaf hD hk q hq hz hb=>
  intro hs;have:=hD.sound hs q hq;unfold lE at this;rw[sX hz]at this;omega
 |node hD hf hl hr ihl ihr=>
  intro hs;have hk:=hD.sound hs;rename_i f b l r;rcases vW (bE (vf f) x n) b with h|h
  . refine ihl fun q hq=>?_;rcases fR.1 hq with hq|hq
    . exact hk q hq
    . rw[cP.1 hq];exact h
  . by_cases e:bE (vf f) x n=b
    . refine ihl fun q hq=>?_;rcases fR.1 hq with hq|hq
      . exact hk q hq
      . rw[cP.1 hq];exact Int.le_of_eq e
    . refine ihr fun q hq=>?_;rcases fR.1 hq with hq|hq
      . exact hk q hq
      . rw[cP.1 hq];show bE (vf (bT f)) x n≤-b-1;rw[Lm];omega
theorem oki{n K:Nat}{q:AQ}(hn:n<=K)(hl:q.c.length=n)(h:fF K q):qd K q.to:=by
 refine⟨by show(mB q.c).length<=_;rw[dJ];omega,fun b hb=>?_,okB h.2⟩;obtain⟨v,hv,rfl⟩:=dz.1 hb;exact okB (h.1 v hv)
theorem getq{l:List AQ}{i:Nat}(h:i<l.length):(l.map AQ.to).getD i kV=(aI l i).to:=by
 rw[cA,gR,bV h,uy h];rfl
theorem AD{l:List Int}{j:Nat}:(mB l).getD j eP=B (vf l j):=by
 rcases cw j l.length with h|h
 . rw[ta (by rw[dJ];exact h),CZ,mz h]
 . rw[lV h,B0,cA,fQ (by rw[dJ];exact h)];rfl
theorem K4{l:List AQ}:∀{us:List AU} {f:Nat->Int} {b:Int},(∀u∈us,u.ix<l.length/\0<=u.n)->mb (l.map AQ.to) (us.map AU.to) (f,b)=some (fun j=>f j+dX l us j,b+gk l us)
 |[],f,b,_=>by
  show some (f,b)=some (fun j=>f j+0,b+0);simp
 |u::us,f,b,h=>by
  obtain⟨h1,h2⟩:=h u cO;show(if mP (l.map AQ.to) u.to then none else mb (l.map AQ.to) (us.map AU.to) (xq (l.map AQ.to) u.to (f,b)))=_;have hb:¬mP (l.map AQ.to) u.to:=by
   unfold mP;show¬((u.ix:Int)<0\/((l.map AQ.to).length:Int)<=(u.ix:Int)\/bv (B u.n)<0);rw[gC,cD];omega
  rw[if_neg hb];have e:xq (l.map AQ.to) u.to (f,b)=(fun j=>f j+u.n*vf (aI l u.ix).c j,b+u.n*(aI l u.ix).b):=by
   unfold xq;rw[show u.to.Index.toNat=u.ix from mn _,getq h1];show((fun j=>f j+bv (B u.n)*bv ((mB (aI l u.ix).c).getD j eP)),b+bv (B u.n)*bv (B (aI l u.ix).b))=_;rw[gC,gC];congr 1;funext j;rw[AD,gC]
  rw[e,K4 fun v hv=>h v (cJ _ hv)];congr 2
  . funext j;show _=f j+(_+_);omega
  . show _=b+(_+_);omega
theorem Iv{n:Nat}{f:Nat->Int}:iO n (mB (vec n f)) f:=⟨by rw[dJ,eN],fun j hj=>by rw[AD,dH hj];exact nh _⟩
theorem C2{n:Nat}{l:List AQ}(hl:l≠[])(h:∀q∈l,q.c.length=n):nV (l.map AQ.to)=n/\lW (l.map AQ.to):=by
 have h0:nV (l.map AQ.to)=n:=by
  unfold nV;rw[getq (qV.2 hl)];show(mB _).length=n;rw[dJ];exact h _ (eL (qV.2 hl))
 refine⟨h0,fun q hq=>?_⟩;obtain⟨a,ha,rfl⟩:=dz.1 hq;rw[h0];show(mB _).length=n;rw[dJ];exact h a ha
theorem TQ{n:Nat}{l:List AQ}{s:AS}{q:AQ}(hl:l≠[])(h:∀q∈l,q.c.length=n)(hs:zy n l s q):mM (l.map AQ.to) s.to (q.to,true):=by
 obtain⟨h1,h2⟩:=C2 hl h;unfold mM;have hd:bv s.to.gh=s.d:=gC _;rw[hd,if_pos ⟨h2,hs.d⟩,show s.to.Uses=s.cG.map AU.to from rfl,K4 fun u hu=>⟨(hs.cG u hu).1,(hs.cG u hu).2.1⟩];dsimp only;rw[h1,if_pos (fun j hj=>by rw[Cg];exact Int.emod_eq_zero_of_dvd (hs.dvd j hj)),hs.q];refine⟨rfl,?_,?_⟩
 . have:(fun j=>(0+dX l s.cG j)/s.d)=fun j=>dX l s.cG j/s.d:=by funext j;rw[Cg]
   rw[this];exact Iv
 . rw[Cg];exact nh _
theorem gV.nth{n:Nat}{base:List AQ}{st:List AS}{kn:List AQ}(h:gV n base st kn):∀k (hk:k<st.length),zy n (kn.take (base.length+k)) st[k] (aI kn (base.length+k)):=by
 induction h with
 |nil=>intro k hk;cases hk
 |snoc h hs ih=>
  rename_i ss l s q;obtain⟨e,he,hel⟩:=h.pre;have hll:l.length=base.length+ss.length:=by rw[he];simp[hel]
  intro k hk;rw[dd,ku]at hk;rcases cw k ss.length with h1|h1
  . have:=ih k h1;rw[M1 h1,iQ (by omega),qU (by omega)];exact this
  . obtain rfl:k=ss.length:=by omega
    rw[List.getElem_concat_length rfl,<-hll,oT,qU (bK _),tq];exact hs
theorem iO.snoc{n:Nat}{c:List aB}{f:Nat->Int}{y:aB}(h:iO n c f)(hy:Is y (f n)):iO (n+1) (c++[y]) f:=by
 refine⟨by simp[h.1],fun j hj=>?_⟩;rcases cw j n with h1|h1
 . have:=h.2 j h1;rwa[cA,jZ (by rw[h.1];exact h1),<-cA]
 . obtain rfl:j=n:=by omega
   rw[cA,ou (by rw[h.1];exact bK _),h.1];simpa using hy
theorem P7{K:Nat}{q:bB}{b:aB}(hK:K<=1073741824)(hl:q.aT.length<=K)(hlb:∀x∈q.aT,jE K x)(hb:bA aC b.aP)(hbl:b.aP.length<=1099511627776):
 Tm (fun N=>pS N q b) (fun r=>iO q.aT.length r.aT (fun j=>-bv (q.aT.getD j eP))/\Is r.dA (bv b)):=by
 unfold pS;refine Tm.bind (HQ hb (by omega)) ?_;rintro b' ⟨hb',hbl⟩;refine Tm.bind (Q:=fun c:List aB=>iO q.aT.length c (fun j=>-bv (q.aT.getD j eP)))
  (Tm.loop (fun t:List aB×Int=>∃k:Nat,t.2=k/\k<=q.aT.length/\iO k t.1 (fun j=>-bv (q.aT.getD j eP))) (fun t=>q.aT.length-t.2.toNat)
   ⟨0,rfl,fE _,⟨rfl,fun j hj=>absurd hj (by omega)⟩⟩ ?_) ?_
 . rintro⟨c,kk⟩ ⟨k,rfl,hk,hc⟩;dsimp only[zq]at*;have hcl:=hc.1;refine aZ (fun h=>?_) (fun h=>aS ?_)
   . refine aN (tJ rfl (by omega)) ?_;have hx:=hlb _ (Kq (l:=q.aT) (n:=k) (by omega));refine Tm.bind (yt hx.1 (by have:=hx.2;omega)) ?_;rintro y ⟨hy,hyl⟩;refine aN (dN (by simp only[cv,dM];omega) (by decide)) (aS ⟨⟨k+1,by show iw ((k:Int)+1)=_;rw[bH]<;>omega,by omega,hc.snoc hy⟩,?_⟩);show q.aT.length-(iw ((k:Int)+1)).toNat<q.aT.length-((k:Int)).toNat;rw[bH]<;>omega
   . obtain rfl:k=q.aT.length:=by omega
     exact hc
 . intro c hc;exact aS ⟨hc,hb'⟩
theorem Hu{kn:List AQ}{q:AQ}:(kn++[q]).map AQ.to=kn.map AQ.to++[q.to]:=by rw[jg];rfl
theorem O2{n:Nat}(hn:n<=512){base:List AQ}{p:lH}(h:Ref n base p)(hb0:base≠[]):Tm (fun N=>rP N (base.map AQ.to) p.to) (·=true):=by
  have steps:∀{base:List AQ} {st:List AS} {kn:List AQ} {P:Proof},base≠[]->gV n base st kn->pe n kn->P.Steps=st.map AS.to->
      Tm (fun N=>bI (zn N P) N (base.map AQ.to,0)) (·=.inl (kn.map AQ.to)):=by
    intro base st kn P hb0 hD hk hP;obtain⟨e,rfl,hel⟩:=hD.pre;have hkl:=hk.1;rw[dd]at hkl;refine ei st.length (fun k t=>t=(((base++e).take (base.length+k)).map AQ.to,(k:Int))) (by rw[pO,qU (bK _),tq];rfl) ?_;rintro k hkk _ rfl;dsimp only[zn];rw[hP,cD];refine aZ (fun hlt=>?_) (fun hge=>aL ?_)
    . have hlt:k<st.length:=by omega
      have hs:=hD.nth k hlt;have hne:(base++e).take (base.length+k)≠[]:=by
        have:=qV.2 hb0;intro e';have:=congrArg List.length e';rw[eQ,dd,dM]at this;omega
      have hsub:∀q∈(base++e).take (base.length+k),fF 536870912 q/\q.c.length=n:=fun q hq=>hk.2 q (tk hq);refine aN (cU (by rw[cD];exact hlt)) ?_;rw[ky];refine aU (a:=((aI (base++e) (base.length+k)).to,true)) ((Rv (K:=536870912) (bK _) (by rw[cD,eQ,dd];omega) (fun q hq=>?_) ⟨?_,fun u hu=>?_,okB hs.dl⟩).mono fun r hr=>hr.uniq (TQ hne (fun q hq=>(hsub q hq).2) hs)) ?_
      . obtain⟨a,ha,rfl⟩:=dz.1 hq;exact oki (by omega) (hsub a ha).2 (hsub a ha).1
      . show(List.map AU.to _).length<=_;rw[cD];have:=hs.len;omega
      . obtain⟨a,ha,rfl⟩:=dz.1 (show u∈(st[k]).cG.map AU.to from hu);exact okB (hs.cG a ha).2.2
      . refine cC (by simp) (aN (dN (by rw[cD,eQ,dd,ku];omega) (by decide)) (aL ⟨hlt,?_⟩));have hlt2:base.length+k<(base++e).length:=by rw[dd];omega
        rw[dT (by omega),show base.length+(k+1)=(base.length+k)+1 by omega,<-jh hlt2,uy hlt2,Hu]
    . have:k=st.length:=by omega
      subst this;rw[eU (by rw[dd];omega)]
  have copy:∀{l:List AQ},l.length<=1073741824->cM 56 ([]:List bB) (l.map AQ.to)=some (l.map AQ.to):=fun{l} hl=>by
    rw[dN (by rw[cD];simp only[dM];omega) (by decide)];rfl
  induction h with
  |leaf hD hk q hq hz hb=>
    rename_i base st kn;obtain⟨e,hke,hel⟩:=hD.pre;have hbk:pe n base:=by rw[hke]at hk;exact hk.sub
    refine Tm.succ ?_;show Tm (fun N=>so N (rP N) _ _) _;unfold so;refine Tm.bind (Ep (by rw[cD];have:=hbk.1;omega)) ?_;rintro _ rfl;refine cC (by simp[(C2 hb0 fun q hq=>(hbk.2 q hq).2).2]) (aN (copy hbk.1) (aU (steps hb0 hD hk rfl) ?_));dsimp only;refine cL rfl ?_;refine Tm.bind (Q:=(·=.inr true)) (ei kn.length (fun k t=>t=(k:Int)/\∀j,j<k->xI (aI kn j).to=false) ⟨rfl,fun j hj=>by omega⟩ ?_) ?_
    . rintro k hkk _ ⟨rfl,hj⟩;dsimp only[C1];rw[cD];refine aZ (fun hlt=>?_) (fun hge=>aL ?_)
      . have hlt:k<kn.length:=by omega
        have hqk:=hk.2 _ (eL hlt);refine aN (nN hlt) (aU (SK (K:=536870912) (by decide) (oki (by omega) hqk.2 hqk.1)) (aZ (fun h=>aL rfl) (fun h=>aL ⟨hlt,dT (by have:=hk.1;omega),fun j hjk=>?_⟩)));rcases cw j k with h1|h1
        . exact hj j h1
        . obtain rfl:j=k:=by omega
          simpa using h
      . have hkl:k=kn.length:=by omega
        subst hkl;obtain⟨j,hjl,rfl⟩:=nm hq;have:=hj j hjl;rw[uy hjl]at this;have h2:xI (kn[j]).to=true:=by
          unfold xI;refine decide_eq_true ⟨fun b hb'=>?_,?_⟩
          . obtain⟨v,hv,rfl⟩:=dz.1 (show b∈(kn[j]).c.map B from hb');rw[gC];obtain⟨m,hm,rfl⟩:=gE hv;exact hz m (by have:=(hk.2 _ (cX hjl)).2;omega)
          . show bv (B _)<0;rw[gC];exact hb
        rw[h2]at this;cases this
    . rintro _ rfl;exact aL rfl
  |node hD hf hl hr ihl ihr=>
    rename_i base st kn f b l r;have hkl:=hl.kok;have hkr:=hr.kok;have hk:pe n kn:=hkl.sub;obtain⟨e,hke,hel⟩:=hD.pre;have hbk:pe n base:=by rw[hke]at hk;exact hk.sub
    have hkn0:kn≠[]:=by rw[hke];intro e';exact hb0 (F8.1 e').1
    have hqf:fF 536870912 ⟨f,b⟩:=(hkl.2 _ (vR _ (cP.2 rfl))).1;have hkl1:=hkl.1;rw[dd,ku]at hkl1;refine Tm.succ ?_;show Tm (fun N=>so N (rP N) _ _) _;unfold so;refine Tm.bind (Ep (by rw[cD];have:=hbk.1;omega)) ?_;rintro _ rfl;refine cC (by simp[(C2 hb0 fun q hq=>(hbk.2 q hq).2).2]) (aN (copy hbk.1) (aU (steps hb0 hD hk rfl) ?_));dsimp only;refine cC (by show¬((2:Nat):Int)=0;omega) ?_;refine aU (a:=false) (cC (by show¬((2:Nat):Int)≠2;omega) (cL (by rw[cD];have:=qV.2 hkn0;omega) (aN (nN (i:=0) (qV.2 hkn0)) (aL ?_)))) ?_
    . refine decide_eq_false ?_;show¬(((mB f).length:Int)≠((mB (aI kn 0).c).length:Int));rw[dJ,dJ,hf,(hk.2 _ (eL (qV.2 hkn0))).2];omega
    refine cC (by simp) ?_;have hb2:=hqf.2;refine Tm.bind (yt (x:=B b) (bL b) (show dl b<=_ by have:dl b<=536870912:=hb2;omega)) ?_;rintro nb ⟨hnb,hnbl⟩;refine Tm.bind (uW (n:=1) (by decide) (by decide)) ?_;rintro one ⟨h1,h1l⟩;have hnbl:nb.aP.length<=dl b:=hnbl;have hb3:dl b<=536870912:=hb2;refine Tm.bind (KG hnb.dg.bL h1.dg.bL (by omega) (by omega)) ?_;rintro i ⟨hi,hil⟩;rw[hnb.bv,h1.bv,gC]at hi;refine aU (a:=(⟨bT f,-b-1⟩:AQ).to) ((P7 (K:=536870912) (q:=bB.mk (mB f) (B b)) (b:=i) (by decide) (by show(mB f).length<=_;rw[dJ];omega) (fun x hx=>?_) hi.dg.bL (by omega)).mono fun r hr=>?_) ?_
    . obtain⟨v,hv,rfl⟩:=dz.1 (show x∈f.map B from hx);exact okB (hqf.1 v hv)
    . obtain⟨g1,g2⟩:=hr;rw[hi.bv]at g2;have e1:r.aT=mB (bT f):=by
        refine iO.uniq (n:=n) (f:=fun j=>-vf f j) ?_ ?_
        . refine⟨g1.1.trans ((dJ f).trans hf),fun j hj=>?_⟩;have:=g1.2 j (by show j<(mB f).length;rw[dJ];omega);dsimp only at this;rw[AD,gC]at this;exact this
        . have:iO n (mB (vec n fun j=>-vf f j)) (fun j=>-vf f j):=Iv;unfold bT;rw[hf];exact this
      have e2:r.dA=B (-b-1):=p8 g2;cases r;dsimp only at e1 e2;subst e1;subst e2;rfl
    refine aN (copy hk.1) (aN (dN (by rw[cD,ku];omega) (by decide)) (aN (copy hk.1) (aN (dN (by rw[cD,ku];omega) (by decide)) (aN (a:=l.to) rfl ?_))));have el:=ihl (by simp);have er:=ihr (by simp);rw[Hu]at el er;refine aU el (cL rfl (aN (a:=r.to) rfl (aU er (aL rfl))))
end Go.D
set_option maxHeartbeats 1000000
namespace Go.D
open Go Go.X
def cB:Nat->Nat
 |0=>1
 |1=>1
 |2=>400000000
 |3=>10000
 |_=>50
def iB:Nat->Nat
 |0=>0
 |1=>2
 |2=>23870
 |3=>306
 |_=>32
def uB:Nat->Nat
 |0=>14937233000
 |1=>14937232900
 |2=>537232800
 |3=>536872800
 |_=>536870912
def lB:Nat->Nat
 |0=>10
 |1=>400
 |2=>542600000
 |3=>542700000
 |_=>542800000
def dB:Nat->Nat
 |0=>10
 |1=>1000
 |2=>400200000
 |3=>400300000
 |_=>400400000
theorem lev{f:Nat}(h:f+1<=4):f=0\/f=1\/f=2\/f=3:=by omega
theorem lR(f:Nat):cB f<=400000000/\1<=cB f:=by
 match f with
 |0=>decide
 |1=>decide
 |2=>decide
 |3=>decide
 |f+4=>exact⟨show 50<=_ by omega,show 1<=50 by omega⟩
theorem nU(f:Nat):iB f<=23870:=by
 match f with
 |0=>decide
 |1=>decide
 |2=>decide
 |3=>decide
 |f+4=>exact show 32<=_ by omega
theorem zG(f:Nat):536870912<=uB f/\uB f<=14937233000:=by
 match f with
 |0=>decide
 |1=>decide
 |2=>decide
 |3=>decide
 |f+4=>exact⟨show 536870912<=536870912 by omega,show 536870912<=_ by omega⟩
theorem HM{u w m:Nat}(h:u+w<=m):4*(u*w)<=m*m:=by
 have h1:=iu h h;rcases Nat.le_total u w with h2|h2
 . obtain⟨d,rfl⟩:=MP h2;have:(u+(u+d))*(u+(u+d))=4*(u*(u+d))+d*d:=by grind
   omega
 . obtain⟨d,rfl⟩:=MP h2;have:(w+d+w)*(w+d+w)=4*((w+d)*w)+d*d:=by grind
   omega
theorem wo{v:Nat}:∀l:List AI,(cz v l).length+(du v l).length+(l.filter fun x=>!decide (vf x.g v≠0)).length=l.length
 |[]=>rfl
 |x::l=>by
  have:=wo (v:=v) l;rcases tv (vf x.g v) 0 with h|h|h
  . have e1:cz v (x::l)=cz v l:=by unfold cz;rw[yI];simp;omega
    have e2:du v (x::l)=x::du v l:=by unfold du;rw[Nj];simp[h]
    rw[e1,e2,yI (by simp;omega),cv,cv];omega
  . have e1:cz v (x::l)=cz v l:=by unfold cz;rw[yI];simp;omega
    have e2:du v (x::l)=du v l:=by unfold du;rw[yI];simp;omega
    rw[e1,e2,Nj (by simp[h]),cv,cv];omega
  . have e1:cz v (x::l)=x::cz v l:=by unfold cz;rw[Nj];simp[h]
    have e2:du v (x::l)=du v l:=by unfold du;rw[yI];simp;omega
    rw[e1,e2,yI (by simp;omega),cv,cv];omega
def ia(p:Nat->Bool):Nat->Nat
 |0=>0
 |n+1=>ia p n+if p n then 1 else 0
theorem KN{p q:Nat->Bool}:∀{n:Nat},(∀j,j<n->p j=q j)->ia p n=ia q n
 |0,_=>rfl
 |n+1,h=>by simp only[ia];rw[KN (n:=n) fun j hj=>h j (by omega),h n (by omega)]
theorem Ma{p q:Nat->Bool}{v:Nat}:∀{n:Nat},v<n->p v=true->q v=false->(∀j,j<n->j≠v->q j=p j)->ia q n+1=ia p n
 |n+1,hv,h1,h2,h=>by
  simp only[ia];by_cases e:n=v
  . subst e;rw[KN (p:=q) (q:=p) (n:=n) fun j hj=>h j (by omega) (by omega),h1,h2];simp
  . rw[h n (by omega) e];have:=Ma (n:=n) (by omega) h1 h2 fun j hj hjv=>h j (by omega) hjv;omega
theorem Az{p:Nat->Bool}{i:Nat}:∀{n:Nat},i<n->p i=true->1<=ia p n
 |n+1,hi,h=>by
  simp only[ia];by_cases e:n=i
  . subst e;rw[h];simp
  . have:=Az (n:=n) (by omega) h;omega
theorem CD{p:Nat->Bool}{i j:Nat}:∀{n:Nat},ia p n<=1->i<n->j<n->p i=true->p j=true->i=j
 |n+1,hc,hi,hj,h1,h2=>by
  simp only[ia]at hc;by_cases e1:n=i
  . subst e1;by_cases e2:n=j
    . exact e2
    . rw[h1,if_pos rfl]at hc;have:=Az (n:=n) (by omega) h2;omega
  . by_cases e2:n=j
    . subst e2;rw[h2,if_pos rfl]at hc;have:=Az (n:=n) (by omega) h1;omega
    . exact CD (n:=n) (by omega) (by omega) (by omega) h1 h2
def ie(s:St):Nat:=ia (fun j=>decide (vf s.status j=0)) s.n
theorem L3{s s':St}{v:Nat}{c:Int}(hn:s'.n=s.n)(hv:v<s.n)(h0:vf s.status v=0)(hc:c≠0)(h:∀j,vf s'.status j=if v=j then c else vf s.status j):ie s'+1=ie s:=by
 unfold ie;rw[hn];refine Ma hv (by simp[h0]) (by rw[h,if_pos rfl];simp[hc]) fun j hj hjv=>?_;rw[h,if_neg fun e=>hjv e.symm]
theorem yg{s:St}(hI:Inv s){x:AI}(hx:x∈s.items):∃w,w<s.n/\vf x.g w≠0/\vf s.status w=0:=by
 refine jL fun h=>?_;have h1:=hI.gD x hx;have h2:(2:Int)∣((dh x.g:Nat):Int):=oA fun v hv=>by
  obtain⟨j,hj,rfl⟩:=gE hv;have hj:j<s.n:=by rw[(hI.it x hx).2]at hj;exact hj
  have:vf x.g j=0:=jL fun e=>h ⟨j,hj,e,jL fun e2=>e (hI.nf x hx j hj e2)⟩;rw[this];exact yG 2
 rw[h1]at h2;omega
theorem KK{s:St}(hI:Inv s)(hf:ie s<=1){x:AI}(hx:x∈s.items):∃w,sL s.n x.g w/\vf s.status w=0/\(vf x.g w).natAbs=1:=by
 obtain⟨w,hw,hw0,hws⟩:=yg hI hx;have hS:sL s.n x.g w:=⟨hw,hw0,fun j hj hjw=>jL fun e=>by
  have hjs:vf s.status j=0:=jL fun e2=>e (hI.nf x hx j hj e2);exact hjw (CD hf hj hw (by simp[hjs]) (by simp[hws]))⟩
 exact⟨w,hS,hws,Ea (hI.it x hx).2 (hI.gD x hx) hS⟩
theorem Bn{s:St}(hI:Inv s)(hf:ie s<=1):∀x∈s.items,∀j,j<s.n->(vf x.g j).natAbs<=1:=by
 intro x hx j hj;obtain⟨w,h1,_,h3⟩:=KK hI hf hx;by_cases e:j=w
 . subst e;omega
 . rw[h1.2.2 j hj e];simp
theorem JY{s:St}(hI:Inv s)(hf:ie s<=1):s.items.length<=2:=by
 by_cases h0:∃w,w<s.n/\vf s.status w=0
 . obtain⟨w,hw,hws⟩:=h0;have hnd:(s.items.map AI.g).Nodup:=by unfold List.Nodup;rw[GG];exact hI.kh
   have:=U3 (l₂:=[vec s.n fun j=>if j=w then 1 else 0,vec s.n fun j=>if j=w then-1 else 0]) hnd (fun g hg=>by
    obtain⟨x,hx,rfl⟩:=dz.1 hg;obtain⟨w',h1,h2,h3⟩:=KK hI hf hx;obtain rfl:w'=w:=CD hf h1.1 hw (by simp[h2]) (by simp[hws]);have hxl:=(hI.it x hx).2;have key:∀c:Int,vf x.g w'=c->x.g=vec s.n fun j=>if j=w' then c else 0:=fun c hc=>lr (by rw[hxl,eN]) fun j hj=>by
     rw[dH (by omega)];by_cases e:j=w'
     . subst e;rw[if_pos rfl,hc]
     . rw[if_neg e];exact h1.2.2 j (by omega) e
    rcases Int.natAbs_eq_iff.1 (show(vf x.g w').natAbs=(1:Nat) from h3)with h4|h4
    . rw[key 1 h4];simp
    . rw[key (-1) h4];simp)
   simpa using this
 . cases hi:s.items with
   |nil=>simp
   |cons x l=>
    obtain⟨w,h1,_,h3⟩:=yg hI (x:=x) (by rw[hi];simp);exact absurd ⟨w,h1,h3⟩ h0
theorem Dr{s:St}(hI:Inv s)(hf:ie s=0):s.items=[]:=by
 cases hi:s.items with
 |nil=>rfl
 |cons x l=>
  obtain⟨w,h1,_,h3⟩:=yg hI (x:=x) (by rw[hi];simp);have:=Az (p:=fun j=>decide (vf s.status j=0)) h1 (by simp[h3]);unfold ie at hf;omega
structure Good (sys base:List AQ)(f K:Nat)(s:St):Prop where
 inv:Inv s
 rf:RF sys s
 n:s.n<=4
 fr:ie s<=f
 co:∀x∈s.items,∀j,j<s.n->(vf x.g j).natAbs<=cB f
 q:∀q∈s.known,fF K q
 su:SU (uB f) s
 st:∀e∈s.stack,py s e
 jo:gV s.n base s.steps s.known
section
variable {sys base:List AQ} {f K:Nat} {s:St}
theorem w6{n C:Nat}{x:AI}(hl:x.g.length=n)(h:∀j,j<n->(vf x.g j).natAbs<=C)(hC:C<=4294967295):∀v∈x.g,dl v<=1:=fun v hv=>by
 obtain⟨j,hj,rfl⟩:=gE hv;exact j9 (by have:=h j (by omega);omega)
theorem Good.mT(h:Good sys base f K s){K':Nat}(hK:K<=K')(hK':K'<=1099511627000)(hkl:s.known.length<=1073741824)(hil:s.items.length<=1073741824):gr K' s:=by
 obtain⟨e,he,hel⟩:=h.jo.pre;refine⟨by have:=h.n;omega,hkl,by rw[he,dd]at hkl;omega,hil,fun q hq=>⟨(h.q q hq).mono hK,h.inv.kl q hq⟩,fun x hx=>?_,hK'⟩;obtain⟨x1,x2⟩:=h.inv.it x hx;exact⟨x1,x2,fun v hv=>bO (w6 x2 (h.co x hx) (by have:=lR f;omega) v hv) (by decide)⟩
theorem Good.steps(h:Good sys base f K s):s.steps.length<=s.known.length:=by
 obtain⟨e,he,hel⟩:=h.jo.pre;rw[he,dd];omega
theorem Good.zK(h:Good sys base f K s)(hil:s.items.length<=1073741824):iD s.n s.items:=⟨hil,fun x hx=>by
 obtain⟨x1,x2⟩:=h.inv.it x hx;exact⟨x2,fun v hv=>bO (w6 x2 (h.co x hx) (by have:=lR f;omega) v hv) (by decide)⟩⟩
theorem tz{Kk K:Nat}:∀(L:List Act) (s:St),gr K s->jk L.length s->(∀a∈L,lJ Kk s a)->Kk+6<=K->gr K (bU s L).2
 |[],s,hs,_,_,_=>hs
 |.add x::r,s,hs,hr,hA,hK=>by
  obtain⟨h1,h2⟩:=Kl (m:=r.length) hs (hA _ cO) hr;exact tz r _ h1 h2 (fun a ha=>(hA a (cJ _ ha)).app rfl (e:=[]) (by simp[add])) hK
 |.put g us::r,s,hs,hr,hA,hK=>by
  have hp:gF Kk s g us:=hA _ cO;obtain⟨h1,h2⟩:=Jp (m:=r.length) hs hp hK hr;obtain⟨e,he,_⟩:=Bd s g us;have e1:bU s (.put g us::r)=if(put s g us).1=true then bU (put s g us).2 r else(false,(put s g us).2):=rfl;rw[e1];split
  . exact tz r _ h1 h2 (fun a ha=>(hA a (cJ _ ha)).app (zH s g us) he) hK
  . exact h1
theorem py.kept{s s':St}{e:AE}(h:py s e)(k:Kept s s'):py s' e:=by
 obtain⟨x,hx⟩:=k.kn;exact⟨h.il,by rw[k.n];exact h.v,fun p hp=>⟨by rw[hx,dd];have:=(h.p p hp).1;omega,by rw[k.u,k.n,hx,iQ (h.p p hp).1];exact(h.p p hp).2⟩⟩
theorem SU.mono{K K':Nat}{s:St}(h:SU K s)(hK:K<=K'):SU K' s:=⟨⟨h.u.1,fun r hr=>⟨(h.u.2 r hr).1,fun v hv=>bO ((h.u.2 r hr).2 v hv) hK⟩⟩,h.st,⟨h.v.1,fun v hv=>bO (h.v.2 v hv) hK⟩⟩
theorem An(hI:Inv s){n:Nat}(hn:s.n=n)(hD:gV n base s.steps s.known)(hkl:s.known.length<=1073741824)(hq:∀q∈s.known,fF 536870912 q)(hb:∃q∈s.known,(∀j,j<n->vf q.c j=0)/\q.b<0):Ref n base (.leaf s.steps):=by
 obtain⟨q,h1,h2,h3⟩:=hb;exact .leaf hD ⟨hkl,fun q hq'=>⟨hq q hq',by rw[hI.kl q hq',hn]⟩⟩ q h1 h2 h3
theorem Mf{f M:Nat}(hf:f+1<=4)(hI:Inv s)(hfr:ie s<=f)(hM:M=4*(cB (f+1)*cB (f+1)))(h:∀z∈s.items,GB M z.g):∀x∈s.items,∀j,j<s.n->(vf x.g j).natAbs<=cB f:=by
 intro x hx j hj;have h1:(vf x.g j).natAbs<=M:=h x hx _ (gj (by rw[(hI.it x hx).2];exact hj));rcases lev hf with rfl|rfl|rfl|rfl
 . exact Bn hI (by omega) x hx j hj
 . exact Bn hI (by omega) x hx j hj
 . exact bO h1 (by rw[hM];decide)
 . exact bO h1 (by rw[hM];decide)
theorem JB{f m:Nat}(hf:f+1<=4)(hI:Inv s)(hfr:ie s<=f)(hm:m<=iB (f+1)+1)(h:s.items.length<=m+m*m/4):s.items.length<=iB f:=by
 have hmm:m*m<=(iB (f+1)+1)*(iB (f+1)+1):=iu hm hm;rcases lev hf with rfl|rfl|rfl|rfl
 . rw[Dr hI (by omega)];simp
 . exact JY hI (by omega)
 . have:iB (2+1)=306:=rfl;have:iB 2=23870:=rfl;rw[show iB (2+1)=306 from rfl]at hm hmm;omega
 . have:iB 3=306:=rfl;rw[show iB (3+1)=32 from rfl]at hm hmm;omega
theorem xz{f m:Nat}(hf:f+1<=4)(hm:m<=iB (f+1)+1):2*m+m*m/4+cB (f+1)+300+lB f<=lB (f+1):=by
 have hmm:m*m<=(iB (f+1)+1)*(iB (f+1)+1):=iu hm hm;rcases lev hf with rfl|rfl|rfl|rfl
 . rw[show iB (0+1)=2 from rfl]at hm hmm;rw[show cB (0+1)=1 from rfl,show lB 0=10 from rfl,show lB (0+1)=400 from rfl];omega
 . rw[show iB (1+1)=23870 from rfl]at hm hmm;rw[show cB (1+1)=400000000 from rfl,show lB 1=400 from rfl,show lB (1+1)=542600000 from rfl];omega
 . rw[show iB (2+1)=306 from rfl]at hm hmm;rw[show cB (2+1)=10000 from rfl,show lB 2=542600000 from rfl,show lB (2+1)=542700000 from rfl];omega
 . rw[show iB (3+1)=32 from rfl]at hm hmm;rw[show cB (3+1)=50 from rfl,show lB 3=542700000 from rfl,show lB (3+1)=542800000 from rfl];omega
theorem xZ{f m:Nat}(hf:f+1<=4)(hm:m<=iB (f+1)+1):3*m+cB (f+1)+600+dB f<=dB (f+1):=by
 rcases lev hf with rfl|rfl|rfl|rfl
 . rw[show iB (0+1)=2 from rfl]at hm;rw[show cB (0+1)=1 from rfl,show dB 0=10 from rfl,show dB (0+1)=1000 from rfl];omega
 . rw[show iB (1+1)=23870 from rfl]at hm;rw[show cB (1+1)=400000000 from rfl,show dB 1=1000 from rfl,show dB (1+1)=400200000 from rfl];omega
 . rw[show iB (2+1)=306 from rfl]at hm;rw[show cB (2+1)=10000 from rfl,show dB 2=400200000 from rfl,show dB (2+1)=400300000 from rfl];omega
 . rw[show iB (3+1)=32 from rfl]at hm;rw[show cB (3+1)=50 from rfl,show dB 3=400300000 from rfl,show dB (3+1)=400400000 from rfl];omega
theorem Lb{f n:Nat}(hf:f+1<=4)(hn:n<=4):uB (f+1)+9*(n*cB (f+1))<=uB f:=by
 have h:=pN (cB (f+1)) hn;rcases lev hf with rfl|rfl|rfl|rfl
 . rw[show cB (0+1)=1 from rfl]at h⊢;rw[show uB 0=14937233000 from rfl,show uB (0+1)=14937232900 from rfl];omega
 . rw[show cB (1+1)=400000000 from rfl]at h⊢;rw[show uB 1=14937232900 from rfl,show uB (1+1)=537232800 from rfl];omega
 . rw[show cB (2+1)=10000 from rfl]at h⊢;rw[show uB 2=537232800 from rfl,show uB (2+1)=536872800 from rfl];omega
 . rw[show cB (3+1)=50 from rfl]at h⊢;rw[show uB 3=536872800 from rfl,show uB (3+1)=536870912 from rfl];omega
theorem Kp(hI:Inv s)(hfr:ie s<=f)(h:s.items≠[]):0<f:=by
 refine Nat.pos_of_ne_zero fun e=>h (Dr hI (by omega))
def Nxt(sys base:List AQ)(f K L n:Nat)(dP:List AE)(r:Bool×aR):Prop:=∃s':St,r.2=s'.to/\s'.n=n/\((r.1=true/\Good sys base f K s'/\s'.items.length<=iB f/\s'.known.length<=L/\s'.stack=dP)\/(r.1=false/\Ref n base (.leaf s'.steps)))
theorem S7{s':St}(hI:Inv s)(h:gT s s'){p j:Nat}(hp:p<s.known.length)(hj:j<s.n)(hst:vf s.status j≠0):cu s'.u s'.n (aI s'.known p).c j=cu s.u s.n (aI s.known p).c j:=by
 obtain⟨e,he⟩:=h.kn;unfold cu;rw[h.n,he,iQ hp];exact eF (fun _ _=>rfl) fun i hi=>(h.col j hj hst).2.2 i hi
theorem Hn{s':St}(hI:Inv s)(h:gT s s')(hs:s'.stack=s.stack)(hr:RF sys s):RF sys s':=
 ⟨h.R hr.R,fun k e hk ht=>h.F hI (by rw[<-hs];exact hk) (hr.F k e (by rw[<-hs];exact hk) ht)⟩
theorem R1{i j m:Nat}(hf:f+1<=4)(h:Good sys base (f+1) K s)(hm:m<=iB (f+1)+1)(hil:s.items.length<=m)(hkl:s.known.length+m<=1073741824)(hK:K+6<=536870912)(he:sf s i j):
 Tm (fun N=>td N s.to (i:Int) (j:Int)) (Nxt sys base f (K+6) (s.known.length+m) s.n s.stack):=by
 have hL:cY=1099511627776:=rfl;have hC:=lR (f+1);have hmB:=nU (f+1);have hu:=zG (f+1);have hn:=h.n;have hsteps:=h.steps;have hso:=h.mT (K':=K) (bK _) (by omega) (by omega) (by omega);have hso6:=h.mT (K':=K+6) (by omega) (by omega) (by omega) (by omega);have hnC:s.n*cB (f+1)<=4*400000000:=iu hn hC.1;refine(N6 h.inv hso h.su hn he h.co (by omega) (by omega) (by omega) (by omega) (by omega) (by omega)).mono ?_;rintro _ ⟨p,s1,hP,rfl⟩;have hlen:=I9 hP;have hAk:=Km h.inv hso hn (by omega) hP he;have hinv1:=UL h.inv hP;have hA:=uz (K:=K) (M:=4*(cB (f+1)*cB (f+1))) (dZ s1 i j p 0) (eD s1 i p) hinv1 (fun a ha=>(hAk a ha).2) (fun z hz=>by cases hz) fun a ha=>(hAk a ha).1.2;have hLl:=DE (s:=s1) (i:=i) (j:=j) (p:=p) s1.items.length 0 (by omega);have hok2:gr (K+6) (eD s1 i p):=⟨by show s1.n<=_;rw[hP.n];omega,by show s1.known.length<=_;rw[hP.kn];omega,by show s1.steps.length<=_;rw[hP.st];omega,by simp[eD],fun q hq=>by
  have hq:q∈s1.known:=hq;rw[hP.kn]at hq;exact⟨(h.q q hq).mono (by omega),by rw[h.inv.kl q hq];exact hP.n.symm⟩,fun x hx=>(by cases hx),by omega⟩
 have hsok:=tz (Kk:=K) (dZ s1 i j p 0) (eD s1 i p) hok2 ⟨by show s1.known.length+_<=_;rw[hP.kn];omega,by show s1.steps.length+_<=_;rw[hP.st];omega,by show 0+_<=_;omega⟩ (fun a ha=>(hAk a ha).1.1) (bK _);have hkn':(eD s1 i p).known=s.known:=hP.kn;have hst':(eD s1 i p).steps=s.steps:=hP.st;have hn':(eD s1 i p).n=s.n:=hP.n;have hil':=hA.il;have hkl':=hA.kl;rw[hkn']at hkl';have hil'':(bU (eD s1 i p) (dZ s1 i j p 0)).2.items.length<=m:=by
  have:(eD s1 i p).items.length=0:=rfl;omega
 have hder:gV s.n base (bU (eD s1 i p) (dZ s1 i j p 0)).2.steps (bU (eD s1 i p) (dZ s1 i j p 0)).2.known:=by
  have:=hA.jo base (by rw[hn',hst',hkn'];exact h.jo);rwa[hn']at this
 have hnn:(bU (eD s1 i p) (dZ s1 i j p 0)).2.n=s.n:=hA.kept.n.trans hn';refine⟨_,rfl,hnn,?_⟩;cases hb:(bU (eD s1 i p) (dZ s1 i j p 0)).1 with
 |false=>
  refine .inr ⟨rfl,An hA.inv hnn hder (by omega) (fun q hq=>(hsok.k q hq).1.mono hK) ?_⟩;obtain⟨q,q1,q2,q3⟩:=hA.bad hb;exact⟨q,q1,fun j hj=>q2 j (by rw[hn'];exact hj),q3⟩
 |true=>
  rw[hb]at hA;have hsim:=QG h.inv hP he hA fun a ha=>(hAk a ha).2;have hstk:(bU (eD s1 i p) (dZ s1 i j p 0)).2.stack=s.stack:=hA.kept.dP.trans hP.dP;have hfr:ie (bU (eD s1 i p) (dZ s1 i j p 0)).2+1=ie s:=L3 (c:=1) hnn hP.pn hP.free (by decide) fun m=>by
   rw[hA.kept.status];show vf (s1.status.set p 1) m=_;rw[jR (by rw[hP.inv.fX,hP.n];exact hP.pn),hP.status]
  have hfr':ie (bU (eD s1 i p) (dZ s1 i j p 0)).2<=f:=by have:=h.fr;omega
  refine .inl ⟨rfl,⟨hA.inv,Hn h.inv hsim hstk h.rf,by rw[hnn];exact hn,hfr',?_,fun q hq=>(hsok.k q hq).1,?_,fun e he'=>?_,by rw[hnn];exact hder⟩,?_,by omega,hstk⟩
  . exact Mf hf hA.inv hfr' rfl hA.gb
  . have hsu:=hP.su;have hup:=Lb (n:=s.n) hf hn;have hv:dl (aI s1.known (bD s1 i).pos).b<=uB f:=by
     have h1:=(hP.inv.it _ (gU (om hP i he.il).1)).1;have h2:=(h.q _ (by rw[<-hP.kn];exact eL h1)).2;have:=zG f;omega
    refine⟨⟨by rw[hA.kept.u,hnn];show s1.u.length=_;rw[hsu.u.1,hP.n],fun r hr=>?_⟩,by rw[hA.kept.status,hnn];show(s1.status.set p 1).length=_;rw[iS,hsu.st,hP.n],?_⟩
    . rw[hA.kept.u]at hr;have:=hsu.u.2 r hr;rw[hnn];exact⟨this.1.trans hP.n,fun v hv=>bO (this.2 v hv) (by omega)⟩
    . rw[hA.kept.value,hnn];show jT s.n (uB f) (s1.value.set p _);refine⟨by rw[iS,hsu.v.1,hP.n],fun v hv'=>?_⟩;rcases pM hv' with hv'|rfl
      . exact bO (hsu.v.2 v hv') (by omega)
      . exact hv
  . rw[hstk]at he';have e0:=h.st e he';obtain⟨x,hx⟩:=hsim.kn;refine⟨e0.il,by rw[hnn];exact e0.v,fun q hq=>⟨by rw[hx,dd];have:=(e0.p q hq).1;omega,?_⟩⟩;rw[S7 h.inv hsim (e0.p q hq).1 e0.v (by rw[(h.inv.sv e he').2.1];omega)];exact(e0.p q hq).2
  . exact JB hf hA.inv hfr' hm (by have:m<=m+m*m/4:=Nat.le_add_right _ _;omega)
end
end Go.D
set_option maxHeartbeats 1000000
namespace Go.D
open Go Go.X
section
variable {sys base:List AQ} {f K:Nat} {s:St}
theorem Ln{s0:St}{v m:Nat}{t:Bool}{ats:List Nat}(hf:f+1<=4)(h:Good sys base (f+1) K s)(hI0:Inv s0)(hr0:RF sys s0)(hk:Kept s0 s)(hv:v<s.n)(hst:vf s.status v=0)(hats:wi s v ats)(hatl:ats.length<=1073741824)
 (hcov:∀y,(∀x∈s.items,vf x.g v=0->IH s y x)->(∀p∈ats,hx s (ux s y) p)->∀x∈s0.items,IH s0 y x)
 (hF:t=false->∀y,yN s v y->∃z,∀p∈ats,hx s (ux s (cK y v z)) p)
 (hm:m<=iB (f+1)+1)(hil:s.items.length<=m)(hkl:s.known.length+m*m/4<=1073741824)(hK:K+6<=536870912):
 Nxt sys base f (K+6) (s.known.length+m*m/4) s.n (s.stack++[⟨v,ats,t⟩]) ((bU (fy s v t ats) (dc s v)).1,(bU (fy s v t ats) (dc s v)).2.to):=by
 have hC:=lR (f+1);have hmB:=nU (f+1);have hn:=h.n;have hsteps:=h.steps;have hso:=h.mT (K':=K) (bK _) (by omega) (by omega) (by omega);have hso6:=h.mT (K':=K+6) (by omega) (by omega) (by omega) (by omega);have hsl:=wo (v:=v) s.items;have hLl:=IE (s:=s) (v:=v);have hsq:=HM (u:=(cz v s.items).length) (w:=(du v s.items).length) (m:=m) (by omega);have hAk:=KA (t:=t) (ats:=ats) h.inv hso hv h.co (by omega);have hinv1:=Inv.fy (t:=t) h.inv hv hst hats;have hgb0:∀z∈(fy s v t ats).items,GB (4*(cB (f+1)*cB (f+1))) z.g:=fun z hz w hw=>by
  obtain⟨z1,_⟩:=qD.1 hz;obtain⟨j,hj,rfl⟩:=gE hw;have:=h.co z z1 j (by rw[(h.inv.it z z1).2]at hj;exact hj);have h1:cB (f+1)*1<=cB (f+1)*cB (f+1):=Nat.mul_le_mul_left _ hC.2;omega
 have hA:=uz (K:=K) (M:=4*(cB (f+1)*cB (f+1))) (dc s v) (fy s v t ats) hinv1 (fun a ha=>(hAk a ha).2) hgb0 fun a ha=>(hAk a ha).1.2;have hok2:gr (K+6) (fy s v t ats):=⟨hso6.n,hso6.kl,hso6.sl,bO (tp ..) hso6.il,hso6.k,fun x hx=>hso6.i x (qD.1 hx).1,hso6.K⟩;have hfil:(fy s v t ats).items.length=(s.items.filter fun x=>!decide (vf x.g v≠0)).length:=rfl;have hmm:m*m<=23871*23871:=iu (by omega) (by omega);have hsok:=tz (Kk:=K) (dc s v) (fy s v t ats) hok2 ⟨by show s.known.length+_<=_;omega,by show s.steps.length+_<=_;omega,by rw[hfil];omega⟩ (fun a ha=>(hAk a ha).1.1) (bK _);have hil':=hA.il;have hkl':_<=s.known.length+_:=hA.kl;have hil'':(bU (fy s v t ats) (dc s v)).2.items.length<=m+m*m/4:=by omega
 have hder:gV s.n base (bU (fy s v t ats) (dc s v)).2.steps (bU (fy s v t ats) (dc s v)).2.known:=hA.jo base h.jo;have hnn:(bU (fy s v t ats) (dc s v)).2.n=s.n:=hA.kept.n;refine⟨_,rfl,hnn,?_⟩;cases hb:(bU (fy s v t ats) (dc s v)).1 with
 |false=>exact .inr ⟨rfl,An hA.inv hnn hder (by omega) (fun q hq=>(hsok.k q hq).1.mono hK) (hA.bad hb)⟩
 |true=>
  rw[hb]at hA;have hsim:=Qy hI0 h.inv hk hv hst hcov hats hA;have hstk:(bU (fy s v t ats) (dc s v)).2.stack=s.stack++[⟨v,ats,t⟩]:=hA.kept.dP;have hfr:ie (bU (fy s v t ats) (dc s v)).2+1=ie s:=L3 (c:=2) hnn hv hst (by decide) fun m=>by
   rw[hA.kept.status];exact pX h.inv hv m
  have hfr':ie (bU (fy s v t ats) (dc s v)).2<=f:=by have:=h.fr;omega
  have hup:=Lb (n:=s.n) hf hn;refine .inl ⟨rfl,⟨hA.inv,⟨hsim.R hr0.R,fun k e hke ht=>?_⟩,by rw[hnn];exact hn,hfr',Mf hf hA.inv hfr' rfl hA.gb,fun q hq=>(hsok.k q hq).1,?_,fun e he'=>?_,by rw[hnn];exact hder⟩,JB hf hA.inv hfr' hm hil'',by omega,hstk⟩
  . rw[hstk]at hke;rcases cw k s0.stack.length with hlt|hge
    . rw[hk.dP,jZ hlt]at hke;exact hsim.F hI0 hke (hr0.F k e hke ht)
    . rw[hk.dP,ou hge]at hke;obtain rfl:⟨v,ats,t⟩=e:=by
       cases hd:k-s0.stack.length with
       |zero=>rw[hd]at hke;exact iR hke
       |succ d=>rw[hd]at hke;cases hke
      exact Sb h.inv hv hats hA (hF ht)
  . have hsu:=h.su.mono (K':=uB f) (by omega);refine⟨⟨by rw[hA.kept.u,hnn];exact hsu.u.1,fun r hr=>by rw[hA.kept.u]at hr;rw[hnn];exact hsu.u.2 r hr⟩,by rw[hA.kept.status,hnn];show(s.status.set v 2).length=_;rw[iS];exact hsu.st,by rw[hA.kept.value,hnn];exact hsu.v⟩
  . rw[hstk]at he';have hE:py s e:=by
     rcases fR.1 he' with he'|he'
     . exact h.st e he'
     . rw[cP.1 he'];exact⟨hatl,hv,fun p hp=>⟨(hats p hp).1,(hats p hp).2.2⟩⟩
    obtain⟨x,hx'⟩:=hA.kept.kn;exact⟨hE.il,by rw[hnn];exact hE.v,fun p hp=>⟨by rw[hx',dd];have:=(hE.p p hp).1;show p<s.known.length+_;omega,by rw[hA.kept.u,hnn,hx'];show cu s.u s.n (aI (s.known++x) p).c e.v≠0;rw[iQ (hE.p p hp).1];exact(hE.p p hp).2⟩⟩
theorem HD{v:Nat}{low:AI}{bR:List AI}(h:0<dY v bR):(dY v bR-1)*(-vf low.g v-1)<=dY v bR*(gM v low bR+1):=by
 have h1:=qE (a:=dY v bR*-vf low.g v-dY v bR- -vf low.g v) h;unfold gM;generalize(dY v bR*-vf low.g v-dY v bR- -vf low.g v).fdiv (dY v bR)=q at*;have e1:(dY v bR-1)*(-vf low.g v-1)=dY v bR*-vf low.g v-dY v bR- -vf low.g v+1:=by grind
 have e2:dY v bR*(q+1)=q*dY v bR+dY v bR:=by grind
 omega
theorem J5{a A b k:Int}(ha:0<a)(haA:a<=A)(hb:0<b)(h:(A-1)*(b-1)<=A*k):(a-1)*(b-1)<=a*max k 0:=by
 have hA:0<A:=by omega
 rcases vW k 0 with hk|hk
 . have h1:A*k<=A*0:=fZ hk (ed hA);have h2:=fp (show a-1<=A-1 by omega) (show 0<=b-1 by omega);rw[Nk hk];omega
 . rw[Int.max_eq_left hk];have h1:=fZ h (ed ha);have h2:A*(a-1)<=a*(A-1):=by
    have e1:A*(a-1)=a*A-A:=by grind
    have e2:a*(A-1)=a*A-a:=by grind
    omega
   have h3:=fp h2 (show 0<=b-1 by omega);have e1:a*((A-1)*(b-1))=a*(A-1)*(b-1):=by grind
   have e2:A*(a-1)*(b-1)=A*((a-1)*(b-1)):=by grind
   have e3:a*(A*k)=A*(a*k):=by grind
   exact Ck (a:=A) (by omega) hA
theorem Di{v:Nat}{s:St}(h:cz v s.items≠[]):0<dY v (cz v s.items):=by
 obtain⟨x,hx,e⟩:=DG (v:=v) h;rw[e];exact(j7.1 hx).2
theorem OJ{v:Nat}(hI:Inv s)(hv:v<s.n)(he:rV s v):∀y,yN s v y->∃z,∀p∈fg s v,hx s (ux s (cK y v z)) p:=by
 intro y hp;obtain⟨z,h1,h2⟩:=H5 (y:=y) hv (fun w=>(aI s.known w.pos).b) (fun x hx w hw=>by
  have h0:=hp x hx w hw;have hne:cz v s.items≠[]:=GI hx;have hs:gM v w (cz v s.items)<0:=by
   rcases he with he|he
   . exact absurd he hne
   . exact he w hw
  have h3:=J5 (j7.1 hx).2 (Kw x hx) (show 0< -vf w.g v by have:=(im.1 hw).2;omega) (HD (low:=w) (Di hne));rw[Nk (by omega)]at h3;omega)
 refine⟨z,fun p hp'=>?_⟩;obtain⟨x,hx',rfl⟩:=dz.1 hp';rcases fR.1 hx' with hx'|hx'
 . exact(vK hI (j7.1 hx').1).1 (h1 x hx')
 . exact(vK hI (im.1 hx').1).1 ((FZ hv).2 (h2 x hx'))
theorem Pu{v:Nat}(hI:Inv s):∀y,(∀x∈s.items,vf x.g v=0->IH s y x)->(∀p∈fg s v,hx s (ux s y) p)->∀x∈s.items,IH s y x:=by
 intro y h1 h2 x hx';by_cases h0:vf x.g v=0
 . exact h1 x hx' h0
 . refine(vK hI hx').2 (h2 _ (dz.2 ⟨x,fR.2 ?_,rfl⟩));rcases tw h0 with h|h
   . exact .inr (im.2 ⟨hx',h⟩)
   . exact .inl (j7.2 ⟨hx',h⟩)
theorem Kg{v:Nat}:(fg s v).length<=s.items.length:=by
 have:=wo (v:=v) s.items;unfold fg;rw[cD,dd];omega
theorem KQ{v m:Nat}{t:Bool}(h:Good sys base (f+1) K s)(hv:v<s.n)(hm:m<=iB (f+1)+1)(hil:s.items.length<=m)(hkl:s.known.length+m*m/4<=1073741824)(hK:K+6<=536870912):
 Tm (fun N=>n5 N s.to (v:Int) t) (·=((bU (eH s v t) (dc s v)).1,(bU (eH s v t) (dc s v)).2.to)):=by
 have hC:=lR (f+1);have hmB:=nU (f+1);have hn:=h.n;have hsteps:=h.steps;have hso:=h.mT (K':=K) (bK _) (by omega) (by omega) (by omega);have hso6:=h.mT (K':=K+6) (by omega) (by omega) (by omega) (by omega);have hsl:=wo (v:=v) s.items;have hLl:=IE (s:=s) (v:=v);have hsq:=HM (u:=(cz v s.items).length) (w:=(du v s.items).length) (m:=m) (by omega);have hmm:m*m<=23871*23871:=iu (by omega) (by omega);have hstl:=E3 h.inv;have hAk:=KA (t:=t) (ats:=fg s v) h.inv hso hv h.co (by omega);have hfl:(eH s v t).items.length<=s.items.length:=tp ..;have hr:jk (dc s v).length (eH s v t):=⟨by show s.known.length+_<=_;omega,by show s.steps.length+_<=_;omega,by omega⟩;exact Tt hso6 hv h.inv.fX (by omega) (bK _) (fun a ha=>(hAk a ha).1.1) hr
theorem Ks{v m:Nat}{t:Bool}(hf:f+1<=4)(h:Good sys base (f+1) K s)(hv:v<s.n)(hst:vf s.status v=0)(he:t=false->rV s v)(hm:m<=iB (f+1)+1)(hil:s.items.length<=m)(hkl:s.known.length+m*m/4<=1073741824)(hK:K+6<=536870912):
 Tm (fun N=>n5 N s.to (v:Int) t) (Nxt sys base f (K+6) (s.known.length+m*m/4) s.n (s.stack++[⟨v,fg s v,t⟩])):=by
 have hmB:=nU (f+1);refine(KQ h hv hm hil hkl hK).mono fun r hr'=>?_;rw[hr',UB];exact Ln hf h h.inv h.rf (Kept.refl s) hv hst (KT h.inv hv) (bO Kg (by omega)) (Pu h.inv) (fun ht=>OJ h.inv hv (he ht)) hm hil hkl hK
theorem TF{s':St}(hI:Inv s)(k:Kept s s')(hi:∀y,(∀x∈s'.items,IH s' y x)->∀x∈s.items,IH s y x):gT s s':=by
 obtain⟨e,he⟩:=k.kn;have hux:∀y i,ux s' y i=ux s y i:=fun y i=>by unfold ux;rw[k.u,k.n]
 refine⟨k.n,⟨e,he⟩,⟨[],by rw[k.dP];simp⟩,fun j hj hs=>⟨by rw[k.status],fun _=>by rw[k.value],fun i _=>by rw[k.u]⟩,fun y=>⟨y,fun i _=>hux y i,fun _ _ _=>rfl,fun m hm ⟨h1,h2,h3⟩=>⟨fun j hj hs=>?_,hi y h2,fun e' he' p hp=>?_⟩⟩⟩
 . have:=h1 j (by rw[k.n];exact hj) (by rw[k.status];exact hs);rw[this,k.value]
 . have:=h3 e' (by rw[k.dP];exact he') p hp;exact(si k.n he ((hI.sv e' (Gi he')).2.2 p hp) fun i _=>hux y i).1 this
theorem Cr{s':St}{base':List AQ}{K':Nat}(h:Good sys base f K s)(k:Kept s s')(hI':Inv s')(hi:∀y,(∀x∈s'.items,IH s' y x)->∀x∈s.items,IH s y x)(hco:∀x∈s'.items,∀j,j<s.n->(vf x.g j).natAbs<=cB f)
 (hq:∀q∈s'.known,fF K' q)(hder:gV s'.n base' s'.steps s'.known):Good sys base' f K' s' where
 inv:=hI'
 rf:=Hn h.inv (TF h.inv k hi) k.dP h.rf
 n:=by rw[k.n];exact h.n
 fr:=by have:=h.fr;unfold ie at*;rw[k.n,k.status];exact this
 co x hx j hj:=hco x hx j (by rw[<-k.n];exact hj)
 q:=hq
 su:=⟨⟨by rw[k.u,k.n];exact h.su.u.1,fun r hr=>by rw[k.u]at hr;rw[k.n];exact h.su.u.2 r hr⟩,by rw[k.status,k.n];exact h.su.st,by rw[k.value,k.n];exact h.su.v⟩
 st e he:=(h.st e (by rw[<-k.dP];exact he)).kept k
 jo:=hder
theorem Ig(s:St)(q:AQ):Kept s (cR s q):=⟨rfl,rfl,rfl,rfl,rfl,[q],rfl⟩
theorem tH{q:AQ}{K':Nat}(h:Good sys base f K s)(hl:q.c.length=s.n)(hq:fF K' q)(hK:K<=K'):Good sys (s.known++[q]) f K' (cR s q):=by
 refine Cr h (Ig s q) (h.inv.known (e:=[q]) rfl fun q' hq'=>by rw[cP.1 hq'];exact hl) (fun y hy x hx'=>(wM (s:=s) (s':=cR s q) rfl (e:=[q]) rfl (h.inv.it x hx').1).1 (hy x hx')) h.co (fun q' hq'=>?_) .nil;rcases fR.1 hq' with hq'|hq'
 . exact(h.q q' hq').mono hK
 . rw[cP.1 hq'];exact hq
theorem TC{x:AI}(h:Good sys base f K s)(hx:kB s x)(hco:∀j,j<s.n->(vf x.g j).natAbs<=cB f):Good sys base f K (add s x):=
 Cr h (DZ s x) (h.inv.add hx) (fun y hy=>(Ax (s:=s) (x:=x) (y:=y) (l:=s.items) hy).1) (fun z hz j hj=>(l9 hz).elim (fun e=>by subst e;exact hco j hj) fun hz=>h.co z hz j hj) h.q h.jo
def mO(s:St)(p p':Nat):St:={s with items:=rG s.items p p'}
theorem zN{l:List AI}{p p':Nat}{x:AI}:x∈rG l p p'↔∃y∈l,(if y.pos=p then{y with pos:=p'}else y)=x:=dz
theorem Ip(s:St)(p p':Nat):Kept s (mO s p p'):=⟨rfl,rfl,rfl,rfl,rfl,[],by simp[mO]⟩
theorem Qk{p p':Nat}(h:Good sys base f K s)(hp:p'<s.known.length)(hc:(aI s.known p').c=(aI s.known p).c)(hb:(aI s.known p').b<=(aI s.known p).b):Good sys base f K (mO s p p'):=by
 have key:∀x∈(mO s p p').items,∃y∈s.items,x.g=y.g/\(x=y\/(y.pos=p/\x.pos=p')):=fun x hx'=>by
  obtain⟨y,hy,rfl⟩:=zN.1 hx';split
  . rename_i e;exact⟨y,hy,rfl,.inr ⟨e,rfl⟩⟩
  . exact⟨y,hy,rfl,.inl rfl⟩
 refine Cr h (Ip s p p') ⟨h.inv.ul,h.inv.fX,h.inv.vl,h.inv.kl,fun x hx'=>?_,fun x hx' j hj=>?_,fun x hx'=>?_,fun x hx'=>?_,?_,h.inv.j2,h.inv.stat,h.inv.sv,h.inv.s2,h.inv.sd⟩ (fun y hy x hx'=>?_) (fun x hx' j hj=>?_) h.q h.jo
 . obtain⟨y,hy,e1,e2⟩:=key x hx';refine⟨?_,by rw[e1];exact(h.inv.it y hy).2⟩;rcases e2 with rfl|⟨_,e3⟩
   . exact(h.inv.it x hy).1
   . rw[e3];exact hp
 . obtain⟨y,hy,e1,e2⟩:=key x hx';rw[e1,h.inv.dp y hy j hj];rcases e2 with rfl|⟨e4,e3⟩
   . rfl
   . rw[e3,e4];show _=cu s.u s.n (aI s.known p').c j;rw[hc]
 . obtain⟨y,hy,e1,_⟩:=key x hx';rw[e1];exact h.inv.nf y hy
 . obtain⟨y,hy,e1,_⟩:=key x hx';rw[e1];exact h.inv.gD y hy
 . show(s.items.map _).Pairwise _;rw[GG];refine h.inv.kh.imp fun{a b} hab=>?_;have e:∀z:AI,(if z.pos=p then({z with pos:=p'}:AI)else z).g=z.g:=fun z=>by split<;>rfl
   rw[e,e];exact hab
 . have h1:=hy _ (zN.2 ⟨x,hx',rfl⟩);unfold IH at h1⊢;split at h1
   . rename_i e;have h1:bE (vf x.g) y s.n<=(aI s.known p').b:=h1;rw[e];omega
   . exact h1
 . obtain⟨y,hy,e1,_⟩:=key x hx';rw[e1];exact h.co y hy j hj
theorem PI{g:List Int}(h:dh g=1):dh (bT g)=1:=by
 have h1:((dh (bT g):Nat):Int)∣((dh g:Nat):Int):=oA fun v hv=>by
  have h2:-v∈bT g:=by
   obtain⟨j,hj,rfl⟩:=gE hv;rw[<-iL];exact gj (by rw[jd];exact hj)
  exact(Int.dvd_neg).1 (sH h2)
 rw[h]at h1;exact GF (Nf.1 h1)
theorem OG{x:AI}{b:Int}(h:Good sys base f K s)(hx':x∈s.items):kB (cR s ⟨(aI s.known x.pos).c,b⟩) ⟨s.known.length,x.g⟩:=by
 refine⟨by show s.known.length<(s.known++[_]).length;simp,(h.inv.it x hx').2,fun j hj=>?_,h.inv.nf x hx',h.inv.gD x hx'⟩;rw[show aI (cR s ⟨(aI s.known x.pos).c,b⟩).known s.known.length=⟨(aI s.known x.pos).c,b⟩ from oT];exact h.inv.dp x hx' j hj
theorem Ic{x:AI}{b:Int}(h:Good sys base f K s)(hx':x∈s.items):kB (cR s ⟨bT (aI s.known x.pos).c,b⟩) ⟨s.known.length,bT x.g⟩:=by
 refine⟨by show s.known.length<(s.known++[_]).length;simp,(jd _).trans (h.inv.it x hx').2,fun j hj=>?_,fun j hj hst=>?_,PI (h.inv.gD x hx')⟩
 . rw[show aI (cR s ⟨bT (aI s.known x.pos).c,b⟩).known s.known.length=⟨bT (aI s.known x.pos).c,b⟩ from oT];show vf (bT x.g) j=cu s.u s.n (bT (aI s.known x.pos).c) j;rw[iL,h.inv.dp x hx' j hj,A5 (c:=bT (aI s.known x.pos).c) (k:=-1) (a:=(aI s.known x.pos).c) fun i hi=>by rw[iL];omega];omega
 . rw[iL,h.inv.nf x hx' j hj hst];rfl
theorem Bu{K:Nat}{c:List Int}(h:∀v∈c,dl v<=K):∀v∈bT c,dl v<=K:=fun v hv=>by
 rw[<-fY];exact h _ (Ek hv)
theorem A9{kn:List AQ}{x:AI}:∀{l:List AI},(∃y∈l,y.g=x.g)->(eh kn x l).length=l.length
 |[],h=>by obtain⟨y,hy,_⟩:=h;cases hy
 |z::l,h=>by
  rw[eh];split
  . split<;>simp
  . rename_i e;obtain⟨y,hy,e2⟩:=h;rcases eb.1 hy with rfl|hy
    . exact absurd e2.symm e
    . rw[cv,A9 ⟨y,hy,e2⟩,cv]
theorem Eu{kn:List AQ}{x:AI}:∀{l:List AI},∃y∈eh kn x l,y.g=x.g/\(aI kn y.pos).b<=(aI kn x.pos).b
 |[]=>⟨x,by simp[eh],rfl,nk _⟩
 |z::l=>by
  rw[eh];split
  . rename_i e;split
    . exact⟨x,cO,rfl,nk _⟩
    . exact⟨z,cO,e.symm,by omega⟩
  . obtain⟨y,hy,h⟩:=Eu (kn:=kn) (x:=x) (l:=l);exact⟨y,cJ _ hy,h⟩
theorem Iu{kn:List AQ}{x z:AI}:∀{l:List AI},z∈l->z.g≠x.g->z∈eh kn x l
 |w::l,h,hne=>by
  rw[eh];rcases eb.1 h with rfl|h
  . rw[if_neg fun e=>hne e.symm];exact cO
  . split
    . split
      . exact cJ _ h
      . exact cJ _ h
    . exact cJ _ (Iu h hne)
end
end Go.D
set_option maxHeartbeats 1000000
namespace Go.D
open Go Go.X
inductive fH (sys base:List AQ)(n:Nat)(dP:List AE):bX->Prop where
 |solved (x:List Int) (hl:x.length=n) (hd:∀v∈x,dl v<=137438953472) (hs:∀q∈sys,lE n (vf x) q):fH sys base n dP (bX.mk 0 (mB x) sV 0)
 |iC (p:lH) (h:Ref n base p):fH sys base n dP (bX.mk 1 [] p.to 0)
 |failed (e:AE) (he:e∈dP) (ht:e.dD=true):fH sys base n dP (bX.mk 2 [] sV (e.v:Int))
theorem fH.up{sys base base':List AQ}{n:Nat}{dP:List AE}{r:bX}(h:fH sys base' n dP r)(hk:r.kind≠1):fH sys base n dP r:=by
 cases h with
 |solved x hl hd hs=>exact .solved x hl hd hs
 |iC p h=>exact absurd rfl hk
 |failed e he ht=>exact .failed e he ht
theorem fH.ref{sys base:List AQ}{n:Nat}{dP:List AE}{r:bX}(h:fH sys base n dP r)(hk:¬r.kind≠1):∃p:lH,Ref n base p/\r=bX.mk 1 [] p.to 0:=by
 cases h with
 |solved x hl hd hs=>exact absurd (show(0:Int)≠1 by decide) hk
 |iC p h=>exact⟨p,h,rfl⟩
 |failed e he ht=>exact absurd (show(2:Int)≠1 by decide) hk
theorem Tm.shift{α:Type}{f:Nat->Option α}{Q:α->Prop}(h:Tm f Q):Tm (fun N=>f (N+1)) Q:=by
 obtain⟨a,N0,hQ,hN⟩:=h;exact⟨a,N0,hQ,fun N h=>hN (N+1) (by omega)⟩
def kZ(σ:Nat->Nat):Nat->Nat
 |0=>0
 |n+1=>kZ σ n+σ n
theorem Ib{σ τ:Nat->Nat}:∀{n:Nat},(∀j,j<n->σ j=τ j)->kZ σ n=kZ τ n
 |0,_=>rfl
 |n+1,h=>by simp only[kZ];rw[Ib (n:=n) fun j hj=>h j (by omega),h n (by omega)]
theorem GP{σ τ:Nat->Nat}{w:Nat}:∀{n:Nat},w<n->(∀j,j<n->j≠w->τ j=σ j)->τ w<σ w->kZ τ n<kZ σ n
 |n+1,hw,h,hlt=>by
  simp only[kZ];by_cases e:n=w
  . subst e;rw[Ib (σ:=τ) (τ:=σ) (n:=n) fun j hj=>h j (by omega) (by omega)];omega
  . have:=GP (n:=n) (by omega) (fun j hj=>h j (by omega)) hlt;rw[h n (by omega) e];omega
def ma(n:Nat)(c:Int)(g:List Int)(w:Nat):Prop:=∀j,j<n->vf g j=if j=w then c else 0
def uo(μ:Nat)(s:St):Prop:=∃σ:Nat->Nat,(∀j,σ j<=65)/\kZ σ s.n<=μ/\∀j,j<s.n->∀x∈s.items,∀y∈s.items,ma s.n 1 x.g j->ma s.n (-1) y.g j->(aI s.known x.pos).b+(aI s.known y.pos).b<=64->(aI s.known x.pos).b+(aI s.known y.pos).b<=σ j
theorem BV{s:St}(hn:s.n<=4):uo 260 s:=by
 refine⟨fun _=>65,fun _=>bK _,?_,fun j _ x _ y _ _ _ h=>by dsimp only;omega⟩;have:∀n,kZ (fun _=>65) n=65*n:=fun n=>by induction n with
  |zero=>rfl
  |succ n ih=>simp only[kZ,ih];omega
 rw[this];omega
theorem ma.inj{n:Nat}{c:Int}{a b:List Int}{j:Nat}(ha:ma n c a j)(hb:ma n c b j)(la:a.length=n)(lb:b.length=n):a=b:=lr (by rw[la,lb]) fun i hi=>by rw[ha i (by omega),hb i (by omega)]
theorem ma.at{n:Nat}{c:Int}{a:List Int}{j w:Nat}(ha:ma n c a j)(hb:ma n c a w)(hc:c≠0)(hj:j<n):j=w:=by
 have h1:=ha j hj;have h2:=hb j hj;rw[if_pos rfl]at h1;by_cases e:j=w
 . exact e
 . rw[if_neg e]at h2;omega
theorem vZ{s:St}(hI:Inv s){x y:AI}(hx:x∈s.items)(hy:y∈s.items)(h:x.g=y.g):x=y:=by
 obtain⟨i,hi,rfl⟩:=nm hx;obtain⟨j,hj,rfl⟩:=nm hy;have hd:=Nh.1 hI.kh;rcases M9 i j with h1|h1|h1
 . exact absurd h (hd i j hi hj h1)
 . subst h1;rfl
 . exact absurd h.symm (hd j i hj hi h1)
theorem KU{s:St}(hI:Inv s){x y:AI}(hx:x∈s.items)(hy:y∈s.items)(h:x.pos=y.pos):x=y:=by
 refine vZ hI hx hy (lr ((hI.it x hx).2.trans (hI.it y hy).2.symm) fun j hj=>?_);have hj:j<s.n:=by rw[(hI.it x hx).2]at hj;exact hj
 rw[hI.dp x hx j hj,hI.dp y hy j hj,h]
section
variable {sys base:List AQ} {f K μ:Nat} {s:St}
def lT(sys:List AQ)(f μ:Nat)(R:Nat->aR->Option bX):Prop:=∀(base:List AQ) (K:Nat) (s:St),Good sys base f K s->uo μ s->s.items.length<=iB f->s.known.length+μ+lB f<=1073741824->K+2*μ+dB f<=536870912->Tm (fun N=>R N s.to) (fH sys base s.n s.stack)
theorem lT.shift{R:Nat->aR->Option bX}(h:lT sys f μ R):lT sys f μ fun N=>R (N+1):=fun base K s h1 h2 h3 h4 h5=>Tm.shift (f:=fun N=>R N s.to) (h base K s h1 h2 h3 h4 h5)
theorem Fc{q:AQ}{g:List Int}(h:Good sys base f K s)(hS:kB (cR s q) ⟨s.known.length,g⟩){K':Nat}(hq:fF K' q)(hql:q.c.length=s.n)(hK:K<=K')(hco:∀j,j<s.n->(vf g j).natAbs<=cB f):
 Good sys (s.known++[q]) f K' (add (cR s q) ⟨s.known.length,g⟩)/\
 (∀z∈(add (cR s q) ⟨s.known.length,g⟩).items,z.g≠g->z∈s.items)/\
 (∀z∈(add (cR s q) ⟨s.known.length,g⟩).items,z.g=g->(aI (s.known++[q]) z.pos).b<=q.b):=by
 have hG:=TC (tH h hql hq hK) hS hco;refine⟨hG,fun z hz hne=>?_,fun z hz he=>?_⟩
 . rcases l9 (show z∈eh _ _ s.items from hz)with rfl|hz
   . exact absurd rfl hne
   . exact hz
 . obtain⟨y,hy,y1,y2⟩:=Eu (kn:=s.known++[q]) (x:=⟨s.known.length,g⟩) (l:=s.items);obtain rfl:z=y:=vZ hG.inv hz hy (he.trans y1.symm);rw[show(aI (s.known++[q]) s.known.length)=q from oT]at y2;exact y2
theorem RW{q:AQ}{g:List Int}(h:pG s)(hG:Good sys (s.known++[q]) f K (cR s q))(hil:s.items.length<=1073741824)(hkl:s.known.length+1<=1073741824)(hK:K<=1099511627000)(hg:pH (cR s q) ⟨s.known.length,g⟩){R:Nat->aR->aR->Option bX}{Q:bX->Prop}
 (k:Tm (fun N=>R N (cR s q).to (add (cR s q) ⟨s.known.length,g⟩).to) Q):
 Tm (fun N=>(ng N s.to q.to).bind fun r5=>(kX N r5 (aY.mk (iw ((List.length r5.known:Int)-1)) (mB g))).bind fun r6=>R N r5 r6) Q:=by
 refine aU (tA h) ?_;have e:aY.mk (iw ((List.length (cR s q).to.known:Int)-1)) (mB g)=AI.to ⟨s.known.length,g⟩:=by
  show aY.mk (iw ((((s.known++[q]).map AQ.to).length:Int)-1)) (mB g)=aY.mk (s.known.length:Int) (mB g);congr 1;rw[cD,dd,ku,bH]<;>omega
 rw[e];exact aU (tE (K:=K) (hG.mT (bK _) hK (by show(s.known++[q]).length<=_;rw[dd,ku];omega) hil) hg) k
theorem Dt{x:AI}{f:Nat}(hS:kB s x)(hco:∀j,j<s.n->(vf x.g j).natAbs<=cB f):pH s x:=⟨hS.pos,hS.gl,fun v hv=>bO (w6 hS.gl hco (by have:=lR f;omega) v hv) (by decide)⟩
theorem Sy{R:Nat->aR->Option bX}(hf:f<=4)(hR:∀μ',μ'<μ->lT sys f μ' R)(h:Good sys base f K s)(hσ:uo μ s)(hil:s.items.length<=iB f)(hkl:s.known.length+μ+lB f<=1073741824)(hK:K+2*μ+dB f<=536870912)
    {x y:AI}{w:Nat}(hx':x∈s.items)(hy':y∈s.items)(hw:w<s.n)(hxu:ma s.n 1 x.g w)(hyu:ma s.n (-1) y.g w)(h1:0<(aI s.known x.pos).b+(aI s.known y.pos).b)(h64:(aI s.known x.pos).b+(aI s.known y.pos).b<=64):
    Tm (fun N=>wZ N (R N) s.to ⟨x.to,B (-(aI s.known y.pos).b),B (aI s.known x.pos).b⟩) (fH sys base s.n s.stack):=by
  have hL:cY=1099511627776:=rfl;have hC:=lR f;have hn:=h.n;have hmB:=nU f;obtain⟨σ,σ1,σ2,σ3⟩:=hσ;have hσw:=σ3 w hw x hx' y hy' hxu hyu h64;have hcp:pG s:=h.inv.cp hn (by omega) (by omega);obtain⟨x1,x2⟩:=h.inv.it x hx';obtain⟨y1,y2⟩:=h.inv.it y hy';have hqx:=h.q _ (eL x1);have dbx:=hqx.2;have dby:=(h.q _ (eL y1)).2;have hxy:y.g=bT x.g:=lr (by rw[jd,x2,y2]) fun j hj=>by
    rw[iL,hyu j (by omega),hxu j (by omega)];split<;>rfl
  have hxny:x.g≠bT x.g:=fun e=>by
    have:=congrArg (fun l=>vf l w) e;simp only[iL]at this;have:=hxu w hw;rw[if_pos rfl]at this;omega
  have hcl:(aI s.known x.pos).c.length=s.n:=h.inv.kl _ (eL x1);generalize hbx:(aI s.known x.pos).b=bx at*;generalize hby:(aI s.known y.pos).b=bY at*;have hm:=qE (a:=-bY+bx) (p:=2) (by decide);have dsum:dl (-bY+bx)<=K+1:=oD (by rw[fY];exact dby) dbx;have dm:=re (-bY+bx) 2;generalize hmm:(-bY+bx).fdiv 2=m at*;have d2:dl (2:Int)<=1:=j9 (by decide);have dm1:dl (-m-1)<=K+2:=jX (K:=K+1) (by rw[fY];omega) (bO jF (by omega));have hlt:kZ (fun j=>if j=w then(bx+bY-1).toNat else σ j) s.n<kZ σ s.n:=GP hw (fun j _ hj=>if_neg hj) (by
    show(if w=w then(bx+bY-1).toNat else σ w)<σ w;rw[if_pos rfl];omega)
  have hspn:∀(q:AQ) (g:List Int),(∀z∈(add (cR s q) ⟨s.known.length,g⟩).items,z.g≠g->z∈s.items)->(∀z∈(add (cR s q) ⟨s.known.length,g⟩).items,z.g=g->(aI (s.known++[q]) z.pos).b<=q.b)->
      ((g=x.g/\q.b+bY<=bx+bY-1)\/(g=bT x.g/\bx+q.b<=bx+bY-1))->uo (μ-1) (add (cR s q) ⟨s.known.length,g⟩):=by
    intro q g ho hb hg;have hold:∀z∈s.items,(aI (s.known++[q]) z.pos).b=(aI s.known z.pos).b:=fun z hz=>by rw[iQ (h.inv.it z hz).1]
    refine⟨fun j=>if j=w then(bx+bY-1).toNat else σ j,fun j=>?_,?_,fun j hj x' hx2 y' hy2 hxu' hyu' hs=>?_⟩
    . dsimp only;split
      . omega
      . exact σ1 j
    . show kZ _ s.n<=μ-1;omega
    . have hj:j<s.n:=hj;have hxu':ma s.n 1 x'.g j:=hxu';have hyu':ma s.n (-1) y'.g j:=hyu';have hs:(aI (s.known++[q]) x'.pos).b+(aI (s.known++[q]) y'.pos).b<=64:=hs;show(aI (s.known++[q]) x'.pos).b+(aI (s.known++[q]) y'.pos).b<=((if j=w then(bx+bY-1).toNat else σ j:Nat):Int);have hcases:∀z∈(add (cR s q) ⟨s.known.length,g⟩).items,z.g.length=s.n:=fun z hz=>by
        by_cases e:z.g=g
        . rw[e];rcases hg with⟨e2,_⟩|⟨e2,_⟩
          . rw[e2];exact x2
          . rw[e2,jd];exact x2
        . exact(h.inv.it z (ho z hz e)).2
      by_cases e:j=w
      . subst e;rw[if_pos rfl];have ex:x'.g=x.g:=hxu'.inj hxu (hcases x' hx2) x2;have ey:y'.g=y.g:=hyu'.inj hyu (hcases y' hy2) y2;rcases hg with⟨e2,hq2⟩|⟨e2,hq2⟩
        . have b1:=hb x' hx2 (ex.trans e2.symm);have hyo:y'∈s.items:=ho y' hy2 (by rw[ey,e2,hxy];exact fun e3=>hxny e3.symm);have:y'=y:=vZ h.inv hyo hy' ey;rw[this,hold y hy',hby];omega
        . have b1:=hb y' hy2 (by rw[ey,e2,hxy]);have hxo:x'∈s.items:=ho x' hx2 (by rw[ex,e2];exact hxny);have:x'=x:=vZ h.inv hxo hx' ex;rw[this,hold x hx',hbx];omega
      . rw[if_neg e];have nx:x'.g≠g:=fun e3=>by
          rcases hg with⟨e2,_⟩|⟨e2,_⟩
          . exact e (hxu'.at (w:=w) (by rw[e3,e2];exact hxu) (by decide) hj)
          . have h4:=hxu' j hj;rw[if_pos rfl,e3,e2,iL,hxu j hj,if_neg e]at h4;omega
        have ny:y'.g≠g:=fun e3=>by
          rcases hg with⟨e2,_⟩|⟨e2,_⟩
          . have h4:=hyu' j hj;rw[if_pos rfl,e3,e2,hxu j hj,if_neg e]at h4;omega
          . exact e (hyu'.at (w:=w) (by rw[e3,e2,<-hxy];exact hyu) (by decide) hj)
        have hxo:=ho x' hx2 nx;have hyo:=ho y' hy2 ny;rw[hold x' hxo,hold y' hyo]at hs⊢;exact σ3 j hj x' hxo y' hyo hxu' hyu' hs
  have hμ:0<μ:=by omega
  have hkl1:∀q:AQ,(s.known++[q]).length=s.known.length+1:=fun q=>by simp
  have hq1:fF (K+2) ⟨(aI s.known x.pos).c,m⟩:=⟨fun v hv=>bO (hqx.1 v hv) (by omega),by show dl m<=_;omega⟩;have hS1:=OG (b:=m) h hx';obtain⟨g1,g2,g3⟩:=Fc h hS1 hq1 hcl (by omega) (h.co x hx');have hl1:(add (cR s ⟨(aI s.known x.pos).c,m⟩) ⟨s.known.length,x.g⟩).items.length<=iB f:=by
    show(eh _ _ s.items).length<=_;rw[A9 (x:=⟨s.known.length,x.g⟩) ⟨x,hx',rfl⟩];exact hil
  have hrun1:=hR (μ-1) (by omega) _ _ _ g1 (hspn _ _ g2 g3 (.inl ⟨rfl,by show m+bY<=_;omega⟩)) hl1 (by show(s.known++[_]).length+_+_<=_;rw[hkl1];omega) (by omega);have hq2:fF (K+2) ⟨bT (aI s.known x.pos).c,-m-1⟩:=⟨Bu fun v hv=>bO (hqx.1 v hv) (by omega),dm1⟩;have hS2:=Ic (b:=-m-1) h hx';have hco2:∀j,j<s.n->(vf (bT x.g) j).natAbs<=cB f:=fun j hj=>by rw[iL,Co];exact h.co x hx' j hj
  have hcl2:(bT (aI s.known x.pos).c).length=s.n:=(jd _).trans hcl;obtain⟨k1,k2,k3⟩:=Fc h hS2 hq2 hcl2 (by omega) hco2;have hl2:(add (cR s ⟨bT (aI s.known x.pos).c,-m-1⟩) ⟨s.known.length,bT x.g⟩).items.length<=iB f:=by
    show(eh _ _ s.items).length<=_;rw[A9 (x:=⟨s.known.length,bT x.g⟩) ⟨y,hy',hxy⟩];exact hil
  have hrun2:=hR (μ-1) (by omega) _ _ _ k1 (hspn _ _ k2 k3 (.inr ⟨rfl,by show bx+(-m-1)<=_;omega⟩)) hl2 (by show(s.known++[_]).length+_+_<=_;rw[hkl1];omega) (by omega);unfold wZ;dsimp only;refine aU (mN (by rw[fY];omega) (by omega)) (aU (jU (by decide) (by decide)) (Tm.bind (qH (by omega) (by omega)) ?_));rintro⟨q3,q4,q5⟩ hq3;dsimp only at hq3⊢;rw[hmm]at hq3;subst hq3;refine aN (nN x1) ?_;have eC:(aI s.known x.pos).to.aT=mB (aI s.known x.pos).c:=rfl;rw[eC];refine RW (q:=⟨(aI s.known x.pos).c,m⟩) (K:=K+2) (g:=x.g) hcp (tH h hcl hq1 (by omega)) (by omega) (by omega) (by omega) (Dt (f:=f) hS1 (h.co x hx')) (R:=fun N r5 r6=>(R N (aR.mk r5.n r6.known r6.steps r6.u r6.status r6.value r6.items r6.stack)).bind fun r7=>_) ?_;rw[iy (n:=(cR s ⟨(aI s.known x.pos).c,m⟩).to.n) (x:=(add (cR s ⟨(aI s.known x.pos).c,m⟩) ⟨s.known.length,x.g⟩).to) rfl];refine Tm.bind hrun1 fun r7 hr7=>aZ (fun hk=>aL (hr7.up hk)) (fun hk=>?_);obtain⟨p1,hp1,rfl⟩:=hr7.ref hk;refine aU (rJ (K:=K) (by omega) (by omega) hqx.1) (aU (nX (by omega)) (aU (jU (by decide) (by decide)) (aU (l5 (by rw[fY];omega) (bO jF (by omega))) ?_)));rw[show(vec (aI s.known x.pos).c.length fun j=>-vf (aI s.known x.pos).c j)=bT (aI s.known x.pos).c from rfl];refine aU (tA (q:=⟨bT (aI s.known x.pos).c,-m-1⟩) hcp) ?_;refine aU (rJ (l:=x.g) (K:=8) (by omega) (by omega) (fun v hv=>bO (w6 x2 (h.co x hx') (by omega) v hv) (by decide))) ?_;rw[show(vec x.g.length fun j=>-vf x.g j)=bT x.g from rfl];have e:aY.mk (iw ((List.length (cR s ⟨bT (aI s.known x.pos).c,-m-1⟩).to.known:Int)-1)) (mB (bT x.g))=AI.to ⟨s.known.length,bT x.g⟩:=by
    show aY.mk (iw ((((s.known++[_]).map AQ.to).length:Int)-1)) (mB _)=aY.mk (s.known.length:Int) (mB _);congr 1;rw[cD,dd,ku,bH]<;>omega
  rw[e];refine aU (tE (K:=K+2) ((tH h hcl2 hq2 (by omega)).mT (bK _) (by omega) (by show(s.known++[_]).length<=_;rw[hkl1];omega) (by show s.items.length<=_;omega)) (Dt (f:=f) hS2 hco2)) ?_;rw[iy (n:=(cR s ⟨bT (aI s.known x.pos).c,-m-1⟩).to.n) (x:=(add (cR s ⟨bT (aI s.known x.pos).c,-m-1⟩) ⟨s.known.length,bT x.g⟩).to) rfl];refine Tm.bind hrun2 fun r8 hr8=>aZ (fun hk=>aL (hr8.up hk)) (fun hk=>?_);obtain⟨p2,hp2,rfl⟩:=hr8.ref hk;unfold qO;exact aU (aL rfl) (aL (.iC (.node s.steps (aI s.known x.pos).c m p1 p2) (.node h.jo hcl hp1 hp2)))
end
end Go.D
set_option maxHeartbeats 1000000
namespace Go.D
open Go Go.X
section
variable {sys base:List AQ} {f K:Nat} {s:St}
def Opp(s:St)(x:AI)(d:Int):Prop:=∃y∈s.items,y.g=bT x.g/\(aI s.known x.pos).b+(aI s.known y.pos).b<=d
def mU(sys:List AQ)(f:Nat)(R:Nat->aR->Option bX):Prop:=∀(base:List AQ) (K:Nat) (s:St) (x:AI),Good sys base (f+1) K s->x∈s.items->Opp s x 0->s.items.length<=iB (f+1)+1->s.known.length+iB (f+1)+280+lB f<=1073741824->K+560+dB f<=536870912->Tm (fun N=>R N s.to) (fH sys base s.n s.stack)
theorem mU.shift{R:Nat->aR->Option bX}(h:mU sys f R):mU sys f fun N=>R (N+1):=fun base K s x h1 h2 h3 h4 h5 h6=>Tm.shift (f:=fun N=>R N s.to) (h base K s x h1 h2 h3 h4 h5 h6)
theorem KJ{q:AQ}{g:List Int}(h:s.known.length+1<=1073741824):aY.mk (iw ((List.length (cR s q).to.known:Int)-1)) (mB g)=AI.to ⟨s.known.length,g⟩:=by
 show aY.mk (iw ((((s.known++[q]).map AQ.to).length:Int)-1)) (mB g)=aY.mk (s.known.length:Int) (mB g);congr 1;rw[cD,dd,ku,bH]<;>omega
theorem Hm{q:AQ}(h:s.known.length+1<=1073741824):iw ((List.length (cR s q).to.known:Int)-1)=(s.known.length:Int):=by
 show iw ((((s.known++[q]).map AQ.to).length:Int)-1)=_;rw[cD,dd,ku,bH]<;>omega
theorem IX(hI:Inv s){x:AI}(hx:x∈s.items):x.g≠bT x.g:=fun e=>by
 obtain⟨w,hw,h1,_⟩:=yg hI hx;have:=congrArg (fun l=>vf l w) e;simp only[iL]at this;omega
theorem G9{x:AI}{b:Int}{K':Nat}(h:Good sys base f K s)(hx:x∈s.items)(hb:dl b<=K')(hK:K<=K'):
 Good sys (s.known++[⟨bT (aI s.known x.pos).c,b⟩]) f K' (add (cR s ⟨bT (aI s.known x.pos).c,b⟩) ⟨s.known.length,bT x.g⟩)/\
 x∈(add (cR s ⟨bT (aI s.known x.pos).c,b⟩) ⟨s.known.length,bT x.g⟩).items/\
 Opp (add (cR s ⟨bT (aI s.known x.pos).c,b⟩) ⟨s.known.length,bT x.g⟩) x ((aI s.known x.pos).b+b)/\
 pH (cR s ⟨bT (aI s.known x.pos).c,b⟩) ⟨s.known.length,bT x.g⟩:=by
 obtain⟨x1,x2⟩:=h.inv.it x hx;have hqx:=h.q _ (eL x1);have hcl:(bT (aI s.known x.pos).c).length=s.n:=(jd _).trans (h.inv.kl _ (eL x1));have hq:fF K' ⟨bT (aI s.known x.pos).c,b⟩:=⟨Bu fun v hv=>bO (hqx.1 v hv) hK,hb⟩;have hS:=Ic (b:=b) h hx;have hco:∀j,j<s.n->(vf (bT x.g) j).natAbs<=cB f:=fun j hj=>by rw[iL,Co];exact h.co x hx j hj
 obtain⟨g1,g2,g3⟩:=Fc h hS hq hcl hK hco;refine⟨g1,Iu (show x∈(cR s _).items from hx) (IX h.inv hx),?_,Dt (f:=f) hS hco⟩;obtain⟨y,hy,y1,y2⟩:=Eu (kn:=s.known++[⟨bT (aI s.known x.pos).c,b⟩]) (x:=⟨s.known.length,bT x.g⟩) (l:=s.items);refine⟨y,hy,y1,?_⟩;have:=g3 y hy y1;show(aI (s.known++[_]) x.pos).b+_<=_;rw[iQ x1];have h2:(aI (s.known++[⟨bT (aI s.known x.pos).c,b⟩]) y.pos).b<=b:=this;show(aI s.known x.pos).b+(aI (s.known++[⟨bT (aI s.known x.pos).c,b⟩]) y.pos).b<=_;omega
theorem NO{p p':Nat}{z:AI}(hz:z∈s.items)(h:z.pos≠p):z∈(mO s p p').items:=zN.2 ⟨z,hz,if_neg h⟩
theorem Lx{x:AI}{b:Int}{K':Nat}(h:Good sys base f K s)(hx:x∈s.items)(hb:dl b<=K')(hK:K<=K')(hle:b<=(aI s.known x.pos).b):
 Good sys (s.known++[⟨(aI s.known x.pos).c,b⟩]) f K' (mO (cR s ⟨(aI s.known x.pos).c,b⟩) x.pos s.known.length)/\
 (⟨s.known.length,x.g⟩:AI)∈(mO (cR s ⟨(aI s.known x.pos).c,b⟩) x.pos s.known.length).items/\
 (∀z∈s.items,z.g≠x.g->z∈(mO (cR s ⟨(aI s.known x.pos).c,b⟩) x.pos s.known.length).items):=by
 obtain⟨x1,x2⟩:=h.inv.it x hx;have hqx:=h.q _ (eL x1);have hcl:(aI s.known x.pos).c.length=s.n:=h.inv.kl _ (eL x1);have hq:fF K' ⟨(aI s.known x.pos).c,b⟩:=⟨fun v hv=>bO (hqx.1 v hv) hK,hb⟩;have hA:=tH (q:=⟨(aI s.known x.pos).c,b⟩) h hcl hq hK;have e1:aI (cR s ⟨(aI s.known x.pos).c,b⟩).known s.known.length=⟨(aI s.known x.pos).c,b⟩:=oT;have e2:aI (cR s ⟨(aI s.known x.pos).c,b⟩).known x.pos=aI s.known x.pos:=iQ x1;refine⟨Qk hA (by show _<(s.known++[_]).length;simp) (by rw[e1,e2]) (by rw[e1,e2];exact hle),zN.2 ⟨x,hx,if_pos rfl⟩,fun z hz hne=>NO (s:=cR s _) hz fun e=>hne ?_⟩;rw[KU h.inv hz hx e]
theorem KO{p p':Nat}:(mO s p p').items.length=s.items.length:=cD ..
theorem Tj(hf:f+1<=4):∀(d:Nat) (base:List AQ) (K:Nat) (s:St) (x:AI) (kk:Int) (R:Nat->aR->Option bX),mU sys f R->Good sys base (f+1) K s->x∈s.items->Opp s x d->s.items.length<=iB (f+1)+1->
 s.known.length+d+iB (f+1)+282+lB f<=1073741824->K+d+562+dB f<=536870912->0<K->0<=kk->kk+d<=4294967295->Tm (fun N=>qC N (R N) s.to x.to (B kk) (B (kk+d))) (fH sys base s.n s.stack):=by
 have hL:cY=1099511627776:=rfl;have hC:=lR (f+1);have hmB:=nU (f+1);intro d
 induction d with
 |zero=>
  intro base K s x kk R hR h hx' ho hil hkl hK hK0 hk0 hk1;refine Tm.succ ?_;show Tm (fun N=>sa N (R (N+1)) (qC N (R (N+1))) s.to x.to (B kk) (B (kk+(0:Nat)))) _;unfold sa;have dk:dl kk<=1:=j9 (by omega);rw[show kk+((0:Nat):Int)=kk by omega];refine aU (j8 (by omega) (by omega)) (cL (by unfold bM;rw[if_neg (by omega),if_neg (by omega)]) (aU (zR (h.inv.cp h.n (by omega) (by omega))) ?_));exact Tm.bind (hR.shift base K s x h hx' (by simpa using ho) hil (by omega) (by omega)) fun r hr=>aL hr
 |succ d ih=>
  intro base K s x kk R hR h hx' ho hil hkl hK hK0 hk0 hk1;obtain⟨y,hy,hyg,hys⟩:=ho;obtain⟨x1,x2⟩:=h.inv.it x hx';have hqx:=h.q _ (eL x1);have hcl:(aI s.known x.pos).c.length=s.n:=h.inv.kl _ (eL x1);have dbx:=hqx.2;have dk:dl kk<=1:=j9 (by omega);have dk2:dl (kk+((d+1:Nat):Int))<=1:=j9 (by omega);have d1:=jF;have hcp:pG s:=h.inv.cp h.n (by omega) (by omega);have hn:=h.n;obtain⟨n1,n2,n3,n4⟩:=G9 (b:=-(aI s.known x.pos).b) (K':=K) h hx' (by rw[fY];exact dbx) (bK _);have nl:(add (cR s ⟨bT (aI s.known x.pos).c,-(aI s.known x.pos).b⟩) ⟨s.known.length,bT x.g⟩).items.length<=iB (f+1)+1:=by
   show(eh _ _ s.items).length<=_;rw[A9 (x:=⟨s.known.length,bT x.g⟩) ⟨y,hy,hyg⟩];exact hil
  obtain⟨f1,f2,f3⟩:=Lx (b:=(aI s.known x.pos).b-1) (K':=K+1) h hx' (jX dbx (by omega)) (by omega) (by omega);have hyx:y.g≠x.g:=fun e=>IX h.inv hx' (by rw[<-hyg,e]);have hkl1:∀q:AQ,(s.known++[q]).length=s.known.length+1:=fun q=>by simp
  refine Tm.succ ?_;show Tm (fun N=>sa N (R (N+1)) (qC N (R (N+1))) s.to x.to (B kk) (B (kk+(d+1:Nat)))) _;unfold sa;refine aU (j8 (by omega) (by omega)) (cC (by unfold bM;(repeat' split)<;>omega) ?_);refine aN (nN x1) ?_;rw[show(aI s.known x.pos).to.aT=mB (aI s.known x.pos).c from rfl];refine aU (rJ (K:=K) (by omega) (by omega) hqx.1) (aU (nX (by omega)) ?_);rw[show(vec (aI s.known x.pos).c.length fun j=>-vf (aI s.known x.pos).c j)=bT (aI s.known x.pos).c from rfl];refine aU (tA (q:=⟨bT (aI s.known x.pos).c,-(aI s.known x.pos).b⟩) hcp) ?_;refine aU (rJ (l:=x.g) (K:=8) (by omega) (by omega) (fun v hv=>bO (w6 x2 (h.co x hx') (by omega) v hv) (by decide))) ?_;rw[show(vec x.g.length fun j=>-vf x.g j)=bT x.g from rfl];rw[KJ (by omega)];have hqn:fF K ⟨bT (aI s.known x.pos).c,-(aI s.known x.pos).b⟩:=⟨Bu hqx.1,by show dl _<=_;rw[fY];exact dbx⟩;refine aU (tE (K:=K) ((tH h ((jd _).trans hcl) hqn (bK _)).mT (bK _) (by omega) (by show(s.known++[_]).length<=_;rw[hkl1];omega) (by show s.items.length<=_;omega)) n4) ?_;rw[iy (n:=(cR s ⟨bT (aI s.known x.pos).c,-(aI s.known x.pos).b⟩).to.n) (x:=(add (cR s ⟨bT (aI s.known x.pos).c,-(aI s.known x.pos).b⟩) ⟨s.known.length,bT x.g⟩).to) rfl];refine Tm.bind (hR.shift _ K _ x n1 n2 (by rw[show(aI s.known x.pos).b+-(aI s.known x.pos).b=0 by omega]at n3;exact n3) nl (by show(s.known++[_]).length+_+_+_<=_;rw[hkl1];omega) (by omega)) fun r7 hr7=>aZ (fun hk=>aL (hr7.up hk)) (fun hk=>?_);obtain⟨p1,hp1,rfl⟩:=hr7.ref hk;refine aU (jU (by decide) (by decide)) (aU (l5 (a:=(aI s.known x.pos).b) (by omega) (by omega)) ?_);refine aU (tA (q:=⟨(aI s.known x.pos).c,(aI s.known x.pos).b-1⟩) hcp) ?_;rw[Hm (by omega)];refine aU (Hz (l:=s.items) (p:=x.pos) (p':=s.known.length) (by omega)) ?_;refine aU (jU (by decide) (by decide)) (aU (mN (by omega) (by omega)) ?_);have hrun:=ih _ (K+1) _ ⟨s.known.length,x.g⟩ (kk+1) _ hR.shift f1 f2 ⟨y,f3 y hy hyx,hyg,by
   show(aI (s.known++[_]) s.known.length).b+(aI (s.known++[_]) y.pos).b<=_;rw[oT,iQ (h.inv.it y hy).1];dsimp only;omega⟩ (by rw[KO];exact hil) (by show(s.known++[_]).length+_+_+_+_<=_;rw[hkl1];omega) (by omega) (by omega) (by omega) (by omega)
  rw[show kk+1+(d:Int)=kk+((d+1:Nat):Int) by omega]at hrun;refine Tm.bind (show Tm (fun N=>qC N (R (N+1)) (aR.mk (cR s ⟨(aI s.known x.pos).c,(aI s.known x.pos).b-1⟩).to.n (cR s ⟨(aI s.known x.pos).c,(aI s.known x.pos).b-1⟩).to.known (cR s ⟨(aI s.known x.pos).c,(aI s.known x.pos).b-1⟩).to.steps (cR s ⟨(aI s.known x.pos).c,(aI s.known x.pos).b-1⟩).to.u (cR s ⟨(aI s.known x.pos).c,(aI s.known x.pos).b-1⟩).to.status (cR s ⟨(aI s.known x.pos).c,(aI s.known x.pos).b-1⟩).to.value (mI (rG s.items x.pos s.known.length)) (cR s ⟨(aI s.known x.pos).c,(aI s.known x.pos).b-1⟩).to.stack) _ _ _) _ from hrun) fun r8 hr8=>aZ (fun hk=>aL (hr8.up hk)) (fun hk=>?_);obtain⟨p2,hp2,rfl⟩:=hr8.ref hk;unfold qO;refine aU (aL rfl) (aL (.iC (.node s.steps (bT (aI s.known x.pos).c) (-(aI s.known x.pos).b) p1 p2) (.node h.jo ((jd _).trans hcl) hp1 ?_)));rw[EG,show- -(aI s.known x.pos).b-1=(aI s.known x.pos).b-1 by omega];exact hp2
end
end Go.D
set_option maxHeartbeats 1000000
namespace Go.D
open Go Go.X
section
variable {sys base:List AQ} {f K:Nat} {s s0:St} {v:Nat}
structure SI (sys base:List AQ)(f K:Nat)(s0:St)(v:Nat)(l:List AI)(s:St):Prop where
 fP:Good sys base (f+1) K s
 kept:Kept s0 s
 bR:cz v s.items=cz v s0.items
 z:∀x∈s0.items,vf x.g v=0->x∈s.items
 il:s.items.length<=iB (f+1)
 lm:∀w∈l,w∈s.items/\w∈s0.items/\vf w.g v<0
 nd:l.Pairwise fun a b=>a.g≠b.g
 low:∀w∈du v s0.items,w∈l\/∃w'∈du v s.items,w'.g=w.g/\(aI s.known w'.pos).b+max (gM v w (cz v s0.items)+1) 0<=(aI s0.known w.pos).b
theorem OC{bR:List AI}{a b:AI}(h:a.g=b.g):gM v a bR=gM v b bR:=by unfold gM;rw[h]
theorem AT(h:Kept s0 s){p:Nat}(hp:p<s0.known.length):aI s.known p=aI s0.known p:=by
 obtain⟨e,he⟩:=h.kn;rw[he,iQ hp]
theorem SI.skip{e:AI}{l:List AI}(h:SI sys base f K s0 v (e::l) s)(hI0:Inv s0)(hs:gM v e (cz v s0.items)<0):SI sys base f K s0 v l s where
 fP:=h.fP
 kept:=h.kept
 bR:=h.bR
 z:=h.z
 il:=h.il
 lm w hw:=h.lm w (cJ _ hw)
 nd:=(yH.1 h.nd).2
 low w hw:=by
  rcases h.low w hw with h1|h1
  . rcases eb.1 h1 with rfl|h1
    . obtain⟨a,b,c⟩:=h.lm w cO;refine .inr ⟨w,im.2 ⟨a,c⟩,rfl,?_⟩;rw[AT h.kept (hI0.it w b).1,Nk (by omega)];omega
    . exact .inl h1
  . exact .inr h1
theorem SI.far{e:AI}{l:List AI}{k:Int}(h:SI sys base f K s0 v (e::l) s)(hI0:Inv s0)(hs:gM v e (cz v s0.items)=k)(hk:0<=k)(hk':k<4294967296):
 SI sys (s.known++[⟨(aI s.known e.pos).c,(aI s.known e.pos).b-k-1⟩]) f (K+3) s0 v l (mO (cR s ⟨(aI s.known e.pos).c,(aI s.known e.pos).b-k-1⟩) e.pos s.known.length):=by
 obtain⟨em,em0,ev⟩:=h.lm e cO;obtain⟨e1,e2⟩:=h.fP.inv.it e em;have hd:=(h.fP.q _ (eL e1)).2;have d1:dl ((aI s.known e.pos).b-k)<=K+2:=jX (K:=K+1) (by omega) (bO (j9 (by omega)) (by omega));have d2:dl ((aI s.known e.pos).b-k-1)<=K+3:=jX (K:=K+2) d1 (bO jF (by omega));obtain⟨g1,g2,g3⟩:=Lx (b:=(aI s.known e.pos).b-k-1) (K':=K+3) h.fP em d2 (by omega) (by omega);have hk2:Kept s (mO (cR s ⟨(aI s.known e.pos).c,(aI s.known e.pos).b-k-1⟩) e.pos s.known.length):=(Ig s _).trans (Ip _ _ _);have hun:∀x∈s.items,x.pos=e.pos->x=e:=fun x hx he=>KU h.fP.inv hx em he;refine⟨g1,h.kept.trans hk2,?_,fun x hx hx0=>g3 x (h.z x hx hx0) fun he=>?_,by rw[KO];exact h.il,fun w hw=>?_,(yH.1 h.nd).2,fun w hw=>?_⟩
 . rw[<-h.bR];show(List.map _ s.items).filter _=s.items.filter _;rw[List.filter_map];have e3:(s.items.filter ((fun x:AI=>decide (0<vf x.g v))∘fun x=>if x.pos=e.pos then({x with pos:=s.known.length}:AI)else x))=cz v s.items:=by
    unfold cz;refine List.filter_congr fun x _=>?_;show decide (0<vf (if x.pos=e.pos then({x with pos:=s.known.length}:AI)else x).g v)=_;split<;>rfl
   rw[e3];have e4:∀x∈cz v s.items,(if x.pos=e.pos then({x with pos:=s.known.length}:AI)else x)=id x:=fun x hx=>if_neg fun he=>by
    obtain⟨x1,x2⟩:=j7.1 hx;rw[hun x x1 he]at x2;omega
   rw[Cj e4,List.map_id];rfl
 . rw[he]at hx0;omega
 . obtain⟨a,b,c⟩:=h.lm w (cJ _ hw);exact⟨g3 w a fun he=>(yH.1 h.nd).1 w hw he.symm,b,c⟩
 . by_cases hwe:w.g=e.g
   . obtain rfl:w=e:=vZ hI0 (im.1 hw).1 em0 hwe;refine .inr ⟨⟨s.known.length,w.g⟩,im.2 ⟨g2,ev⟩,rfl,?_⟩;show(aI (s.known++[_]) s.known.length).b+_<=_;rw[oT,hs,Int.max_eq_left (by omega)];dsimp only;rw[AT h.kept (hI0.it w em0).1];omega
   . rcases h.low w hw with h1|⟨w',hw',e3,e4⟩
     . rcases eb.1 h1 with rfl|h1
       . exact absurd rfl hwe
       . exact .inl h1
     . obtain⟨m1,m2⟩:=im.1 hw';refine .inr ⟨w',im.2 ⟨g3 w' m1 (by rw[e3];exact hwe),m2⟩,e3,?_⟩;show(aI (s.known++[_]) w'.pos).b+_<=_;rw[iQ (h.fP.inv.it w' m1).1];exact e4
theorem SI.last(hf:f+1<=4)(h:SI sys base f K s0 v [] s)(hI0:Inv s0)(hr0:RF sys s0)(hv:v<s.n)(hst:vf s.status v=0)(hup:cz v s0.items≠[])(hkl:s.known.length+(iB (f+1)+1)*(iB (f+1)+1)/4<=1073741824)(hK:K+6<=536870912)(hil0:s0.items.length<=1073741824):
 Nxt sys base f (K+6) (s.known.length+(iB (f+1)+1)*(iB (f+1)+1)/4) s.n (s.stack++[⟨v,fg s0 v,false⟩]) ((bU (fy s v false (fg s0 v)) (dc s v)).1,(bU (fy s v false (fg s0 v)) (dc s v)).2.to):=by
 have hn0:s.n=s0.n:=h.kept.n;have hats0:=KT hI0 (v:=v) (by rw[<-hn0];exact hv);obtain⟨ke,hke⟩:=h.kept.kn;have hux:∀y i,ux s y i=ux s0 y i:=fun y i=>by unfold ux;rw[h.kept.u,h.kept.n]
 have hxs:∀y p,p<s0.known.length->(hx s (ux s y) p↔hx s0 (ux s0 y) p):=fun y p hp=>si hn0 hke hp fun i _=>hux y i;have hih:∀y (x:AI),x.pos<s0.known.length->(IH s y x↔IH s0 y x):=fun y x hp=>wM hn0 hke hp;refine Ln hf h.fP hI0 hr0 h.kept hv hst (fun p hp=>?_) (bO Kg hil0) (fun y h1 h2 x hx'=>?_) (fun _ y hp=>?_) (bK _) (by have:=h.il;omega) hkl hK
 . obtain⟨a,b,c⟩:=hats0 p hp;refine⟨by rw[hke,dd];omega,fun j hj hs=>?_,?_⟩
   . rw[h.kept.u,hn0,AT h.kept a];exact b j (by rw[<-hn0];exact hj) (by rw[<-h.kept.status];exact hs)
   . rw[h.kept.u,hn0,AT h.kept a];exact c
 . by_cases h0:vf x.g v=0
   . exact(hih y x (hI0.it x hx').1).1 (h1 x (h.z x hx' h0) h0)
   . refine(vK hI0 hx').2 ((hxs y _ (hI0.it x hx').1).1 (h2 _ (dz.2 ⟨x,fR.2 ?_,rfl⟩)));rcases tw h0 with g|g
     . exact .inr (im.2 ⟨hx',g⟩)
     . exact .inl (j7.2 ⟨hx',g⟩)
 . obtain⟨z,z1,z2⟩:=H5 (y:=y) hv (fun w=>(aI s.known w.pos).b+max (gM v w (cz v s0.items)+1) 0) (fun x hx' w hw=>by
    have h0:=hp x hx' w hw;have hne:cz v s.items≠[]:=GI hx';have h3:=J5 (j7.1 hx').2 (Kw x hx') (show 0< -vf w.g v by have:=(im.1 hw).2;omega) (HD (low:=w) (Di hne));rw[h.bR]at h3;rw[pP];omega)
   refine⟨z,fun p hp'=>?_⟩;obtain⟨x,hx',rfl⟩:=dz.1 hp';rcases fR.1 hx' with hx'|hx'
   . rw[<-h.bR]at hx';exact(vK h.fP.inv (j7.1 hx').1).1 (z1 x hx')
   . obtain⟨m1,m2⟩:=im.1 hx';rcases h.low x hx' with h1|⟨w',hw',e3,e4⟩
     . cases h1
     . have h5:=z2 w' hw';rw[OC e3,e3]at h5;refine(hxs _ _ (hI0.it x m1).1).2 ((vK hI0 m1).1 ((FZ (by rw[<-hn0];exact hv)).2 ?_));rw[<-hn0];omega
theorem Ub{low:AI}{bR:List AI}(h:0<dY v bR)(hb:vf low.g v<0):gM v low bR≤-vf low.g v:=by
 have h1:=qE (a:=dY v bR*-vf low.g v-dY v bR- -vf low.g v) h;unfold gM;generalize(dY v bR*-vf low.g v-dY v bR- -vf low.g v).fdiv (dY v bR)=q at*;refine Ck (a:=dY v bR) ?_ h;rw[fm (dY v bR) q];omega
def lF(s:St)(t:List AE):St:={s with stack:=t}
theorem TZ(s:St)(g:List Int)(us:List AU)(t:List AE):dst (lF s t) g us=lF (dst s g us) t:=by
 unfold dst;split<;>rfl
theorem Tv(s:St)(g:List Int)(us:List AU)(t:List AE):put (lF s t) g us=((put s g us).1,lF (put s g us).2 t):=by
 unfold put nc;rw[TZ];dsimp only;split<;>rfl
theorem C4(t:List AE):∀(L:List Act) (s:St),bU (lF s t) L=((bU s L).1,lF (bU s L).2 t)
 |[],s=>rfl
 |.add x::r,s=>C4 t r (add s x)
 |.put g us::r,s=>by
  have e1:bU (lF s t) (.put g us::r)=if(put (lF s t) g us).1=true then bU (put (lF s t) g us).2 r else(false,(put (lF s t) g us).2):=rfl;have e2:bU s (.put g us::r)=if(put s g us).1=true then bU (put s g us).2 r else(false,(put s g us).2):=rfl;rw[e1,e2,Tv];dsimp only;split
  . exact C4 t r _
  . rfl
theorem TW(hf:f+1<=4)(hI0:Inv s0)(hr0:RF sys s0)(hv0:v<s0.n)(hst0:vf s0.status v=0)(hup:cz v s0.items≠[])(hil0:s0.items.length<=iB (f+1)):
 ∀(m:Nat) (l:List AI) (base:List AQ) (K:Nat) (s:St) (R:Nat->aR->Option bX),l.length<=m->mU sys f R->lT sys f 260 R->SI sys base f K s0 v l s->
  s.known.length+m+cB (f+1)+(iB (f+1)+1)+(iB (f+1)+1)*(iB (f+1)+1)/4+283+lB f<=1073741824->K+3*m+cB (f+1)+570+dB f<=536870912->
  Tm (fun N=>mD N (R N) s.to (v:Int) (mI l) ((fg s0 v).map Int.ofNat)) (fH sys base s.n s.stack):=by
 have hL:cY=1099511627776:=rfl;have hC:=lR (f+1);have hmB:=nU (f+1);intro m
 induction m with
 |zero=>
  intro l base K s R hl hE hP h hkl hK;obtain rfl:=mo.1 (Nat.le_zero.1 hl);have hn:=h.fP.n;have hn0:s.n=s0.n:=h.kept.n;have hil:=h.il;have hv:v<s.n:=by rw[hn0];exact hv0
  have hst:vf s.status v=0:=by rw[h.kept.status];exact hst0
  have hcp:pG s:=h.fP.inv.cp hn (by omega) (by omega);have hlast:=h.last hf hI0 hr0 hv hst hup (by omega) (by omega) (by omega);refine Tm.succ ?_;show Tm (fun N=>pI N (R (N+1)) (mD N (R (N+1))) s.to (v:Int) (mI []) ((fg s0 v).map Int.ofNat)) _;unfold pI;refine aU (wJ (h.fP.zK (by omega)) hv) ?_;refine aU (a:=[]) (Tm.loop (fun t=>t=[]) (fun _=>0) rfl ?_) ?_
  . rintro _ rfl;dsimp only[ua];refine aU (a:=false) (cC (by simp) (aL rfl)) (cC (by simp) (aL rfl))
  refine cL (by simp) (aU (zR hcp) (aU (KQ (m:=iB (f+1)+1) (t:=false) h.fP hv (bK _) (by omega) (by omega) (by omega)) ?_));have hsk:(bU (eH s v false) (dc s v)).2.stack=s.stack++[⟨v,fg s v,false⟩]:=(AN (dc s v) (eH s v false)).dP;have est:∀x:AE,(bU (eH s v false) (dc s v)).2.to.stack=s.stack.map AE.to++[(⟨v,fg s v,false⟩:AE).to]:=fun _=>by
   show List.map AE.to (bU (eH s v false) (dc s v)).2.stack=_;rw[hsk,jg];rfl
  have est:=est ⟨0,[],false⟩;have hsl:=E3 h.fP.inv;dsimp only;rw[est];have hpos:iw (((s.stack.map AE.to++[(⟨v,fg s v,false⟩:AE).to]).length:Int)-1)=((s.stack.map AE.to).length:Int):=by
   rw[dd,ku,cD,bH]<;>omega
  rw[hpos];refine aN (a:=(⟨v,fg s v,false⟩:AE).to) (by rw[cU (by simp)];simp) ?_;refine aN (ee (n:=(s.stack.map AE.to).length) rfl (by simp)) ?_;have eset:(s.stack.map AE.to++[(⟨v,fg s v,false⟩:AE).to]).set (s.stack.map AE.to).length (dK.mk (⟨v,fg s v,false⟩:AE).to.v ((fg s0 v).map Int.ofNat) (⟨v,fg s v,false⟩:AE).to.dD)=(s.stack++[(⟨v,fg s0 v,false⟩:AE)]).map AE.to:=by
   rw[List.set_append_right _ _ (bK _),vN,jg];rfl
  rw[eset];have ek:bU (fy s v false (fg s0 v)) (dc s v)=((bU (eH s v false) (dc s v)).1,lF (bU (eH s v false) (dc s v)).2 (s.stack++[⟨v,fg s0 v,false⟩])):=C4 _ (dc s v) (eH s v false);rw[ek]at hlast;dsimp only at hlast;have esS:aR.mk s.to.n (bU (eH s v false) (dc s v)).2.to.known (bU (eH s v false) (dc s v)).2.to.steps (bU (eH s v false) (dc s v)).2.to.u (bU (eH s v false) (dc s v)).2.to.status (bU (eH s v false) (dc s v)).2.to.value (bU (eH s v false) (dc s v)).2.to.items ((s.stack++[(⟨v,fg s0 v,false⟩:AE)]).map AE.to)=(lF (bU (eH s v false) (dc s v)).2 (s.stack++[⟨v,fg s0 v,false⟩])).to:=by
   have:(bU (eH s v false) (dc s v)).2.n=s.n:=(AN (dc s v) (eH s v false)).n;unfold lF St.to;dsimp only;rw[this]
  rw[esS];obtain⟨s',hs',hn',hcase⟩:=hlast;dsimp only at hs' hcase;rw[hs'];rcases hcase with⟨hb,hg,hgi,hgl,hgs⟩|⟨hb,href⟩
  . refine cC (by rw[hb];simp) (Tm.bind (hP.shift base (K+6) s' hg (BV hg.n) hgi (by omega) (by omega)) fun r hr=>aL ?_);rw[hn',hgs]at hr;cases hr with
    |solved x a b c=>exact .solved x a b c
    |iC p a=>exact .iC p a
    |failed e' a b=>
     rcases fR.1 a with a|a
     . exact .failed e' a b
     . rw[cP.1 a]at b;cases b
  . refine cL (by rw[hb];rfl) ?_;unfold jG;exact aU (aL rfl) (aL (.iC (.leaf s'.steps) href))
 |succ m ih=>
  intro l base K s R hl hE hP h hkl hK;have hn:=h.fP.n;have hn0:s.n=s0.n:=h.kept.n;have hil:=h.il;have hv:v<s.n:=by rw[hn0];exact hv0
  have hst:vf s.status v=0:=by rw[h.kept.status];exact hst0
  have hcp:pG s:=h.fP.inv.cp hn (by omega) (by omega);have hit:=h.fP.zK (by omega);have hups:=oG (v:=v) hit;have hupn:cz v s.items≠[]:=by rw[h.bR];exact hup
  have hItm:∀w∈s.items,w.g.length=s.n/\dl (vf w.g v)<=8:=fun w hw=>⟨(hit.2 w hw).1,hit.vf hw v⟩;by_cases h0:l=[]
  . subst h0;have:=ih [] base K s R (fE _) hE hP h (by omega) (by omega);exact this
  refine Tm.succ ?_;show Tm (fun N=>pI N (R (N+1)) (mD N (R (N+1))) s.to (v:Int) (mI l) ((fg s0 v).map Int.ofNat)) _;unfold pI;refine aU (wJ hit hv) ?_;dsimp only;refine Tm.bind (Q:=fun r=>∃d:List AI,r=mI d/\d.length<=l.length/\SI sys base f K s0 v d s/\(d=[]\/∃e t,d=e::t/\0<=gM v e (cz v s0.items)))
   (Tm.xg (fun(d:List AI) t=>t=mI d/\d.length<=l.length/\SI sys base f K s0 v d s) (fun d=>d.length) l ⟨rfl,bK _,h⟩ ?_) ?_
  . rintro d _ ⟨rfl,hdl,hd⟩;dsimp only[ua];cases d with
    |nil=>exact aU (a:=false) (cC (by rw[fh];simp) (aL rfl)) (cC (by simp) (aL ⟨[],rfl,hdl,hd,.inl rfl⟩))
    |cons e t=>
     obtain⟨em,em0,ev⟩:=hd.lm e cO;have hsd:=yf (low:=e) hups hupn (hItm e em).2;refine aU (a:=decide (gM v e (cz v s.items)<0)) (cL (by rw[fh,cv];omega) (aN (a:=e.to) rfl (aU (wh hups hupn (hItm e em).1 (hItm e em).2 hv) (aU (jv (by omega)) (aL (decide_eq_decide.2 og)))))) ?_;refine aZ (fun hs=>?_) (fun hs=>aL ⟨e::t,rfl,hdl,hd,.inr ⟨e,t,rfl,?_⟩⟩)
     . have hs:=of_decide_eq_true hs;rw[h.bR]at hs;refine aN (a:=mI t) ?_ (aL ⟨t,⟨rfl,by rw[cv]at hdl;omega,hd.skip hI0 hs⟩,by rw[cv];omega⟩);rw[rU (i:=1) (j:=((mI (e::t)).length:Int)) (m:=1) (n:=(mI (e::t)).length) rfl rfl (by rw[fh,cv];omega) (bK _),tq];rfl
     . have hs:¬gM v e (cz v s.items)<0:=fun e'=>hs (decide_eq_true e');rw[h.bR]at hs;omega
  rintro _ ⟨d,rfl,hdl,hd,hcase⟩;rcases hcase with rfl|⟨e,t,rfl,hk0⟩
  . 
    have hlast:=ih [] base K s R (fE _) hE hP hd (by omega) (by omega);obtain⟨a,N0,ha,hN0⟩:=Tm.shift (f:=fun N=>mD N (R N) s.to (v:Int) (mI []) ((fg s0 v).map Int.ofNat)) hlast;obtain⟨_,N1,rfl,hN1⟩:=wJ hit hv;have hloop:∀N r1,0<N->bI (ua N (R (N+1)) (mD N (R (N+1))) (v:Int) r1) N (mI [])=some (mI []):=fun N r1 hN=>by
     obtain⟨n,rfl⟩:∃n,N=n+1:=⟨N-1,by omega⟩;exact xt (by
      dsimp only[ua];rw[if_neg (by rw[fh];simp)];rfl)
    refine⟨a,max N0 N1+1,ha,fun N hN=>?_⟩;have h2:=hN0 N (by omega);have h2:pI N (R (N+1)) (mD N (R (N+1))) s.to (v:Int) (mI []) ((fg s0 v).map Int.ofNat)=some a:=h2;unfold pI at h2;rw[show sy N s.to (v:Int)=some _ from hN1 N (by omega)]at h2;rw[F5,hloop N _ (by omega),F5]at h2;exact h2
  . obtain⟨em,em0,ev⟩:=hd.lm e cO;obtain⟨e1,e2⟩:=h.fP.inv.it e em;have hqe:=h.fP.q _ (eL e1);have hcl:(aI s.known e.pos).c.length=s.n:=h.fP.inv.kl _ (eL e1);have hsd:=yf (low:=e) hups hupn (hItm e em).2;have hsle:=Ub (low:=e) (Di hupn) ev;rw[h.bR]at hsd hsle;have hco:=h.fP.co e em v hv;generalize hk:gM v e (cz v s0.items)=k at*;have dk:dl k<=1:=j9 (by omega);have dq:=hqe.2;have d1:=jF;have da:dl ((aI s.known e.pos).b-k)<=K+2:=jX (K:=K+1) (by omega) (by omega);have dn:dl (k-(aI s.known e.pos).b)<=K+2:=jX (K:=K+1) (by omega) (by omega);have hkl1:∀q:AQ,(s.known++[q]).length=s.known.length+1:=fun q=>by simp
    rw[cv]at hdl;refine cC (by rw[fh,cv];omega) ?_;refine aN (a:=e.to) rfl (aN (a:=e.to) rfl (aU (wh hups hupn (hItm e em).1 (hItm e em).2 hv) (aN (nN e1) ?_)));rw[h.bR,hk];rw[show(aI s.known e.pos).to.aT=mB (aI s.known e.pos).c from rfl];refine aU (rJ (K:=K) (by omega) (by omega) hqe.1) ?_;rw[show(vec (aI s.known e.pos).c.length fun j=>-vf (aI s.known e.pos).c j)=bT (aI s.known e.pos).c from rfl];refine aU (l5 (a:=(aI s.known e.pos).b) (by omega) (by omega)) (aU (jU (by decide) (by decide)) (aU (l5 (by omega) (by omega)) ?_));refine aU (tA (q:=⟨(aI s.known e.pos).c,(aI s.known e.pos).b-k-1⟩) hcp) ?_;rw[Hm (by omega)];refine aU (Hz (l:=s.items) (p:=e.pos) (p':=s.known.length) (by omega)) ?_;refine aN (a:=mI t) ?_ ?_
    . rw[rU (i:=1) (j:=((mI (e::t)).length:Int)) (m:=1) (n:=(mI (e::t)).length) rfl rfl (by rw[fh,cv];omega) (bK _),tq];rfl
    have hfar:=hd.far hI0 hk hk0 (by omega);have hself:=ih t _ (K+3) _ _ (by omega) hE.shift hP.shift hfar (by show(s.known++[_]).length+_+_+_+_+_+_<=_;rw[hkl1];omega) (by omega);refine Tm.bind (show Tm (fun N=>mD N (R (N+1)) (aR.mk (cR s ⟨(aI s.known e.pos).c,(aI s.known e.pos).b-k-1⟩).to.n (cR s ⟨(aI s.known e.pos).c,(aI s.known e.pos).b-k-1⟩).to.known (cR s ⟨(aI s.known e.pos).c,(aI s.known e.pos).b-k-1⟩).to.steps (cR s ⟨(aI s.known e.pos).c,(aI s.known e.pos).b-k-1⟩).to.u (cR s ⟨(aI s.known e.pos).c,(aI s.known e.pos).b-k-1⟩).to.status (cR s ⟨(aI s.known e.pos).c,(aI s.known e.pos).b-k-1⟩).to.value (mI (rG s.items e.pos s.known.length)) (cR s ⟨(aI s.known e.pos).c,(aI s.known e.pos).b-k-1⟩).to.stack) (v:Int) (mI t) ((fg s0 v).map Int.ofNat)) _ from hself) fun r1 hr1=>aZ (fun hk=>aL (hr1.up hk)) (fun hkind=>?_);obtain⟨p2,hp2,rfl⟩:=hr1.ref hkind;obtain⟨n1,n2,n3,n4⟩:=G9 (b:=k-(aI s.known e.pos).b) (K':=K+2) h.fP em dn (by omega);have nl:(add (cR s ⟨bT (aI s.known e.pos).c,k-(aI s.known e.pos).b⟩) ⟨s.known.length,bT e.g⟩).items.length<=iB (f+1)+1:=by
     have:=vC (kn:=(cR s ⟨bT (aI s.known e.pos).c,k-(aI s.known e.pos).b⟩).known) (x:=⟨s.known.length,bT e.g⟩) (l:=s.items);show(eh _ _ s.items).length<=_;omega
    refine aU (l5 (b:=(aI s.known e.pos).b) (by omega) (by omega)) (aU (tA (q:=⟨bT (aI s.known e.pos).c,k-(aI s.known e.pos).b⟩) hcp) ?_);refine aU (rJ (l:=e.g) (K:=8) (by omega) (by omega) (hit.2 e em).2) ?_;rw[show(vec e.g.length fun j=>-vf e.g j)=bT e.g from rfl];rw[KJ (by omega)];have hqn:fF (K+2) ⟨bT (aI s.known e.pos).c,k-(aI s.known e.pos).b⟩:=⟨Bu fun w hw=>bO (hqe.1 w hw) (by omega),dn⟩;refine aU (tE (K:=K+2) ((tH h.fP ((jd _).trans hcl) hqn (by omega)).mT (bK _) (by omega) (by show(s.known++[_]).length<=_;rw[hkl1];omega) (by show s.items.length<=_;omega)) n4) ?_;rw[iy (n:=(cR s ⟨bT (aI s.known e.pos).c,k-(aI s.known e.pos).b⟩).to.n) (x:=(add (cR s ⟨bT (aI s.known e.pos).c,k-(aI s.known e.pos).b⟩) ⟨s.known.length,bT e.g⟩).to) rfl];have hch:=Tj hf k.toNat _ (K+2) _ e 0 (fun N=>R (N+1)) hE.shift n1 n2 (by
     obtain⟨y,y1,y2,y3⟩:=n3;exact⟨y,y1,y2,by omega⟩) nl (by show(s.known++[_]).length+_+_+_+_<=_;rw[hkl1];omega) (by omega) (by omega) (nk _) (by omega)
    rw[show(0:Int)+(k.toNat:Int)=k by omega,B0]at hch;refine Tm.bind hch fun r2 hr2=>aZ (fun hk=>aL (hr2.up hk)) (fun hkind2=>?_);obtain⟨p1,hp1,rfl⟩:=hr2.ref hkind2;unfold qO;refine aU (aL rfl) (aL (.iC (.node s.steps (bT (aI s.known e.pos).c) (k-(aI s.known e.pos).b) p1 p2) (.node h.fP.jo ((jd _).trans hcl) hp1 ?_)));rw[EG,show-(k-(aI s.known e.pos).b)-1=(aI s.known e.pos).b-k-1 by omega];exact hp2
end
end Go.D
set_option maxHeartbeats 1000000
namespace Go.D
open Go Go.X
section
variable {sys base:List AQ} {f K μ:Nat} {s:St} {v:Nat}
def BN(s:St):Prop:=∀x∈s.items,∀y∈s.items,(∀k,k<s.n->vf y.g k=-vf x.g k)->0<(aI s.known x.pos).b+(aI s.known y.pos).b
theorem R7(h:∀i j,i<s.items.length->j<s.items.length->(∀k,k<s.n->vf (bD s j).g k=-vf (bD s i).g k)->0<(aI s.known (bD s i).pos).b+(aI s.known (bD s j).pos).b):BN s:=by
 intro x hx y hy hg;obtain⟨i,hi,rfl⟩:=nm hx;obtain⟨j,hj,rfl⟩:=nm hy;have:=h i j hi hj;rw[l7 hi,l7 hj]at this;exact this hg
theorem fH.less{n:Nat}{dP stk':List AE}{r:bX}(h:fH sys base n stk' r)(hs:∀e∈stk',e.dD=true->e∈dP):fH sys base n dP r:=by
 cases h with
 |solved x a b c=>exact .solved x a b c
 |iC p a=>exact .iC p a
 |failed e a b=>exact .failed e (hs e a b) b
theorem S8{R:Nat->aR->Option bX}(hf:f+1<=4)(hR:lT sys f 260 R)(hE:mU sys f R)(hH:∀μ',μ'<μ->lT sys (f+1) μ' R)(h:Good sys base (f+1) K s)(hσ:uo μ s)(hil:s.items.length<=iB (f+1))(hkl:s.known.length+μ+lB (f+1)<=1073741824)(hK:K+2*μ+dB (f+1)<=536870912)
 (hv:v<s.n)(hst:vf s.status v=0)(hex:¬rV s v)(hp:BN s):Tm (fun N=>vz N (R N) s.to (v:Int)) (fH sys base s.n s.stack):=by
 have hL:cY=1099511627776:=rfl;have hC:=lR (f+1);have hmB:=nU (f+1);have hn:=h.n;have hlN:=xz (f:=f) (m:=iB (f+1)+1) hf (bK _);have hdN:=xZ (f:=f) (m:=iB (f+1)+1) hf (bK _);have hit:=h.zK (by omega);have hup:cz v s.items≠[]:=fun e=>hex (.inl e);have hcp:pG s:=h.inv.cp hn (by omega) (by omega);unfold vz;refine Tm.bind (Pl h.inv hit (by omega) h.q (by omega)) ?_;rintro⟨c,ok⟩ hc;dsimp only at hc⊢;refine Tm.bind (Q:=fun r:Sum Unit bX=>r=.inl ()\/∃z,r=.inr z/\fH sys base s.n s.stack z) (aZ (fun h1=>?_) (fun h1=>aL (.inl rfl))) ?_
 . obtain⟨x,hx',y,hy',w,hw,hxu,hyu,rfl⟩:=hc h1;have b1:=(h.q _ (eL (h.inv.it x hx').1)).2;have b2:=(h.q _ (eL (h.inv.it y hy').1)).2;have d1:=jX (a:=(aI s.known x.pos).b) (b:=-(aI s.known y.pos).b) b1 (by rw[fY];exact b2);have d64:dl (64:Int)<=1:=j9 (by decide);have hpos:=hp x hx' y hy' fun k hk=>by rw[hxu k hk,hyu k hk];split<;>rfl
   refine aU (l5 (by omega) (by rw[fY];omega)) ?_;refine Tm.bind (Q:=fun b=>b=true->(aI s.known x.pos).b- -(aI s.known y.pos).b<=64) (aU (jU (by decide) (by decide)) (aU (j8 (by omega) (by omega)) (aZ (fun h2=>?_) (fun h2=>aL fun e=>(by cases e))))) ?_
   . refine Tm.bind (RJ hit hv (.inl hup)) ?_;rintro _ ⟨tt,rfl,ht⟩;exact aU (j8 (by omega) ht) (aL fun _=>EX.1 h2)
   . intro b hb;refine aZ (fun h2=>?_) (fun h2=>aL (.inl rfl));have:=hb h2;exact Tm.bind (Sy hf hH h hσ hil hkl hK hx' hy' hw hxu hyu hpos (by omega)) fun r hr=>aL (.inr ⟨r,rfl,hr⟩)
 . rintro _ (rfl|⟨z,rfl,hz⟩)
   . dsimp only;refine aU (zR hcp) (Tm.bind (Ks (m:=iB (f+1)+1) (t:=true) hf h hv hst (fun e=>by cases e) (bK _) (by omega) (by omega) (by omega)) ?_);rintro⟨ok2,x⟩ ⟨s',hs',hn',hcase⟩;dsimp only at hs' hcase⊢;subst hs';rw[iy (n:=s.to.n) (x:=s'.to) (by show(s.n:Int)=s'.n;rw[hn'])];rcases hcase with⟨rfl,hg,hgi,hgl,hgs⟩|⟨rfl,href⟩
     . refine cC (by simp) (Tm.bind (hR base (K+6) s' hg (BV hg.n) hgi (by omega) (by omega)) fun r hr=>?_);rw[hn',hgs]at hr;refine Tm.bind (Q:=fun b=>b=true->fH sys base s.n s.stack r) (aZ (fun h2=>aL fun _=>?_) (fun h2=>aL fun h3=>?_)) ?_
       . cases hr with
         |solved x a b c=>exact .solved x a b c
         |iC p a=>exact .iC p a
         |failed e a b=>exact absurd rfl h2
       . cases hr with
         |solved x a b c=>exact .solved x a b c
         |iC p a=>exact .iC p a
         |failed e a b=>
          rcases fR.1 a with a|a
          . exact .failed e a b
          . have h3:=of_decide_eq_true h3;rw[cP.1 a]at h3;exact absurd rfl h3
       . intro b hb;refine aZ (fun h2=>aL (hb h2)) (fun h2=>?_);refine aU (wJ hit hv) ?_;dsimp only;have hsl:=wo (v:=v) s.items;refine aU (LF (by omega) (by omega)) ?_;generalize hUW:cz v s.items++du v s.items=UW;have hUWl:UW.length<=s.items.length:=by rw[<-hUW,dd];omega
         refine aU (a:=(UW.map AI.pos).map Int.ofNat) (ei UW.length (fun k t=>t=(((UW.take k).map AI.pos).map Int.ofNat,(k:Int))) rfl ?_) ?_
         . rintro k hk _ rfl;dsimp only[DV];rw[fh];refine aZ (fun hlt=>?_) (fun hge=>aL ?_)
           . have hlt:k<UW.length:=by omega
             refine aN (oL hlt) (aN (dN (by simp only[cD,eQ,cv,dM];omega) (by decide)) (aL ⟨hlt,?_⟩));rw[dT (by omega),<-jh hlt];simp only[jg];rfl
           . show _=_;rw[eU (by omega)]
         . have hats:(UW.map AI.pos)=fg s v:=by rw[<-hUW];rfl
           rw[hats];refine Tm.bind (TW hf h.inv h.rf hv hst hup hil (du v s.items).length (du v s.items) base K s R (bK _) hE hR ⟨h,Kept.refl s,rfl,fun x hx _=>hx,hil,fun w hw=>⟨(im.1 hw).1,(im.1 hw).1,(im.1 hw).2⟩,List.Pairwise.filter _ h.inv.kh,fun w hw=>.inl hw⟩ (by omega) (by omega)) fun r hr=>aL hr
     . refine cL rfl ?_;unfold jG;exact aU (aL rfl) (aL (.iC (.leaf s'.steps) href))
   . exact aL hz
def qv(sys base:List AQ)(n:Nat)(dP:List AE)(f:Nat):aK ((List bB)×(List Step)×(List (List aB))×(List Int)×(List aB)×(List aY)×(List dK)) bX->Prop
 |.next t=>∃f' s' K',f'<f/\t=iJ s'/\s'.n=n/\(∀e∈s'.stack,e.dD=true->e∈dP)/\Good sys base f' K' s'/\s'.items.length<=iB f'/\s'.known.length+260+lB f'<=1073741824/\K'+520+dB f'<=536870912
 |.done r=>fH sys base n dP r
theorem qv.less{n f':Nat}{dP stk':List AE}{r}(h:qv sys base n stk' f' r)(hs:∀e∈stk',e.dD=true->e∈dP)(hf:f'<=f):qv sys base n dP f r:=by
 cases r with
 |next t=>
  obtain⟨f1,s',K',h1,h2,h3,h4,h5⟩:=h;exact⟨f1,s',K',by omega,h2,h3,fun e he ht=>hs e (h4 e he ht) ht,h5⟩
 |done r=>exact fH.less h hs
def BX(N:Nat)(self:aR->Option bX)(x:aR):Option (aK ((List bB)×(List Step)×(List (List aB))×(List Int)×(List aB)×(List aY)×(List dK)) bX):=(uI N x).bind fun d=>if(!d.2)=true then(rk N x).bind fun p=>some (aK.done p) else(uA N x d.1).bind fun q=>if(!q)=true then(vz N self x d.1).bind fun v=>some (aK.done v) else(n5 N x d.1 false).bind fun c=>if(!c.1)=true then(jG N (aR.mk x.n c.2.known c.2.steps c.2.u c.2.status c.2.value c.2.items c.2.stack)).bind fun y=>some (aK.done y) else some (aK.next (c.2.known,c.2.steps,c.2.u,c.2.status,c.2.value,c.2.items,c.2.stack))
theorem run_eq{N:Nat}{self:aR->Option bX}{s0:St}(hn:s0.n=s.n):uS N self s0.to (iJ s)=(ud N s.to).bind fun a=>
    if(!a.2.2.2.1)=true then(jG N (aR.mk s0.to.n a.2.2.2.2.known a.2.2.2.2.steps a.2.2.2.2.u a.2.2.2.2.status a.2.2.2.2.value a.2.2.2.2.items a.2.2.2.2.stack)).bind fun m=>some (aK.done m)
    else if a.2.2.1=true then(td N (aR.mk s0.to.n a.2.2.2.2.known a.2.2.2.2.steps a.2.2.2.2.u a.2.2.2.2.status a.2.2.2.2.value a.2.2.2.2.items a.2.2.2.2.stack) a.1 a.2.1).bind fun b=>
        if(!b.1)=true then(jG N (aR.mk s0.to.n b.2.known b.2.steps b.2.u b.2.status b.2.value b.2.items b.2.stack)).bind fun o=>some (aK.done o)
        else some (aK.next (b.2.known,b.2.steps,b.2.u,b.2.status,b.2.value,b.2.items,b.2.stack))
    else BX N self (aR.mk s0.to.n a.2.2.2.2.known a.2.2.2.2.steps a.2.2.2.2.u a.2.2.2.2.status a.2.2.2.2.value a.2.2.2.2.items a.2.2.2.2.stack):=by
  have e:aR.mk s0.to.n s.to.known s.to.steps s.to.u s.to.status s.to.value s.to.items s.to.stack=s.to:=uh hn;rw[<-e];rfl
theorem FI{R:Nat->aR->Option bX}{s0:St}(hf:f<=4)(h:Good sys base f K s)(hn0:s0.n=s.n)(hil:s.items.length<=iB f+1)(hkl:s.known.length+1<=1073741824)(hK:K+6<=536870912)
 (hkl2:∀f',f=f'+1->s.known.length+iB f+1+260+lB f'<=1073741824/\K+526+dB f'<=536870912)
 (hnone:BN s->Tm (fun N=>BX N (R N) s.to) (qv sys base s.n s.stack f)):
 Tm (fun N=>uS N (R N) s0.to (iJ s)) (qv sys base s.n s.stack f):=by
 have hL:cY=1099511627776:=rfl;have hmB:=nU f;have hCB:=lR f;have hn:=h.n;have hsteps:=h.steps;have hso:=h.mT (K':=K+6) (by omega) (by omega) (by omega) (by omega);have e:(fun N=>uS N (R N) s0.to (iJ s))=fun N=>_:=funext fun N=>run_eq hn0;rw[e];refine Tm.bind (RN (K:=K+6) (Kk:=K) h.inv hso (bK _) h.q ⟨by omega,by omega,by omega⟩) ?_;intro a ha;cases ha with
 |none hno=>
  refine cC (by simp) (cC (by simp) ?_);dsimp only;rw[iy (n:=s0.to.n) (x:=s.to) (by show(s0.n:Int)=s.n;rw[hn0])];exact hnone (R7 hno)
 |some i j he=>
  have hf0:0<f:=Kp h.inv h.fr fun e=>by have:=he.il;rw[e]at this;cases this
  obtain⟨f',rfl⟩:∃f',f=f'+1:=⟨f-1,by omega⟩;obtain⟨q1,q2⟩:=hkl2 f' rfl;refine cC (by simp) (cL rfl ?_);dsimp only;rw[iy (n:=s0.to.n) (x:=s.to) (by show(s0.n:Int)=s.n;rw[hn0])];refine Tm.bind (R1 (m:=iB (f'+1)+1) (by omega) h (bK _) (by omega) (by omega) (by omega) he) ?_;rintro⟨ok,x⟩ ⟨s',hs',hn',hcase⟩;dsimp only at hs' hcase⊢;subst hs';rcases hcase with⟨rfl,hg,hgi,hgl,hgs⟩|⟨rfl,href⟩
  . exact cC (by simp) (aL ⟨f',s',K+6,by omega,rfl,hn',fun e he _=>by rw[hgs]at he;exact he,hg,hgi,by omega,by omega⟩)
  . refine cL rfl ?_;unfold jG;exact aU (aL rfl) (aL (show fH sys base s.n s.stack _ from .iC (.leaf s'.steps) href))
 |bad s' L hLs hO hB hl hb=>
  have hg0:∀z∈s.items,GB (cB f) z.g:=fun z hz w hw=>by
   obtain⟨j,hj,rfl⟩:=gE hw;exact h.co z hz j (by rw[(h.inv.it z hz).2]at hj;exact hj)
  have hA:=uz (K:=K) (M:=cB f) L s h.inv hLs hg0 fun a ha=>by
   have:=hB a ha;cases a with
   |add x=>exact fun v hv=>bO (this v hv) (fE _)
   |put g us=>exact fun v hv=>bO (this v hv) (fE _)
  have hsok:=tz (Kk:=K) (K:=K+6) L s hso ⟨by omega,by omega,by omega⟩ hO (bK _);rw[hb]at hA hsok;refine cL rfl ?_;unfold jG;have href:Ref s.n base (.leaf s'.steps):=An hA.inv hA.kept.n (hA.jo base h.jo) (by have:=hA.kl;omega) (fun q hq=>(hsok.k q hq).1.mono (by omega)) (hA.bad rfl);exact aU (aL rfl) (aL (show fH sys base s.n s.stack _ from .iC (.leaf s'.steps) href))
theorem QU(h:Good sys base f K s)(hK:K<=536870912)(hkl:s.known.length<=1073741824)(hi:s.items=[]):Tm (fun N=>rk N s.to) (fH sys base s.n s.stack):=by
 have hu:=zG f;refine(UN (K:=K) (Ku:=uB f) ⟨h.n,hK,by omega,h.su,fun q hq=>⟨h.q q hq,h.inv.kl q hq⟩,hkl⟩ h.inv hi h.st h.rf.F).mono ?_;rintro r (⟨x,rfl,xl,xd,y,hy,hxy⟩|⟨e,he,ht,rfl⟩)
 . refine .solved x xl xd fun q hq=>?_;have:=h.rf.R y hy q hq;unfold lE;rw[eF (f:=vf q.c) (f':=vf q.c) (g:=vf x) (g':=ux s y) (fun _ _=>rfl) hxy];exact this
 . exact .failed e he ht
theorem II{R:Nat->aR->Option bX}(hf:f<=4)(hR:∀f',f=f'+1->lT sys f' 260 R/\mU sys f' R)(hH:∀μ',μ'<μ->lT sys f μ' R)(h:Good sys base f K s)(hσ:uo μ s)(hil:s.items.length<=iB f)(hkl:s.known.length+μ+lB f<=1073741824)(hK:K+2*μ+dB f<=536870912)(hp:BN s):
 Tm (fun N=>BX N (R N) s.to) (qv sys base s.n s.stack f):=by
 have hL:cY=1099511627776:=rfl;have hmB:=nU f;have hn:=h.n;have hit:=h.zK (by omega);unfold BX;refine Tm.bind (UI hit h.inv.fX (by omega)) ?_;rintro⟨v,ok⟩ (⟨h1,v,rfl,hv,hst,x,hx',hx0⟩|⟨h1,h2⟩)
 . dsimp only at h1⊢;subst h1;have hf0:0<f:=Kp h.inv h.fr fun e=>by rw[e]at hx';cases hx'
   obtain⟨f',rfl⟩:∃f',f=f'+1:=⟨f-1,by omega⟩;obtain⟨hR1,hR2⟩:=hR f' rfl;have hlN:=xz (f:=f') (m:=iB (f'+1)+1) hf (bK _);have hdN:=xZ (f:=f') (m:=iB (f'+1)+1) hf (bK _);refine cC (by simp) (Tm.bind (OD hit hv) fun q hq=>aZ (fun h3=>?_) (fun h3=>?_))
   . have hex:¬rV s v:=fun e=>by rw[hq.2 e]at h3;cases h3
     exact Tm.bind (S8 hf hR1 hR2 hH h hσ hil hkl hK hv hst hex hp) fun r hr=>aL hr
   . have hex:rV s v:=hq.1 (by simpa using h3);refine Tm.bind (Ks (m:=iB (f'+1)+1) (t:=false) hf h hv hst (fun _=>hex) (bK _) (by omega) (by omega) (by omega)) ?_;rintro⟨ok2,x⟩ ⟨s',hs',hn',hcase⟩;dsimp only at hs' hcase⊢;subst hs';rcases hcase with⟨rfl,hg,hgi,hgl,hgs⟩|⟨rfl,href⟩
     . refine cC (by simp) (aL ⟨f',s',K+6,by omega,rfl,hn',fun e he ht=>?_,hg,hgi,by omega,by omega⟩);rw[hgs]at he;rcases fR.1 he with he|he
       . exact he
       . rw[cP.1 he]at ht;cases ht
     . refine cL rfl ?_;unfold jG;exact aU (aL rfl) (aL (show fH sys base s.n s.stack _ from .iC (.leaf s'.steps) href))
 . dsimp only at h1 h2⊢;subst h1;have hi:s.items=[]:=by
    cases hi:s.items with
    |nil=>rfl
    |cons x l=>
     obtain⟨w,w1,w2,w3⟩:=yg h.inv (x:=x) (by rw[hi];simp);exact absurd (h2 w w1 w3 x (by rw[hi];simp)) w2
   exact cL rfl (Tm.bind (QU h (by omega) (by omega) hi) fun r hr=>aL hr)
theorem Ht(hf:f<=4)(hR:∀f',f'<f->∀μ,lT sys f' μ fun N=>jS N)(hE:∀f',f'+1<f->mU sys f' fun N=>jS N)(h:Good sys base f K s)
 (hfst:Tm (fun N=>uS N (jS N) s.to (iJ s)) (qv sys base s.n s.stack f)):Tm (fun N=>jS N s.to) (fH sys base s.n s.stack):=by
 refine Tm.succ ?_;show Tm (fun N=>xB N (jS N) s.to) _;unfold xB;refine Tm.bind (Q:=fH sys base s.n s.stack) (Tm.xg (fun(g:Nat×St) t=>t=iJ g.2/\(g=(f,s)\/(g.1<f/\g.2.n=s.n/\(∀e∈g.2.stack,e.dD=true->e∈s.stack)/\∃K',Good sys base g.1 K' g.2/\g.2.items.length<=iB g.1/\g.2.known.length+260+lB g.1<=1073741824/\K'+520+dB g.1<=536870912))) (fun g=>g.1) (f,s) ⟨rfl,.inl rfl⟩ ?_) fun r hr=>aL hr;rintro⟨f1,s1⟩ _ ⟨rfl,hg⟩;have fin:∀{t},qv sys base s.n s.stack f1 t->f1<=f->(match t with|.next s'=>∃g':Nat×St,(s'=iJ g'.2/\(g'=(f,s)\/(g'.1<f/\g'.2.n=s.n/\(∀e∈g'.2.stack,e.dD=true->e∈s.stack)/\∃K',Good sys base g'.1 K' g'.2/\g'.2.items.length<=iB g'.1/\g'.2.known.length+260+lB g'.1<=1073741824/\K'+520+dB g'.1<=536870912)))/\g'.1<((f1,s1):Nat×St).1|.done r=>fH sys base s.n s.stack r):=by
  intro t ht hle;cases t with
  |next t=>
   obtain⟨f2,s2,K2,h1,h2,h3,h4,h5,h6,h7,h8⟩:=ht;exact⟨(f2,s2),⟨h2,.inr ⟨by show f2<f;omega,h3,h4,K2,h5,h6,h7,h8⟩⟩,h1⟩
  |done r=>exact ht
 rcases hg with hg|⟨hlt,hn1,hst1,K1,hG,hi1,hl1,hk1⟩
 . obtain⟨rfl,rfl⟩:=Prod.mk.inj hg;refine hfst.mono fun t ht=>?_;have:=fin ht (bK _);cases t<;>exact this
 . dsimp only at hlt hn1 hst1 hG hi1 hl1 hk1;have hstep:=FI (R:=fun N=>jS N) (s0:=s) (by omega) hG hn1.symm (by omega) (by omega) (by omega)
    (fun f' e=>by
     subst e;have hlN:=xz (f:=f') (m:=iB (f'+1)+1) (by omega) (bK _);have hdN:=xZ (f:=f') (m:=iB (f'+1)+1) (by omega) (bK _);have:=lR (f'+1);omega)
    fun hp=>II (μ:=260) (by omega) (fun f' e=>⟨hR f' (by omega) 260,hE f' (by omega)⟩) (fun μ' _=>hR f1 hlt μ') hG (BV hG.n) hi1 hl1 (by omega) hp
   refine hstep.mono fun t ht=>?_;rw[hn1]at ht;have:=fin (ht.less hst1 (bK _)) (by omega);cases t<;>exact this
theorem Oj(sys:List AQ):∀f,f<=4->(∀μ,lT sys f μ fun N=>jS N)/\∀f',f=f'+1->mU sys f' fun N=>jS N:=by
  intro f
  induction f using Nat.strongRecOn with
  |ind f ih=>
    intro hf;have hR:∀f',f'<f->∀μ,lT sys f' μ fun N=>jS N:=fun f' hlt=>(ih f' hlt (by omega)).1;have hE0:∀f',f'+1<f->mU sys f' fun N=>jS N:=fun f' hlt=>(ih (f'+1) hlt (by omega)).2 f' rfl;have hE:∀f',f=f'+1->mU sys f' fun N=>jS N:=by
      rintro f' rfl base K s x hG hx' ho hil hkl hK;refine Ht hf hR hE0 hG (FI hf hG rfl hil (by omega) (by omega) (fun f2 e=>by
        obtain rfl:f'=f2:=by omega
        omega) fun hp=>?_)
      obtain⟨y,hy,y1,y2⟩:=ho;have:=hp x hx' y hy fun k hk=>by rw[y1,iL]
      omega
    refine⟨fun μ=>?_,hE⟩
    induction μ using Nat.strongRecOn with
    |ind μ ihμ=>
      intro base K s hG hσ hil hkl hK;refine Ht hf hR hE0 hG (FI hf hG rfl (by omega) (by
        match f with
        | 0 => have : lB 0 = 10 := rfl
               omega
        | f' + 1 => have hlN := xz (f := f') (m := iB (f' + 1) + 1) (by omega) (bK _)
                    omega) (by
        match f with
        | 0 => have : dB 0 = 10 := rfl
               omega
        | f' + 1 => have hdN := xZ (f := f') (m := iB (f' + 1) + 1) (by omega) (bK _)
                    omega)
        (fun f' e=>by
          subst e;have hlN:=xz (f:=f') (m:=iB (f'+1)+1) (by omega) (bK _);have hdN:=xZ (f:=f') (m:=iB (f'+1)+1) (by omega) (bK _);omega)
        fun hp=>II hf (fun f' e=>⟨hR f' (by omega) 260,hE f' e⟩) ihμ hG hσ hil hkl hK hp)
end
end Go.D
set_option maxHeartbeats 1000000
namespace Go.D
open Go Go.X
def p9(n i:Nat):List Int:=vec n fun j=>if i=j then 1 else 0
def nS(n:Nat)(sys:List AQ):St:=⟨n,sys,[],(List.range n).map (p9 n),List.replicate n 0,List.replicate n 0,[],[]⟩
theorem tmNew{n:Nat}{sys:List AQ}(hn:n<=512)(hl:sys.length<=1073741824):Tm (fun N=>yb N (n:Int) (sys.map AQ.to)) (·=(nS n sys).to):=by
 unfold yb;refine aU (a:=sys.map AQ.to) ?_ ?_
 . unfold yP;exact aN (dN (by rw[cD];simp only[dM];omega) (by decide)) (aL (jf _))
 refine aN (ik (n:=n) rfl (by omega) (by decide)) (aN (ik (n:=n) rfl (by omega) (by decide)) ?_);refine aU (a:=((List.range n).map (p9 n)).map mB) (ei n (fun k t=>t=(((List.range k).map (p9 n)).map mB,(k:Int))) rfl ?_) (aL ?_)
 . rintro k hk _ rfl;dsimp only[CH];refine aZ (fun hlt=>?_) (fun hge=>aL ?_)
   . have hlt:k<n:=by omega
     refine aN (ik (n:=n) rfl (by omega) (by decide)) ?_;rw[<-oy];refine aU (jU (by decide) (by decide)) (aN (ez (l:=List.replicate n 0) (by simpa using hlt)) (aN (ee (xs:=mB (List.replicate n 0)) rfl (by rw[dJ];simpa using hlt)) (aN (dN (by simp only[cD,List.length_range,cv,dM];omega) (by decide)) (aL ⟨hlt,?_⟩))));rw[dT (by omega),List.range_succ,vE];simp only[jg,jN,List.map_nil];have:(List.replicate n (0:Int)).set k 1=p9 n k:=by
      refine lr (by unfold p9;rw[iS,eN];simp) fun j hj=>?_;have hj:j<n:=by simpa using hj
      unfold p9;rw[jR (by simpa using hlt),dH hj,wL,dH hj]
     rw[this]
   . have:k=n:=by omega
     subst this;rfl
 . show aR.mk _ _ _ _ _ _ _ _=(nS n sys).to;unfold nS St.to;dsimp only;rw[oy];rfl
section
variable {n:Nat} {sys:List AQ}
theorem yK{i j:Nat}(hi:i<n)(hj:j<n):mx (nS n sys).u i j=if i=j then 1 else 0:=by
 unfold mx nS;dsimp only;rw[cA,gR,Gd hi];exact dH hj
theorem nS_cu{c:List Int}{j:Nat}(hj:j<n):cu (nS n sys).u n c j=vf c j:=by
 unfold cu;rw[eF (f:=vf c) (f':=vf c) (g':=fun i=>if i=j then 1 else 0) (fun _ _=>rfl) fun i hi=>yK hi hj,oX hj]
theorem nS_ux{y:Nat->Int}{i:Nat}(hi:i<n):ux (nS n sys) y i=y i:=by
 unfold ux;show bE (mx (nS n sys).u i) y n=_;rw[eF (f':=fun j=>if i=j then 1 else 0) (g:=y) (g':=y) (fun j hj=>yK hi hj) fun _ _=>rfl,pg,GN hi]
theorem C5{m j:Nat}:vf (List.replicate m (0:Int)) j=0:=by
 rcases cw j m with h|h
 . rw[wL,dH h]
 . rw[lV (by simpa using h)]
theorem PH(hq:∀q∈sys,q.c.length=n):Inv (nS n sys)where
 ul:=⟨by simp[nS],fun r hr=>by
  obtain⟨i,_,rfl⟩:=dz.1 hr;exact eN⟩
 fX:=by simp[nS]
 vl:=by simp[nS]
 kl:=hq
 it x hx:=by cases hx
 dp x hx:=by cases hx
 nf x hx:=by cases hx
 gD x hx:=by cases hx
 kh:=List.Pairwise.nil
 j2:=by
  refine⟨fun i j=>if i=j then 1 else 0,fun i hi k hk=>?_,fun i hi k hk=>?_⟩
  . have hi:i<n:=hi;have hk:k<n:=hk;show bE (mx (nS n sys).u i) (fun j=>if j=k then 1 else 0) n=_;rw[oX hk];exact yK hi hk
  . have hi:i<n:=hi;have hk:k<n:=hk;show bE (fun j=>if i=j then 1 else 0) (fun j=>mx (nS n sys).u j k) n=_;rw[pg,GN hi];exact yK hi hk
 stat j _:=.inl C5
 sv e he:=by cases he
 s2 j _ h:=by rw[show vf (nS n sys).status j=0 from C5]at h;omega
 sd:=List.Pairwise.nil
structure Ft (n:Nat)(sys:List AQ):Prop where
 hn:n<=4
 l:sys.length<=32
 q:∀q∈sys,q.c.length=n/\(∀v∈q.c,v.natAbs<=50)/\dl q.b<=100000000
theorem Ty{s:St}{a:Act}(h:a∈gv s):∃i,i<s.known.length/\a=.put (aI s.known i).c [⟨i,1⟩]:=by
 obtain⟨i,hi,rfl⟩:=dz.1 h;exact⟨i,th.1 hi,rfl⟩
theorem MA{p:Nat->Bool}:∀{n:Nat},ia p n<=n
 |0=>bK _
 |n+1=>by
  have:=MA (p:=p) (n:=n);simp only[ia];split<;>omega
theorem O7(h:Ft n sys):Tm (fun N=>ur N (nS n sys).to) (Nxt sys sys n 100000006 64 n []):=by
 have hn:=h.hn;have hl:=h.l;have hI:=PH fun q hq=>(h.q q hq).1;have hfit:∀q∈sys,fF 100000000 q:=fun q hq=>⟨fun v hv=>bO (j9 (by have:=(h.q q hq).2.1 v hv;omega)) (by decide),(h.q q hq).2.2⟩;have hso:gr 100000006 (nS n sys):=⟨by show n<=_;omega,by show sys.length<=_;omega,by show 0<=_;omega,by show 0<=_;omega,fun q hq=>⟨(hfit q hq).mono (by omega),(h.q q hq).1⟩,fun x hx=>(by cases hx),by decide⟩;have hroom:jk sys.length (nS n sys):=⟨by show sys.length+_<=_;omega,by show 0+_<=_;omega,by show 0+_<=_;omega⟩;have hact:∀a∈gv (nS n sys),(lJ 100000000 (nS n sys) a/\xo 50 a)/\mG 100000000 (nS n sys) a:=by
  intro a ha;obtain⟨i,hi,rfl⟩:=Ty ha;have hi:i<sys.length:=hi;have hq:=eL hi;obtain⟨q1,q2,q3⟩:=h.q _ hq;have hd:∀v∈(aI sys i).c,dl v<=1:=fun v hv=>j9 (by have:=q2 v hv;omega);have hP:gF 100000000 (nS n sys) (aI sys i).c [⟨i,1⟩]:=⟨q1,fun v hv=>bO (hd v hv) (by decide),by simp,by simp,fun u hu=>by
   rw[cP.1 hu];exact⟨hi,GC 1,bO jF (by decide),hfit _ hq,q1⟩⟩
  refine⟨⟨hP,q2⟩,hP,⟨fun j hj=>?_,fun j hj hs=>absurd (show vf (nS n sys).status j=0 from C5) hs⟩,?_⟩
  . have hj:j<n:=hj;show _=cu (nS n sys).u n (vec n (dX sys [⟨i,1⟩])) j;rw[nS_cu hj,dH hj];show _=1*vf (aI sys i).c j+0;show vf (aI sys i).c j=_;omega
  . unfold dv;split
    . exact bO jF (by decide)
    . exact bO (u5 hd) (by decide)
 have hbl:(gv (nS n sys)).length=sys.length:=by simp[gv,nS]
 have hA:=uz (K:=100000000) (M:=50) (gv (nS n sys)) (nS n sys) hI (fun a ha=>(hact a ha).2) (fun z hz=>by cases hz) fun a ha=>(hact a ha).1.2;have hsok:=tz (Kk:=100000000) (gv (nS n sys)) (nS n sys) hso (by rw[hbl];exact hroom) (fun a ha=>(hact a ha).1.1) (by decide);refine(Up (K0:=100000000) hso hroom (by decide) fun q hq=>⟨hfit q hq,fun v hv=>bO (j9 (by have:=(h.q q hq).2.1 v hv;omega)) (by decide)⟩).mono ?_;rintro _ rfl;have hnn:(bU (nS n sys) (gv (nS n sys))).2.n=n:=hA.kept.n;have hkl:(bU (nS n sys) (gv (nS n sys))).2.known.length<=64:=by
  have:=hA.kl;have e:(nS n sys).known.length=sys.length:=rfl;omega
 have hil:(bU (nS n sys) (gv (nS n sys))).2.items.length<=32:=by
  have:=hA.il;have e:(nS n sys).items.length=0:=rfl;omega
 have hder:gV n sys (bU (nS n sys) (gv (nS n sys))).2.steps (bU (nS n sys) (gv (nS n sys))).2.known:=hA.jo sys .nil;refine⟨_,rfl,hnn,?_⟩;cases hb:(bU (nS n sys) (gv (nS n sys))).1 with
 |false=>exact .inr ⟨rfl,An hA.inv hnn hder (by omega) (fun q hq=>(hsok.k q hq).1.mono (by omega)) (hA.bad hb)⟩
 |true=>
  rw[hb]at hA;have hstk:(bU (nS n sys) (gv (nS n sys))).2.stack=[]:=hA.kept.dP;have hfr:ie (bU (nS n sys) (gv (nS n sys))).2<=n:=by unfold ie;rw[hnn];exact MA
  have hu:=zG n;have hux:∀y i,i<n->ux (bU (nS n sys) (gv (nS n sys))).2 y i=y i:=fun y i hi=>by
   rw[<-nS_ux (sys:=sys) (y:=y) hi];unfold ux;rw[hA.kept.u,hA.kept.n]
  refine .inl ⟨rfl,⟨hA.inv,⟨fun y hy q hq=>?_,fun k e hk=>(by rw[hstk]at hk;cases hk)⟩,by rw[hnn];exact hn,hfr,?_,fun q hq=>(hsok.k q hq).1,?_,fun e he=>(by rw[hstk]at he;cases he),by rw[hnn];exact hder⟩,?_,hkl,hstk⟩
  . obtain⟨i,hi,rfl⟩:=nm hq;have:=(hA.imp rfl y hy.2.1).2 (.put (aI sys i).c [⟨i,1⟩]) (dz.2 ⟨i,th.2 hi,rfl⟩);have this:bE (vf (aI sys i).c) y n<=1*(aI sys i).b+0:=this;rw[hnn,<-uy hi,eF (f:=vf (aI sys i).c) (f':=vf (aI sys i).c) (g':=y) (fun _ _=>rfl) fun j hj=>hux y j hj];omega
  . intro x hx j hj;have h1:(vf x.g j).natAbs<=50:=hA.gb x hx _ (gj (by rw[(hA.inv.it x hx).2];exact hj))
    match n,hfr with
    |0,hfr=>exact Bn hA.inv (by omega) x hx j hj
    |1,hfr=>exact Bn hA.inv hfr x hx j hj
    |2,_=>exact bO h1 (by decide)
    |3,_=>exact bO h1 (by decide)
    |m+4,_=>exact h1
  . refine⟨⟨by rw[hA.kept.u,hnn];simp[nS],fun r hr=>?_⟩,by rw[hA.kept.status,hnn];simp[nS],by rw[hA.kept.value,hnn];exact⟨by simp[nS],fun v hv=>by rw[(yB.1 (show v∈List.replicate n 0 from hv)).2,ir];omega⟩⟩;rw[hA.kept.u]at hr;obtain⟨i,hi,rfl⟩:=dz.1 hr;rw[hnn];refine⟨eN,fun v hv=>?_⟩;obtain⟨j,hj,rfl⟩:=gE hv;rw[show(p9 n i).length=n from eN]at hj;unfold p9;rw[dH hj];refine bO (m:=1) (j9 ?_) (by omega);split<;>decide
  . match n,hfr with
    |0,hfr=>rw[Dr hA.inv (by omega)];simp
    |1,hfr=>exact JY hA.inv hfr
    |2,_=>exact bO hil (by decide)
    |3,_=>exact bO hil (by decide)
    |m+4,_=>exact hil
theorem Uo(h:Ft n sys):Tm (fun N=>qj N (n:Int) (sys.map AQ.to)) (fH sys sys n []):=by
 have hn:=h.hn;have hl:=h.l;unfold qj;refine aU (tmNew (by omega) (by omega)) (Tm.bind (O7 h) ?_);rintro⟨ok,x⟩ ⟨s',hs',hn',hcase⟩;dsimp only at hs' hcase⊢;subst hs';rw[iy (n:=(nS n sys).to.n) (x:=s'.to) (by show(n:Int)=s'.n;rw[hn'])];rcases hcase with⟨rfl,hg,hgi,hgl,hgs⟩|⟨rfl,href⟩
 . refine cC (by simp) (Tm.bind ((Oj sys n hn).1 260 sys 100000006 s' hg (BV hg.n) hgi ?_ ?_) fun r hr=>aL ?_)
   . have:lB n<=542800000:=by
      match n with
      |0=>decide
      |1=>decide
      |2=>decide
      |3=>decide
      |m+4=>exact bK _
     omega
   . have:dB n<=400400000:=by
      match n with
      |0=>decide
      |1=>decide
      |2=>decide
      |3=>decide
      |m+4=>exact bK _
     omega
   . rw[hn',hgs]at hr;exact hr
 . refine cL rfl ?_;unfold jG;exact aU (aL rfl) (aL (.iC (.leaf s'.steps) href))
end
end Go.D
set_option maxHeartbeats 1000000
namespace Go.D
open Go Go.X
def cV(n:Nat)(c:Constraint):List Int:=fW c n c.Linear.aT.length
def cQ(n:Nat)(c:Constraint):List AQ:=if c.e9=true then[⟨cV n c,-c.Linear.Const⟩,⟨bT (cV n c),c.Linear.Const⟩]else[⟨cV n c,-c.Linear.Const⟩]
def kz(n:Nat)(l:List Constraint):List AQ:=l.flatMap (cQ n)
theorem EB{n:Nat}{c:Constraint}:(cV n c).length=n:=by unfold cV;rw[se];simp
theorem HH{l:List Int}:eY (mB l) l:=⟨dJ l,fun j h h'=>by rw[CZ];exact nh _⟩
theorem Q0{l:List Int}:bT l=l.map fun v=>-v:=by
 apply pR (by rw[jd,cD]);intro i h1 h2;rw[<-mz h1,iL,ky,mz]
theorem Ou{n:Nat}{c:Constraint}(h:fe c n):nK c n ((cQ n c).map AQ.to):=by
 refine .inr ⟨h,(⟨cV n c,-c.Linear.Const⟩:AQ).to,⟨HH,nh _⟩,?_⟩;unfold cQ;cases he:c.e9 with
 |false=>exact .inl ⟨rfl,by simp⟩
 |true=>
  refine .inr ⟨rfl,(⟨bT (cV n c),c.Linear.Const⟩:AQ).to,⟨?_,nh _⟩,by simp⟩;show eY (mB (bT (cV n c))) ((cV n c).map fun v=>-v);rw[Q0];exact HH
theorem L7{n:Nat}:∀{l:List Constraint},(∀c∈l,fe c n)->kD n l ((kz n l).map AQ.to)
 |[],_=>rfl
 |c::l,h=>⟨_,_,Ou (h c cO),L7 fun d hd=>h d (cJ _ hd),by unfold kz;rw[tx,jg]⟩
theorem IA{n:Nat}{l:List Constraint}(h:∀c∈l,fe c n):qJ l n ((kz n l).map AQ.to):=.inl ⟨h,L7 h⟩
structure gY (n:Nat)(l:List Constraint):Prop where
 hn:n<=4
 len:l.length<=16
 right:∀c∈l,fe c n
 const:∀c∈l,fG c.Linear.Const
 jw:∀c∈l,∀k∈c.Linear.aT,k.N.natAbs<=50
section
variable {n:Nat} {l:List Constraint}
theorem gY.cl(h:gY n l){c:Constraint}(hc:c∈l):c.Linear.aT.length<=4:=by
 have:=Uv (h.right c hc);have:=h.hn;omega
theorem gY.okc(h:gY n l):∀c∈l,od c:=fun c hc=>⟨by have:=h.cl hc;omega,h.const c hc,fun k hk=>by have:=h.jw c hc k hk;unfold fG;omega⟩
theorem Q2{P:Int->Prop}(h0:P 0){c:Constraint}{n:Int}(hc:∀k∈c.Linear.aT,P k.N):∀k,∀v∈fW c n k,P v:=by
 intro k;unfold fW;have key:∀(cs:List gK) (v:List Int),(∀k∈cs,P k.N)->(∀x∈v,P x)->∀x∈cs.foldl qi v,P x:=by
  intro cs
  induction cs with
  |nil=>intro v _ hv;exact hv
  |cons a cs ih=>
   intro v ha hv;refine ih (qi v a) (fun k hk=>ha k (cJ _ hk)) fun x hx=>?_;rcases pM hx with hx|rfl
   . exact hv x hx
   . exact ha a cO
 exact key _ _ (fun k hk=>hc k (tk hk)) fun x hx=>by rw[(yB.1 hx).2];exact h0
theorem Qm{c:Constraint}:(cQ n c).length<=2:=by unfold cQ;split<;>simp
theorem Ih:∀{l:List Constraint},(kz n l).length<=2*l.length
 |[]=>by simp[kz]
 |c::l=>by
  have:=Ih (l:=l);have:=Qm (n:=n) (c:=c);unfold kz at*;rw[tx,dd,cv];omega
theorem gY.sys(h:gY n l):Ft n (kz n l):=by
 refine⟨h.hn,by have:=h.len;have:=Ih (n:=n) (l:=l);omega,fun q hq=>?_⟩;obtain⟨c,hc,hq⟩:=vX.1 hq;have hv:∀v∈cV n c,v.natAbs<=50:=Q2 (P:=fun v=>v.natAbs<=50) (by decide) (h.jw c hc) _;have hi:=h.const c hc;unfold fG at hi;have d1:dl c.Linear.Const<=2:=Ey (by omega);have d2:dl (-c.Linear.Const)<=2:=Ey (by omega);have hneg:∀v∈bT (cV n c),v.natAbs<=50:=fun v hv'=>by rw[<-Co];exact hv _ (Ek hv')
 unfold cQ at hq;split at hq
 . rcases eb.1 hq with rfl|hq
   . exact⟨EB,hv,bO d2 (by decide)⟩
   . rw[cP.1 hq];exact⟨(jd _).trans EB,hneg,bO d1 (by decide)⟩
 . rw[cP.1 hq];exact⟨EB,hv,bO d2 (by decide)⟩
def ig(c:Constraint)(x:List Int):Int:=c.Linear.Const+fj c x c.Linear.aT.length
def pz(l:List Constraint)(x:List Int):Prop:=∀c∈l,ig c x<=0/\(c.e9=true->ig c x=0)
theorem IU{a b:List Int}:∀m,bE (vf a) (vf b) m=n7 a b m
 |0=>rfl
 |m+1=>by show bE _ _ m+_=_;rw[IU m];rfl
theorem HK{c:Constraint}{x:List Int}(hx:x.length=n)(h:fe c n):(∀q∈cQ n c,lE n (vf x) q)↔(ig c x<=0/\(c.e9=true->ig c x=0)):=by
 have h1:bE (vf (cV n c)) (vf x) n=fj c x c.Linear.aT.length:=by
  rw[IU];have:=PA (c:=c) (x:=x) (by rw[hx];exact h) (k:=c.Linear.aT.length) (bK _);rw[hx]at this;exact this
 have h2:bE (vf (bT (cV n c))) (vf x) n=-fj c x c.Linear.aT.length:=by rw[Lm,h1]
 unfold cQ ig;cases he:c.e9 with
 |false=>
  simp only[ml,if_false,cP,forall_eq,lE,h1,false_implies,and_true];omega
 |true=>
  simp only[if_true,eb,MU,or_false,forall_eq_or_imp,forall_eq,lE,h1,h2,true_implies];omega
theorem sat_iff{x:List Int}(hx:x.length=n)(h:∀c∈l,fe c n):(∀q∈kz n l,lE n (vf x) q)↔pz l x:=by
 unfold pz kz;constructor
 . exact fun hs c hc=>(HK hx (h c hc)).1 fun q hq=>hs q (vX.2 ⟨c,hc,hq⟩)
 . intro hs q hq;obtain⟨c,hc,hq⟩:=vX.1 hq;exact(HK hx (h c hc)).2 (hs c hc) q hq
theorem JE{c:Constraint}{x:List Int}:∀k,o6 c.Linear (mB x) k=c.Linear.Const+fj c x k
 |0=>by show c.Linear.Const=c.Linear.Const+0;omega
 |k+1=>by
  rw[o6,fj,JE k,AD,gC];show _+_*vf x _=_+(_+_*vf x _);omega
theorem gY.sum(h:gY n l){x:List Int}(hx:x.length=n)(hd:∀v∈x,dl v<=137438953472):∀c∈l,Cq c.Linear (mB x):=fun c hc=>by
 refine⟨by have:=h.cl hc;omega,h.const c hc,fun k hk=>?_,fun b hb=>?_⟩
 . obtain⟨i,hi,rfl⟩:=nm hk;have:=(h.right c hc).1 i hi;have h50:=h.jw c hc _ hk;exact⟨by unfold fG;omega,this.1,by rw[dJ,hx];exact this.2.1⟩
 . obtain⟨v,hv,rfl⟩:=dz.1 hb;exact okB (hd v hv)
theorem tmSat(h:gY n l){x:List Int}(hx:x.length=n)(hd:∀v∈x,dl v<=137438953472):Tm (fun N=>vF N l (mB x)) (fun r=>r=true↔pz l x):=by
 refine(RX (by have:=h.len;omega) (h.sum hx hd)).mono fun r hr=>?_;rw[hr,tg];unfold pz;refine forall_congr' fun c=>forall_congr' fun hc=>?_;unfold qf;rw[JE];show(!(decide (0<ig c x)||(decide (ig c x<0)&&c.e9)))=true↔_;cases c.e9<;>simp<;>omega
theorem tmOwn(hl:l.length<=1073741824)(hc:∀c∈l,c.Linear.aT.length<=1073741824):Tm (fun N=>wU N l) (·=l):=by
 unfold wU;refine aU (a:=l) (ei l.length (fun k t=>t=(l.take k,(k:Int))) rfl ?_) (aL rfl);rintro k hk _ rfl;dsimp only[CQ];refine aZ (fun hlt=>?_) (fun hge=>aL ?_)
 . have hlt:k<l.length:=by omega
   have:=hc _ (cX hlt);refine aN (cU hlt) (aN (dN (by simp only[dM];omega) (by decide)) (aN (dN (by rw[eQ];simp only[cv,dM];omega) (by decide)) (aL ⟨hlt,?_⟩)));rw[dT (by omega),<-jh hlt];rfl
 . show _=_;rw[eU (by omega)]
def mR(n:Nat)(l:List Constraint):Prop:=∃x:List Int,x.length=n/\pz l x
theorem OA(h:gY n l):Tm (fun N=>qp N (n:Int) l) (fun r=>(∃x:List Int,r=(mB x,sV,true)/\x.length=n/\(∀v∈x,dl v<=137438953472)/\pz l x)\/(∃p:lH,r=([],p.to,false)/\Ref n (kz n l) p)):=by
 unfold qp;refine aU (a:=(kz n l).map AQ.to) ((Ts h.okc (by have:=h.len;omega)).mono fun r hr=>hr.uniq (IA h.right)) (Tm.bind (Uo h.sys) ?_);intro r hr;cases hr with
 |solved x xl xd xs=>exact cL rfl (aL (.inl ⟨x,rfl,xl,xd,(sat_iff xl h.right).1 xs⟩))
 |iC p hp=>exact cC (by show¬(1:Int)=0;decide) (aL (.inr ⟨p,rfl,hp⟩))
 |failed e he ht=>cases he
theorem Rz{p:lH}(hr:∀c∈l,fe c n)(h:Ref n (kz n l) p):¬mR n l:=by
 rintro⟨x,hx,hs⟩;exact h.sound (vf x) ((sat_iff hx hr).2 hs)
theorem TO(h:gY n l){p:lH}(hp:Ref n (kz n l) p):Tm (fun N=>rm N (n:Int) l p.to) (·=true):=by
 unfold rm;refine aU (a:=(kz n l).map AQ.to) ((RK h.okc (by have:=h.len;omega)).mono fun r hr=>hr.uniq (IA h.right)) ?_;refine aU (O2 (by have:=h.hn;omega) hp fun e=>?_) (aL rfl);rw[e]at hp;exact hp.sound (fun _=>0) fun q hq=>by cases hq
theorem Ag(h:gY n l):Tm (fun N=>qG N (n:Int) l) (fun r=>r.2=true/\(r.1=true↔mR n l)):=by
 unfold qG;refine aU (tmOwn (by have:=h.len;omega) fun c hc=>by have:=h.cl hc;omega) (Tm.bind (OA h) ?_);rintro _ (⟨x,rfl,xl,xd,xs⟩|⟨p,rfl,hp⟩)
 . refine cL rfl (cL (by rw[dJ];omega) (Tm.bind (tmSat h xl xd) fun r hr=>aL ⟨hr.2 xs,fun _=>⟨x,xl,xs⟩,fun _=>rfl⟩))
 . refine cC (by simp) (cL rfl (aU (TO h hp) (aL ⟨rfl,fun e=>(by cases e),fun e=>absurd e (Rz h.right hp)⟩)))
structure Br (n:Int)(l:List Constraint)(most:Int):Prop where
 const:∀c∈l,-1000000<=c.Linear.Const/\c.Linear.Const<=1000000
 jw:∀c∈l,∀k∈c.Linear.aT,-most<=k.N/\k.N<=most
 hn:n<=4
 len:l.length<=6
 right:DO l n
theorem Pq{n:Int}{l:List Constraint}{most:Int}(hl:l.length<=9223372036854775807)(hc:∀c∈l,c.Linear.aT.length<=9223372036854775807)(hm:0<=most/\most<=100):Tm (fun N=>wW N n l most) (fun r=>r=true->Br n l most):=by
 unfold wW;refine Tm.bind (Tm.each (body:=fun N=>xm N l most) l (fun c=>(-1000000<=c.Linear.Const/\c.Linear.Const<=1000000)/\∀k∈c.Linear.aT,-most<=k.N/\k.N<=most) (Q:=fun r=>r=.inr false\/(r=.inl ()/\∀c∈l,(-1000000<=c.Linear.Const/\c.Linear.Const<=1000000)/\∀k∈c.Linear.aT,-most<=k.N/\k.N<=most)) hl ?_ ?_) ?_
 . intro k hk _;dsimp only[xm];have hcl:=hc _ (cX hk);refine cL (by omega) (aN (cU hk) (Tm.bind (Q:=fun b=>b=false->(-1000000<=l[k].Linear.Const/\l[k].Linear.Const<=1000000)) (aZ (fun h=>aL fun e=>(by cases e)) (fun h=>aL fun e=>?_)) ?_))
   . have:=of_decide_eq_false e;omega
   . intro b hb;refine aZ (fun h=>aL (.inr ⟨_,rfl,.inl rfl⟩)) (fun h=>?_);have hcb:=hb (by simpa using h);refine Tm.bind (Tm.each (body:=fun N=>xV N most l[k]) l[k].Linear.aT (fun q=>-most<=q.N/\q.N<=most) (Q:=fun r=>r=.inr false\/(r=.inl ()/\∀q∈l[k].Linear.aT,-most<=q.N/\q.N<=most)) hcl ?_ ?_) ?_
     . intro j hj _;dsimp only[xV];refine cL (by omega) (Tm.bind (Q:=fun b=>b=false→-most<=(l[k].Linear.aT[j]).N/\(l[k].Linear.aT[j]).N<=most) (aN (cU hj) (aZ (fun h=>aL fun e=>(by cases e)) (fun h=>aN (cU hj) (aL fun e=>?_)))) ?_)
       . have:=of_decide_eq_false e;rw[bH (by omega) (by omega)]at this;omega
       . intro b hb;exact aZ (fun h=>aL (.inr ⟨_,rfl,.inl rfl⟩)) (fun h=>aL (.inl ⟨rfl,hb (by simpa using h)⟩))
     . intro h;dsimp only[xV];exact cC (by omega) (aL ⟨_,rfl,.inr ⟨rfl,h⟩⟩)
     . rintro _ (rfl|⟨rfl,h2⟩)
       . exact aL (.inr ⟨_,rfl,.inl rfl⟩)
       . exact aL (.inl ⟨rfl,hcb,h2⟩)
 . intro h;dsimp only[xm];exact cC (by omega) (aL ⟨_,rfl,.inr ⟨rfl,h⟩⟩)
 . rintro _ (rfl|⟨rfl,h⟩)
   . exact aL fun e=>(by cases e)
   . refine aZ (fun h1=>aZ (fun h2=>?_) (fun h2=>aL fun e=>(by cases e))) (fun h1=>aL fun e=>(by cases e));exact Tm.bind (T4 hl hc) fun r hr=>aL fun e=>⟨fun c hc'=>(h c hc').1,fun c hc'=>(h c hc').2,h1,by omega,hr.1 e⟩
theorem Br.lok{n:Int}{l:List Constraint}{most:Int}(h:Br n l most)(hm:most<=50):∃m:Nat,n=m/\gY m l:=by
 obtain⟨h1,h2,h3⟩:=h.right;refine⟨n.toNat,by omega,by have:=h.hn;omega,by have:=h.len;omega,fun c hc=>?_,fun c hc=>by have:=h.const c hc;unfold fG;omega,fun c hc k hk=>by have:=h.jw c hc k hk;omega⟩;rw[show((n.toNat:Nat):Int)=n by omega];exact h1 c hc
end
end Go.D
set_option maxHeartbeats 1000000
namespace Go.D
open Go Go.X
theorem gY.sub{n:Nat}{l l':List Constraint}(h:gY n l)(hl:l'.length<=l.length)(hs:∀c∈l',c∈l):gY n l':=
 ⟨h.hn,by have:=h.len;omega,fun c hc=>h.right c (hs c hc),fun c hc=>h.const c (hs c hc),fun c hc=>h.jw c (hs c hc)⟩
end Go.D
set_option maxHeartbeats 1000000
namespace Go.D
open Go Go.X
def iY(k:Int)(c:Constraint):Constraint:=⟨⟨c.Linear.Const*k,c.Linear.aT.map fun q=>⟨q.Var,q.N*k⟩⟩,c.e9⟩
def mL(b:List Int)(c:Constraint):Constraint:=⟨⟨c.Linear.Const+fj c b c.Linear.aT.length,c.Linear.aT⟩,c.e9⟩
theorem Mk{k:Int}{c:Constraint}{x:List Int}:∀j,j<=c.Linear.aT.length->fj (iY k c) x j=k*fj c x j
 |0,_=>by show(0:Int)=k*0;simp
 |j+1,hj=>by
  have hj':j<c.Linear.aT.length:=hj;rw[fj,fj,Mk j (by omega)];have e:(iY k c).Linear.aT.getD j ⟨0,0⟩=⟨c.Linear.aT[j].Var,c.Linear.aT[j].N*k⟩:=by
   rw[ve (by show j<(List.map _ c.Linear.aT).length;rw[cD];exact hj')];show(List.map _ c.Linear.aT)[j]'_=_;rw[ky]
  rw[e,ve hj'];dsimp only;rw[pP];congr 1;rw[fm (c.Linear.aT[j].N) k,Gv]
theorem RS{k:Int}{c:Constraint}{x:List Int}:ig (iY k c) x=k*ig c x:=by
 unfold ig;have:(iY k c).Linear.aT.length=c.Linear.aT.length:=cD ..;rw[this,Mk _ (bK _)];show c.Linear.Const*k+_=_;rw[pP,fm]
theorem G8{n:Nat}{c:Constraint}{x b:List Int}(h:fe c n):∀j,j<=c.Linear.aT.length->fj c (vec n fun i=>vf x i+vf b i) j=fj c x j+fj c b j
 |0,_=>rfl
 |j+1,hj=>by
  have hj':j<c.Linear.aT.length:=hj;obtain⟨h1,h2,_⟩:=h.1 j hj';rw[fj,fj,fj,G8 h j (by omega),ve hj'];have:(vec n fun i=>vf x i+vf b i).getD c.Linear.aT[j].Var.toNat 0=x.getD c.Linear.aT[j].Var.toNat 0+b.getD c.Linear.aT[j].Var.toNat 0:=dH (f:=fun i=>vf x i+vf b i) (by omega);rw[this,pP];omega
theorem HJ{n:Nat}{c:Constraint}{x b:List Int}(h:fe c n):ig (mL b c) x=ig c (vec n fun i=>vf x i+vf b i):=by
 unfold ig;rw[G8 h _ (bK _)];have:fj (mL b c) x (mL b c).Linear.aT.length=fj c x c.Linear.aT.length:=by
  have:∀j,fj (mL b c) x j=fj c x j:=fun j=>by
   induction j with
   |zero=>rfl
   |succ j ih=>rw[fj,fj,ih];rfl
  exact this _
 rw[this];show c.Linear.Const+_+_=_;omega
theorem Sg{c:Constraint}{k:Int}(hk:1<=k/\k<=4)(hl:c.Linear.aT.length<=4)(h0:c.Linear.Const.natAbs<=1000000)(h:∀q∈c.Linear.aT,q.N.natAbs<=50):Tm (fun N=>xF N c k) (·=iY k c):=by
 have key:∀{a:Int} {A:Nat},a.natAbs<=A->A<=1000000->iw (a*k)=a*k:=fun{a A} ha hA=>by
  have h1:(a*k).natAbs<=A*4:=by rw[vS];exact iu ha (by omega)
  exact bH (by omega) (by omega)
 unfold xF;refine aU (a:=c.Linear.aT.map fun q=>⟨q.Var,q.N*k⟩) (ei c.Linear.aT.length (fun j t=>t=((c.Linear.aT.take j).map fun q=>(⟨q.Var,q.N*k⟩:gK),(j:Int))) rfl ?_) (aL ?_)
 . rintro j hj _ rfl;dsimp only[C0];refine aZ (fun hlt=>?_) (fun hge=>aL ?_)
   . have hlt:j<c.Linear.aT.length:=by omega
     refine aN (cU hlt) (aN (cU hlt) (aN (dN (by simp only[cD,eQ,cv,dM];omega) (by decide)) (aL ⟨hlt,?_⟩)));rw[dT (by omega),key (h _ (cX hlt)) (by decide),<-jh hlt,jg];rfl
   . show _=_;rw[eU (by omega)]
 . rw[key h0 (by decide)];rfl
theorem CF{n:Nat}{c:Constraint}{b:List Int}{B:Nat}(hb:∀v∈b,v.natAbs<=B)(h:∀q∈c.Linear.aT,q.N.natAbs<=50):∀j,j<=c.Linear.aT.length->(fj c b j).natAbs<=j*(50*B)
 |0,_=>by show(0:Int).natAbs<=_;simp
 |j+1,hj=>by
  have hj':j<c.Linear.aT.length:=hj;have h1:=CF (n:=n) hb h j (by omega);rw[fj,ve hj',gL];have h2:(vf b c.Linear.aT[j].Var.toNat).natAbs<=B:=by
   rcases cw c.Linear.aT[j].Var.toNat b.length with g|g
   . exact hb _ (gj g)
   . rw[lV g];simp
  have h3:=tW (h _ (cX hj')) h2;have:(c.Linear.aT[j].N*b.getD c.Linear.aT[j].Var.toNat 0).natAbs<=50*B:=h3;omega
theorem T8{n:Nat}{l:List Constraint}{b:List Int}(hL:gY n l)(hc:∀c∈l,c.Linear.Const.natAbs<=1000000)(hbl:b.length=n)(hb:∀v∈b,v.natAbs<=1000000):Tm (fun N=>xR N l b) (·=l.map (mL b)):=by
 have hll:=hL.len;unfold xR;refine aU (a:=l.map (mL b)) (ei l.length (fun k t=>t=((l.take k).map (mL b),(k:Int))) rfl ?_) (aL rfl);rintro k hk _ rfl;dsimp only[Cu];refine aZ (fun hlt=>?_) (fun hge=>aL ?_)
 . have hlt:k<l.length:=by omega
   have hm:=cX hlt;have h4:=hL.cl hm;have hr:=hL.right _ hm;have hcf:=hL.jw _ hm;have hco:=hc _ hm;refine aN (cU hlt) ?_;generalize hck:l[k]=c at*;refine aU (a:=mL b c) (ei c.Linear.aT.length (fun j t=>t=(⟨⟨c.Linear.Const+fj c b j,c.Linear.aT⟩,c.e9⟩,(j:Int))) (by show(c,(0:Int))=(Constraint.mk (Linear.mk (c.Linear.Const+0) _) _,0);rw[Int.add_zero]) ?_) ?_
   . rintro j hj _ rfl;dsimp only[EC];refine aZ (fun hlt2=>?_) (fun hge=>aL ?_)
     . have hlt2:j<c.Linear.aT.length:=by omega
       obtain⟨v1,v2,_⟩:=hr.1 j hlt2;have hvb:(c.Linear.aT[j].Var).toNat<b.length:=by omega
       have w1:=CF (n:=n) hb hcf j (by omega);have w3:=tW (hcf _ (cX hlt2)) (hb _ (cX hvb));have w4:j*(50*1000000)<=4*(50*1000000):=pN _ (by omega);refine aN (cU hlt2) (aN (cU hlt2) (aN (gi (n:=(c.Linear.aT[j].Var).toNat) (by omega) hvb) (aL ⟨hlt2,?_⟩)));rw[bH (z:=c.Linear.aT[j].N*b[(c.Linear.aT[j].Var).toNat]) (by omega) (by omega),bH (by omega) (by omega),dT (by omega)];congr 3;show c.Linear.Const+fj c b j+_=c.Linear.Const+(fj c b j+(c.Linear.aT.getD j ⟨0,0⟩).N*vf b (c.Linear.aT.getD j ⟨0,0⟩).Var.toNat);rw[ve hlt2,mz hvb];omega
     . have:j=c.Linear.aT.length:=by omega
       subst this;rfl
   . refine aN (dN (by simp only[cD,eQ,cv,dM];omega) (by decide)) (aL ⟨hlt,?_⟩);rw[dT (by omega),<-jh hlt,jg];rw[hck];rfl
 . show _=_;rw[eU (by omega)]
theorem S9{n:Nat}{l l':List Constraint}{k:Int}(h:gY n l)(hk:1<=k/\k<=4)(h5:∀c∈l,∀q∈c.Linear.aT,q.N.natAbs<=5)(hc:∀c∈l,c.Linear.Const.natAbs<=1000000)(hs:∀c∈l',∃d∈l,c=iY k d)(hl:l'.length<=16):gY n l':=by
 refine⟨h.hn,hl,fun c hc'=>?_,fun c hc'=>?_,fun c hc' q hq=>?_⟩
 . obtain⟨d,hd,rfl⟩:=hs c hc';obtain⟨r1,r2⟩:=h.right d hd;refine⟨fun i hi=>?_,r2⟩;have hi:i<d.Linear.aT.length:=by simpa[iY]using hi
   obtain⟨a,b,c⟩:=r1 i hi;refine⟨by simpa[iY]using a,by simpa[iY]using b,fun h0=>by simpa[iY]using c h0⟩
 . obtain⟨d,hd,rfl⟩:=hs c hc';have h1:=hc d hd;show fG (d.Linear.Const*k);have:(d.Linear.Const*k).natAbs<=1000000*4:=tW h1 (by omega);unfold fG;omega
 . obtain⟨d,hd,rfl⟩:=hs c hc';obtain⟨q',hq',rfl⟩:=dz.1 (show q∈d.Linear.aT.map fun q=>(⟨q.Var,q.N*k⟩:gK) from hq);have:(q'.N*k).natAbs<=5*4:=tW (h5 d hd q' hq') (by omega);show(q'.N*k).natAbs<=50;omega
theorem QM{n:Nat}{l:List Constraint}{b:List Int}(h:gY n l)(hc:∀c∈l,c.Linear.Const.natAbs<=1000000)(hb:∀v∈b,v.natAbs<=1000000):gY n (l.map (mL b)):=by
 refine⟨h.hn,by rw[cD];exact h.len,fun c hc'=>?_,fun c hc'=>?_,fun c hc' q hq=>?_⟩
 . obtain⟨d,hd,rfl⟩:=dz.1 hc';exact h.right d hd
 . obtain⟨d,hd,rfl⟩:=dz.1 hc';have h1:=hc d hd;have h4:=h.cl hd;have h2:=CF (n:=n) hb (h.jw d hd) _ (bK _);have h3:d.Linear.aT.length*(50*1000000)<=4*(50*1000000):=pN _ h4;show fG (d.Linear.Const+fj d b d.Linear.aT.length);unfold fG;omega
 . obtain⟨d,hd,rfl⟩:=dz.1 hc';exact h.jw d hd q hq
theorem P8{n:Nat}{l l':List Constraint}(h:∀c,c∈l'↔c∈l):mR n l'↔mR n l:=by
 unfold mR pz;exact⟨fun⟨x,a,b⟩=>⟨x,a,fun c hc=>b c ((h c).2 hc)⟩,fun⟨x,a,b⟩=>⟨x,a,fun c hc=>b c ((h c).1 hc)⟩⟩
theorem Po{n:Nat}{l l':List Constraint}{k:Int}(hk:1<=k)(h:∀c,c∈l'↔∃d∈l,c=iY k d):mR n l'↔mR n l:=by
 have key:∀x (d:Constraint),(ig (iY k d) x<=0/\((iY k d).e9=true->ig (iY k d) x=0))↔(ig d x<=0/\(d.e9=true->ig d x=0)):=fun x d=>by
  rw[RS,show(iY k d).e9=d.e9 from rfl];have h1:k*ig d x<=0↔ig d x<=0:=by
   constructor
   . intro h;exact Ck (a:=k) (by rw[Ch];exact h) (by omega)
   . intro h;have:=fZ h (show 0<=k by omega);rwa[Ch]at this
  have h2:k*ig d x=0↔ig d x=0:=by rw[Int.mul_eq_zero];omega
  rw[h1,h2]
 unfold mR pz;constructor
 . rintro⟨x,a,b⟩;exact⟨x,a,fun d hd=>(key x d).1 (b _ ((h _).2 ⟨d,hd,rfl⟩))⟩
 . rintro⟨x,a,b⟩;refine⟨x,a,fun c hc=>?_⟩;obtain⟨d,hd,rfl⟩:=(h c).1 hc;exact(key x d).2 (b d hd)
theorem Q1{n:Nat}{l:List Constraint}{b:List Int}(hr:∀c∈l,fe c n):mR n (l.map (mL b))↔mR n l:=by
 unfold mR pz;constructor
 . rintro⟨x,a,h⟩;refine⟨vec n fun i=>vf x i+vf b i,eN,fun d hd=>?_⟩;have:=h (mL b d) (dz.2 ⟨d,hd,rfl⟩);rw[HJ (hr d hd)]at this;exact this
 . rintro⟨x,a,h⟩;refine⟨vec n fun i=>vf x i-vf b i,eN,fun c hc=>?_⟩;obtain⟨d,hd,rfl⟩:=dz.1 hc;have e:(vec n fun i=>vf (vec n fun i=>vf x i-vf b i) i+vf b i)=x:=lr (by rw[eN,a]) fun j hj=>by
    rw[eN]at hj;rw[dH hj,dH hj];omega
   rw[HJ (hr d hd),e];exact h d hd
theorem PC{n:Int}{l:List Constraint}{k:Int}{b:List Int}(hl:l.length<=9223372036854775807)
 (hc:∀c∈l,c.Linear.aT.length<=9223372036854775807/\fG c.Linear.Const/\∀k∈c.Linear.aT,fG k.N)(hk:0<=k/\k<=255)(hb:b.length<=9223372036854775807):Tm (fun N=>Au N n l k b) (·=true):=by
 unfold Au;refine Tm.bind (Q:=fun r=>r=false->Br n l 5/\(b.length:Int)=n) ?_ ?_
 . refine Tm.bind GM ?_;rintro _ rfl;refine cC (by simp) (Tm.bind (Pq hl (fun c h=>(hc c h).1) (by decide)) fun r hr=>aZ (fun h=>aL fun e=>(by cases e)) (fun h=>aL fun e=>⟨hr (by simpa using h),?_⟩));have:=of_decide_eq_false e;omega
 . intro r hr;refine aZ (fun h=>Tm.bind GM fun r hr=>aL hr) (fun h=>?_);obtain⟨hS,hbl⟩:=hr (by simpa using h);have h6:=hS.len;obtain⟨m,rfl,hL⟩:=hS.lok (by decide);have hbl:b.length=m:=by omega
   have hn:=hL.hn;have hC:∀c∈l,c.Linear.Const.natAbs<=1000000:=fun c hc=>by have:=hS.const c hc;omega
   have h5:∀c∈l,∀q∈c.Linear.aT,q.N.natAbs<=5:=fun c hc q hq=>by have:=hS.jw c hc q hq;omega
   refine Tm.bind (Tm.each (body:=fun N=>wa N b) b (fun v=>v.natAbs<=1000000) (Q:=fun r=>r=.inr true\/(r=.inl ()/\∀v∈b,v.natAbs<=1000000)) hb ?_ ?_) ?_
   . intro j hj _;dsimp only[wa];refine cL (by omega) (aN (cU hj) (Tm.bind (Q:=fun c=>c=false->(b[j]).natAbs<=1000000) (aZ (fun h=>aL fun e=>(by cases e)) (fun h=>aL fun e=>?_)) ?_))
     . have:=of_decide_eq_false e;omega
     . intro c hc;exact aZ (fun h=>aL (.inr ⟨_,rfl,.inl rfl⟩)) (fun h=>aL (.inl ⟨rfl,hc (by simpa using h)⟩))
   . intro h;dsimp only[wa];exact cC (by omega) (aL ⟨_,rfl,.inr ⟨rfl,h⟩⟩)
   rintro _ (rfl|⟨rfl,hbb⟩)
   . exact aL rfl
   dsimp only;refine Tm.bind (Ag hL) ?_;rintro⟨ok,right⟩ ⟨g1,g2⟩;dsimp only at g1 g2;subst g1;have m0:=lO k (show(4:Int)≠0 by decide);have m1:=lP k (show(0:Int)<4 by decide);have hkk:iw (1+Int.tmod (iw k) 4)=1+k%4:=by
    rw[bH (z:=k) (by omega) (by omega),MZ hk.1,bH (by omega) (by omega)]
   generalize hK:1+k%4=K at*;have hrev:∀c,c∈l.reverse↔c∈l:=fun c=>Na;refine aU (a:=(l.reverse.flatMap fun c=>[c,c],l.reverse.map (iY K))) (ei l.length (fun j t=>t=((l.reverse.take j).flatMap (fun c=>[c,c]),(l.reverse.take j).map (iY K),(l.length:Int)-1-j)) ?_ ?_) ?_
   . show(_,_,iw ((l.length:Int)-1))=_;rw[bH (by omega) (by omega),show(l.length:Int)-1-((0:Nat):Int)=(l.length:Int)-1 by omega];rfl
   . rintro j hj _ rfl;dsimp only[EV];refine aZ (fun hlt=>?_) (fun hge=>aL ?_)
     . have hlt:j<l.length:=by omega
       have hjr:j<l.reverse.length:=by rw[vT];exact hlt
       have hget:idx l ((l.length:Int)-1-j)=some l.reverse[j]:=by
        rw[gi (n:=l.length-1-j) (by omega) (by omega),List.getElem_reverse]
       have hm:l.reverse[j]∈l:=(hrev _).1 (cX hjr);have hlen:((l.reverse.take j).flatMap fun c:Constraint=>[c,c]).length<=2*j:=by
        have:∀a:List Constraint,(a.flatMap fun c=>[c,c]).length=2*a.length:=fun a=>by
         induction a with
         |nil=>rfl
         |cons x a ih=>rw[tx,dd,ih,cv];simp;omega
        rw[this,eQ];omega
       refine aN hget (aN hget (aN (dN (by simp only[cv,dM];omega) (by decide)) (aN hget ?_)));rw[hkk];refine aU (Sg (by omega) (hL.cl hm) (hC _ hm) (hL.jw _ hm)) (aN (dN (by simp only[cD,eQ,cv,dM];omega) (by decide)) (aL ⟨hlt,?_⟩));rw[bH (by omega) (by omega),<-jh hjr,List.flatMap_append,jg];simp only[tx,List.flatMap_nil,jN,List.map_nil,lK];congr 2;omega
     . have:j=l.length:=by omega
       subst this;rw[eU (by rw[vT];exact bK _)]
   dsimp only;have hback:∀c,c∈(l.reverse.flatMap fun c:Constraint=>[c,c])↔c∈l:=fun c=>by
    rw[vX];constructor
    . rintro⟨d,hd,hc⟩;have:c=d:=by simpa using hc
      rw[this];exact(hrev d).1 hd
    . exact fun h=>⟨c,(hrev c).2 h,by simp⟩
   have hbackl:(l.reverse.flatMap fun c:Constraint=>[c,c]).length=2*l.length:=by
    have:∀a:List Constraint,(a.flatMap fun c=>[c,c]).length=2*a.length:=fun a=>by
     induction a with
     |nil=>rfl
     |cons x a ih=>rw[tx,dd,ih,cv];simp;omega
    rw[this,vT]
   have hbackL:gY m (l.reverse.flatMap fun c:Constraint=>[c,c]):=⟨hn,by omega,fun c hc=>hL.right c ((hback c).1 hc),fun c hc=>hL.const c ((hback c).1 hc),fun c hc=>hL.jw c ((hback c).1 hc)⟩;refine Tm.bind (Ag hbackL) ?_;rintro⟨a1,b1⟩ ⟨q1,q2⟩;dsimp only at q1 q2;subst q1;have htm:∀c,c∈l.reverse.map (iY K)↔∃d∈l,c=iY K d:=fun c=>by
    rw[dz];exact⟨fun⟨d,hd,e⟩=>⟨d,(hrev d).1 hd,e.symm⟩,fun⟨d,hd,e⟩=>⟨d,(hrev d).2 hd,e.symm⟩⟩
   refine Tm.bind (Ag (S9 hL (by omega) h5 hC (fun c hc=>(htm c).1 hc) (by rw[cD,vT];omega))) ?_;rintro⟨a2,b2⟩ ⟨q3,q4⟩;dsimp only at q3 q4;subst q3;refine aU (T8 hL hC hbl hbb) (Tm.bind (Ag (QM hL hC hbb)) ?_);rintro⟨a3,b3⟩ ⟨q5,q6⟩;dsimp only at q5 q6;subst q5;rw[P8 hback,<-g2]at q2;rw[Po (by omega) htm,<-g2]at q4;rw[Q1 hL.right,<-g2]at q6;have e1:a1=ok:=Nl.2 q2;have e2:a2=ok:=Nl.2 q4;have e3:a3=ok:=Nl.2 q6;subst e1;subst e2;subst e3;exact cL rfl (cL rfl (cL rfl (cL rfl (cL (by simp) (cL (by simp) (aL (by simp)))))))
end Go.D
namespace Go.Proofs
open Go.Shelf
def Tryz.HG:Go.Shelf.Ren:=⟨fun|156=>122|165=>153|166=>154|169=>155|240=>176|241=>177|276=>185|277=>186|n=>n,fun|31=>158|9=>9|3=>3|4=>4|0=>0|20=>20|72=>196|76=>199|70=>193|37=>194|75=>198|127=>219|164=>230|5=>5|80=>201|n=>n,fun|n=>n⟩
theorem Tryz.HO:Go.Proofs.Lays.n156 Tryz.prog Tryz.HG:={
 mixed:=by kernel_rfl
 f156:=Tryz.func122.trans (congrArg some (by kernel_rfl))
 f165:=Tryz.func153.trans (congrArg some (by kernel_rfl))
 f166:=Tryz.func154.trans (congrArg some (by kernel_rfl))
 f169:=Tryz.func155.trans (congrArg some (by kernel_rfl))
 f240:=Tryz.func176.trans (congrArg some (by kernel_rfl))
 f241:=Tryz.func177.trans (congrArg some (by kernel_rfl))
 f276:=Tryz.func185.trans (congrArg some (by kernel_rfl))
 f277:=Tryz.func186.trans (congrArg some (by kernel_rfl))
 t0:=Tryz.underlying0
 a0:=Tryz.isAgg0
 z0:=Tryz.sizeOf0
 v0:=Tryz.zeroValue0
 t3:=Tryz.underlying3
 a3:=Tryz.isAgg3
 z3:=Tryz.sizeOf3
 v3:=Tryz.zeroValue3
 t4:=Tryz.underlying4
 a4:=Tryz.isAgg4
 z4:=Tryz.sizeOf4
 v4:=Tryz.zeroValue4
 t9:=Tryz.underlying9
 a9:=Tryz.isAgg9
 z9:=Tryz.sizeOf9
 v9:=Tryz.zeroValue9
 t20:=Tryz.underlying20
 a20:=Tryz.isAgg20
 z20:=Tryz.sizeOf20
 v20:=Tryz.zeroValue20
 t31:=Tryz.underlying158
 a31:=Tryz.isAgg158
 z31:=Tryz.sizeOf158
 v31:=Tryz.zeroValue158
 t37:=Tryz.underlying194
 a37:=Tryz.isAgg194
 z37:=Tryz.sizeOf194
 v37:=Tryz.zeroValue194
 t70:=Tryz.underlying193
 a70:=Tryz.isAgg193
 z70:=Tryz.sizeOf193
 v70:=Tryz.zeroValue193
 t72:=Tryz.underlying196
 a72:=Tryz.isAgg196
 z72:=Tryz.sizeOf196
 v72:=Tryz.zeroValue196
 t75:=Tryz.underlying198
 a75:=Tryz.isAgg198
 z75:=Tryz.sizeOf198
 v75:=Tryz.zeroValue198
 t76:=Tryz.underlying199
 a76:=Tryz.isAgg199
 z76:=Tryz.sizeOf199
 v76:=Tryz.zeroValue199
 t127:=Tryz.underlying219
 a127:=Tryz.isAgg219
 z127:=Tryz.sizeOf219
 v127:=Tryz.zeroValue219
 t164:=Tryz.underlying230
 a164:=Tryz.isAgg230
 z164:=Tryz.sizeOf230
 v164:=Tryz.zeroValue230}
theorem Tryz.GV:Builder.Extra Tryz.prog Tryz.HG:={
 sizeBuilder:=by kernel_rfl
 liesBuilder:=by kernel_rfl
 t5:=Tryz.underlying5
 a5:=Tryz.isAgg5
 z5:=Tryz.sizeOf5
 v5:=Tryz.zeroValue5
 infoByte:=by kernel_rfl
 cellsByte:=by kernel_rfl
 sizeByte:=by kernel_rfl
 neB5:=by decide}
open Go.RowKit in
theorem Tryz.strings_Join_none(a:Option Addr)(c:Nat)(sep:ByteArray)(w:World):
 Calls Tryz.prog 122 #[.slice a 0 c,.string sep] w fun e w'=>e=.returned (.string ⟨#[]⟩)/\w'=w:=Any.strings_Join_none Tryz.HO Tryz.GV a c sep w
open Go.RowKit in
theorem Tryz.strings_Join(bk o c:Nat)(xs:List ByteArray)(sep:ByteArray)(w:World)(hcells:∀(j:Nat) x,xs[j]?=some x->w.cell? ⟨bk,o+j,none⟩=some (.string x))(hbk:bk<w.heap.size)(hN:xs.length<=140737488355328)(hcap:xs.length<=c)(hlen:(Lib.join (xs.map (·.data.toList)) sep.data.toList).length<=140737488355328):
 Calls Tryz.prog 122 #[.slice (some ⟨bk,o,none⟩) xs.length c,.string sep] w fun e w'=>e=.returned (.string ⟨(Lib.join (xs.map (·.data.toList)) sep.data.toList).toArray⟩)/\Below w.heap.size w w':=Any.strings_Join Tryz.HO Tryz.GV bk o c xs sep w hcells hbk hN hcap hlen
def Tryz.TM:Go.Shelf.Ren:=⟨fun|283=>178|n=>n,fun|3=>3|9=>9|4=>4|n=>n,fun|n=>n⟩
theorem Tryz.Q9:Go.Proofs.Lays.n283 Tryz.prog Tryz.TM:={
 mixed:=by kernel_rfl
 f283:=Tryz.func178.trans (congrArg some (by kernel_rfl))
 t3:=Tryz.underlying3
 a3:=Tryz.isAgg3
 z3:=Tryz.sizeOf3
 v3:=Tryz.zeroValue3
 t4:=Tryz.underlying4
 a4:=Tryz.isAgg4
 z4:=Tryz.sizeOf4
 v4:=Tryz.zeroValue4
 t9:=Tryz.underlying9
 a9:=Tryz.isAgg9
 z9:=Tryz.sizeOf9
 v9:=Tryz.zeroValue9}
open Go.Lib in
theorem Tryz.internal_strconv_small(i:Nat)(h:i<100)(w:World):
 Calls Tryz.prog 178 #[.int .i64 i] w fun e w'=>e=.returned (.string ⟨(Lib.decDigits i).toArray⟩)/\w'=w:=Any.internal_strconv_small Tryz.Q9 i h w
def Tryz.QE:Go.Shelf.Ren:=⟨fun|284=>179|129=>188|317=>187|318=>189|n=>n,fun|53=>87|3=>3|212=>234|0=>0|4=>4|46=>112|5=>5|9=>9|n=>n,fun|17=>0|n=>n⟩
theorem Tryz.Qb:Go.Proofs.LaysM.n284 Tryz.prog Tryz.QE:={
 mixed:=by kernel_rfl
 f129:=Tryz.func188.trans (congrArg some (by kernel_rfl))
 f284:=Tryz.func179.trans (congrArg some (by kernel_rfl))
 f317:=Tryz.func187.trans (congrArg some (by kernel_rfl))
 f318:=Tryz.func189.trans (congrArg some (by kernel_rfl))
 t0:=Tryz.underlying0
 a0:=Tryz.isAgg0
 z0:=Tryz.sizeOf0
 v0:=Tryz.zeroValue0
 t3:=Tryz.underlying3
 a3:=Tryz.isAgg3
 z3:=Tryz.sizeOf3
 v3:=Tryz.zeroValue3
 t4:=Tryz.underlying4
 a4:=Tryz.isAgg4
 z4:=Tryz.sizeOf4
 v4:=Tryz.zeroValue4
 t5:=Tryz.underlying5
 a5:=Tryz.isAgg5
 z5:=Tryz.sizeOf5
 v5:=Tryz.zeroValue5
 t9:=Tryz.underlying9
 a9:=Tryz.isAgg9
 z9:=Tryz.sizeOf9
 v9:=Tryz.zeroValue9
 t46:=Tryz.underlying112
 a46:=Tryz.isAgg112
 z46:=Tryz.sizeOf112
 v46:=Tryz.zeroValue112
 t53:=Tryz.underlying87
 a53:=Tryz.isAgg87
 z53:=Tryz.sizeOf87
 v53:=Tryz.zeroValue87
 t212:=Tryz.underlying234
 a212:=Tryz.isAgg234
 z212:=Tryz.sizeOf234
 v212:=Tryz.zeroValue234
 g17:=by kernel_rfl
 i0:=by kernel_rfl
 i3:=by kernel_rfl
 i4:=by kernel_rfl
 i5:=by kernel_rfl
 i9:=by kernel_rfl
 i46:=by kernel_rfl
 i53:=by kernel_rfl
 i212:=by kernel_rfl
 m17:=by kernel_rfl}
open Go.Lib in
theorem Tryz.internal_strconv_numDigits(u:Nat)(h1:1<=u)(h2:u<18446744073709551616)(w:World)(htab:Lib.TabIs Tryz.prog w "internal/strconv.uint64pow10" .u64 Lib.pow10Tab):
 Calls Tryz.prog 179 #[.int .u64 u] w fun e w'=>e=.returned (.int .i64 (Lib.nDigits u))/\w'=w:=Any.internal_strconv_numDigits Tryz.Qb u h1 h2 w htab
def Tryz.Pg:Go.Shelf.Ren:=⟨fun|285=>180|n=>n,fun|37=>194|53=>87|3=>3|4=>4|51=>86|9=>9|5=>5|0=>0|n=>n,fun|n=>n⟩
theorem Tryz.Oh:Go.Proofs.Lays.n285 Tryz.prog Tryz.Pg:={
 mixed:=by kernel_rfl
 f285:=Tryz.func180.trans (congrArg some (by kernel_rfl))
 t0:=Tryz.underlying0
 a0:=Tryz.isAgg0
 z0:=Tryz.sizeOf0
 v0:=Tryz.zeroValue0
 t3:=Tryz.underlying3
 a3:=Tryz.isAgg3
 z3:=Tryz.sizeOf3
 v3:=Tryz.zeroValue3
 t4:=Tryz.underlying4
 a4:=Tryz.isAgg4
 z4:=Tryz.sizeOf4
 v4:=Tryz.zeroValue4
 t5:=Tryz.underlying5
 a5:=Tryz.isAgg5
 z5:=Tryz.sizeOf5
 v5:=Tryz.zeroValue5
 t9:=Tryz.underlying9
 a9:=Tryz.isAgg9
 z9:=Tryz.sizeOf9
 v9:=Tryz.zeroValue9
 t37:=Tryz.underlying194
 a37:=Tryz.isAgg194
 z37:=Tryz.sizeOf194
 v37:=Tryz.zeroValue194
 t51:=Tryz.underlying86
 a51:=Tryz.isAgg86
 z51:=Tryz.sizeOf86
 v51:=Tryz.zeroValue86
 t53:=Tryz.underlying87
 a53:=Tryz.isAgg87
 z53:=Tryz.sizeOf87
 v53:=Tryz.zeroValue87}
open Go.RowKit Go.Sort Go.Lib in
theorem Tryz.internal_strconv_formatBase10(dt off cap:Nat)(u:Nat)(d:Array UInt8)(w:World)(hH:Holds (fun(b:UInt8)=>Value.int .u8 (b.toNat:Int)) w dt off d)(hu:u<10^d.size)(hu64:u<18446744073709551616)(hsz:d.size<4611686018427387904):
 Calls Tryz.prog 180 #[.slice (some ⟨dt,off,none⟩) d.size cap,.int .u64 u] w fun e w'=>
  e=.returned (.tuple #[])/\∃(n v':Nat) (dk:Array UInt8),w'=(putRow (fun(b:UInt8)=>Value.int .u8 (b.toNat:Int)) w dt off dk).drewN n/\FmtInv d.size u 0 v' dk:=Any.internal_strconv_formatBase10 Tryz.Oh dt off cap u d w hH hu hu64 hsz
def Tryz.LC:Go.Shelf.Ren:=⟨fun|105=>151|212=>173|99=>174|165=>153|166=>154|170=>175|169=>155|263=>182|264=>183|206=>184|240=>176|241=>177|276=>185|277=>186|n=>n,fun|9=>9|3=>3|4=>4|20=>20|0=>0|46=>112|109=>215|5=>5|72=>196|76=>199|51=>86|146=>226|53=>87|148=>228|70=>193|37=>194|75=>198|127=>219|164=>230|80=>201|n=>n,fun|n=>n⟩
theorem Tryz.Uf:Go.Proofs.Lays.n105 Tryz.prog Tryz.LC:={
 mixed:=by kernel_rfl
 f99:=Tryz.func174.trans (congrArg some (by kernel_rfl))
 f105:=Tryz.func151.trans (congrArg some (by kernel_rfl))
 f165:=Tryz.func153.trans (congrArg some (by kernel_rfl))
 f166:=Tryz.func154.trans (congrArg some (by kernel_rfl))
 f169:=Tryz.func155.trans (congrArg some (by kernel_rfl))
 f170:=Tryz.func175.trans (congrArg some (by kernel_rfl))
 f206:=Tryz.func184.trans (congrArg some (by kernel_rfl))
 f212:=Tryz.func173.trans (congrArg some (by kernel_rfl))
 f240:=Tryz.func176.trans (congrArg some (by kernel_rfl))
 f241:=Tryz.func177.trans (congrArg some (by kernel_rfl))
 f263:=Tryz.func182.trans (congrArg some (by kernel_rfl))
 f264:=Tryz.func183.trans (congrArg some (by kernel_rfl))
 f276:=Tryz.func185.trans (congrArg some (by kernel_rfl))
 f277:=Tryz.func186.trans (congrArg some (by kernel_rfl))
 t0:=Tryz.underlying0
 a0:=Tryz.isAgg0
 z0:=Tryz.sizeOf0
 v0:=Tryz.zeroValue0
 t3:=Tryz.underlying3
 a3:=Tryz.isAgg3
 z3:=Tryz.sizeOf3
 v3:=Tryz.zeroValue3
 t4:=Tryz.underlying4
 a4:=Tryz.isAgg4
 z4:=Tryz.sizeOf4
 v4:=Tryz.zeroValue4
 t5:=Tryz.underlying5
 a5:=Tryz.isAgg5
 z5:=Tryz.sizeOf5
 v5:=Tryz.zeroValue5
 t9:=Tryz.underlying9
 a9:=Tryz.isAgg9
 z9:=Tryz.sizeOf9
 v9:=Tryz.zeroValue9
 t20:=Tryz.underlying20
 a20:=Tryz.isAgg20
 z20:=Tryz.sizeOf20
 v20:=Tryz.zeroValue20
 t37:=Tryz.underlying194
 a37:=Tryz.isAgg194
 z37:=Tryz.sizeOf194
 v37:=Tryz.zeroValue194
 t46:=Tryz.underlying112
 a46:=Tryz.isAgg112
 z46:=Tryz.sizeOf112
 v46:=Tryz.zeroValue112
 t51:=Tryz.underlying86
 a51:=Tryz.isAgg86
 z51:=Tryz.sizeOf86
 v51:=Tryz.zeroValue86
 t53:=Tryz.underlying87
 a53:=Tryz.isAgg87
 z53:=Tryz.sizeOf87
 v53:=Tryz.zeroValue87
 t70:=Tryz.underlying193
 a70:=Tryz.isAgg193
 z70:=Tryz.sizeOf193
 v70:=Tryz.zeroValue193
 t72:=Tryz.underlying196
 a72:=Tryz.isAgg196
 z72:=Tryz.sizeOf196
 v72:=Tryz.zeroValue196
 t75:=Tryz.underlying198
 a75:=Tryz.isAgg198
 z75:=Tryz.sizeOf198
 v75:=Tryz.zeroValue198
 t76:=Tryz.underlying199
 a76:=Tryz.isAgg199
 z76:=Tryz.sizeOf199
 v76:=Tryz.zeroValue199
 t109:=Tryz.underlying215
 a109:=Tryz.isAgg215
 z109:=Tryz.sizeOf215
 v109:=Tryz.zeroValue215
 t127:=Tryz.underlying219
 a127:=Tryz.isAgg219
 z127:=Tryz.sizeOf219
 v127:=Tryz.zeroValue219
 t146:=Tryz.underlying226
 a146:=Tryz.isAgg226
 z146:=Tryz.sizeOf226
 v146:=Tryz.zeroValue226
 t148:=Tryz.underlying228
 a148:=Tryz.isAgg228
 z148:=Tryz.sizeOf228
 v148:=Tryz.zeroValue228
 t164:=Tryz.underlying230
 a164:=Tryz.isAgg230
 z164:=Tryz.sizeOf230
 v164:=Tryz.zeroValue230}
theorem Tryz.QO:Builder.Extra Tryz.prog Tryz.LC:={
 sizeBuilder:=by kernel_rfl
 liesBuilder:=by kernel_rfl
 t5:=Tryz.underlying5
 a5:=Tryz.isAgg5
 z5:=Tryz.sizeOf5
 v5:=Tryz.zeroValue5
 infoByte:=by kernel_rfl
 cellsByte:=by kernel_rfl
 sizeByte:=by kernel_rfl
 neB5:=by decide}
open Go.RowKit Go.Lib in
theorem Tryz.strings_Repeat(s:ByteArray)(c:Nat)(w:World)(hc:c<=9223372036854775807)(hlen:s.size*c<=140737488355328):
 Calls Tryz.prog 151 #[.string s,.int .i64 c] w fun e w'=>e=.returned (.string ⟨(Lib.repeatL s.data.toList c).toArray⟩)/\Below w.heap.size w w':=Any.strings_Repeat Tryz.Uf Tryz.QO s c w hc hlen
def Tryz.Rd:Go.Shelf.Ren:=⟨fun|17=>152|n=>n,fun|24=>158|9=>9|3=>3|4=>4|0=>0|n=>n,fun|n=>n⟩
theorem Tryz.JL:Go.Proofs.Lays2.n17 Tryz.prog Tryz.Rd:={
 mixed:=by kernel_rfl
 f17:=Tryz.func152.trans (congrArg some (by kernel_rfl))
 t0:=Tryz.underlying0
 a0:=Tryz.isAgg0
 z0:=Tryz.sizeOf0
 v0:=Tryz.zeroValue0
 t3:=Tryz.underlying3
 a3:=Tryz.isAgg3
 z3:=Tryz.sizeOf3
 v3:=Tryz.zeroValue3
 t4:=Tryz.underlying4
 a4:=Tryz.isAgg4
 z4:=Tryz.sizeOf4
 v4:=Tryz.zeroValue4
 t9:=Tryz.underlying9
 a9:=Tryz.isAgg9
 z9:=Tryz.sizeOf9
 v9:=Tryz.zeroValue9
 t24:=Tryz.underlying158
 a24:=Tryz.isAgg158
 z24:=Tryz.sizeOf158
 v24:=Tryz.zeroValue158}
open Go.RowKit Go.Lib Go.Sort in
theorem Tryz.slices_Reverse_string(dt off cap:Nat)(zs:List (List UInt8))(w:World)(hH:Holds encStr w dt off zs.toArray)(hsz:zs.length<=9223372036854775807):
 Calls Tryz.prog 152 #[.slice (some ⟨dt,off,none⟩) zs.length cap] w fun e w'=>e=.returned (.tuple #[])/\∃n,w'=putRow encStr (Sort.ahead w n) dt off zs.reverse.toArray:=Any.slices_Reverse_string Tryz.JL dt off cap zs w hH hsz
open Go.RowKit Go.Lib Go.Sort in
theorem Tryz.slices_Reverse_string_empty(a:Option Addr)(cap:Nat)(w:World):
 Calls Tryz.prog 152 #[.slice a 0 cap] w fun e w'=>e=.returned (.tuple #[])/\w'=w:=Any.slices_Reverse_string_empty Tryz.JL a cap w
end Go.Proofs
namespace Go.Proofs.YtipdkfmhfakbnaaGreatDoor.F
open Go Go.Shelf Go.RowKit Go.Sort Go.Lib Go.Proofs
set_option maxHeartbeats 6400000 in
set_option maxRecDepth 100000 in
theorem fmtU(u:Nat)(hu64:u<18446744073709551616)(w:World)
 (htab:Lib.TabIs Tryz.prog w "internal/strconv.uint64pow10" .u64 Lib.pow10Tab):
 Calls Tryz.prog 172 #[.int .u64 u,.int .i64 10] w fun e w'=>e=.returned (.string ⟨(Lib.decDigits u).toArray⟩)/\∃k os,w'=grow (w.drewN k) os:=by
 by_cases hs:u<100
 . go_enter Tryz.func172,Tryz.ntmps172
   go_wp2_with (refine(Tryz.internal_strconv_small u hs _).mono ?_;rintro e w' ⟨rfl,rfl⟩)
   go_ret
   exact⟨rfl,0,#[],by simp[World.drewN_zero]⟩
 . have hu1:1<=u:=by omega
   have hnd20:Lib.nDigits u<=20:=by have:=Lib.numDigits_eq u hu1 hu64;split at this<;>omega
   have hal:Tryz.prog.arrayLen 221=24:=by simp[Program.arrayLen,Tryz.underlying221]
   have hsl1:∀W,(Instr.sliceAt 221 (.pointer (some ⟨w.heap.size,0,none⟩)) none (some (.int .i64 (Lib.nDigits u:Int))) none).run Tryz.prog W=.ok (.slice (some ⟨w.heap.size,0,none⟩) (Lib.nDigits u) 24) W:=fun W=>by
    rw[run_sliceAt_array_h W 221 ⟨w.heap.size,0,none⟩ (by simp[Program.arrayLen,Program.elem,Tryz.underlying221]) .i64 (Lib.nDigits u:Int) (by omega) (by rw[hal];omega)]
    go_simp
   have hH0:=Lib.holds_zero0 w 221 (Lib.nDigits u) (by omega);have hfmt:=Tryz.internal_strconv_formatBase10 w.heap.size 0 24 u (Array.replicate (Lib.nDigits u) 0) (w.alloc (.cells Lib.zeros24 221)) hH0 (by rw[GJ];exact Lib.lt_pow_nDigits u) hu64 (by rw[GJ];omega);rw[GJ]at hfmt;have HH0:=Lib.hid hH0;clear hH0 hal
   go_enter Tryz.func172,Tryz.ntmps172
   go_wp2_with (first
    |(refine(Tryz.internal_strconv_numDigits u hu1 hu64 _ (Lib.tabIs_alloc htab _)).mono ?_;rintro e w' ⟨rfl,rfl⟩))
   refine hfmt.mono ?_;rintro e w' ⟨rfl,k,v',dk,rfl,hF⟩;have hcv:(convert 194 9 (.slice (some ⟨w.heap.size,0,none⟩) (Lib.nDigits u) 24)).run Tryz.prog ((putRow (fun(b:UInt8)=>Value.int .u8 (b.toNat:Int)) (w.alloc (.cells Lib.zeros24 221)) w.heap.size 0 dk).drewN k)=.ok (.string ⟨(Lib.decDigits u).toArray⟩) ((putRow (fun(b:UInt8)=>Value.int .u8 (b.toNat:Int)) (w.alloc (.cells Lib.zeros24 221)) w.heap.size 0 dk).drewN k):=by
    have h:=run_convert_bytes_back (P:=Tryz.prog) ((putRow (fun(b:UInt8)=>Value.int .u8 (b.toNat:Int)) (w.alloc (.cells Lib.zeros24 221)) w.heap.size 0 dk).drewN k) 194 9 5 ⟨w.heap.size,0,none⟩ 24 (Lib.decDigits u) Tryz.underlying194 Tryz.underlying5 Tryz.underlying9 (fun j hj=>by
     rw[Lib.row_is_numeral hF j hj,Lib.add_plain,World.cell?_drewN];exact cell?_putRow (fun(b:UInt8)=>Value.int .u8 (b.toNat:Int)) _ w.heap.size 0 _ dk HH0.out (by rw[hF.size,GJ]) j (by rw[hF.size];rw[Lib.decDigits_length]at hj;exact hj))
    rw[Lib.decDigits_length]at h;exact h
   go_wp2
   go_ret
   obtain⟨os,eo⟩:=Lib.fin_at w (.cells Lib.zeros24 221) dk k 0;exact⟨rfl,k,os,eo⟩
theorem PG(u:Nat)(hu64:u<18446744073709551616)(w:World)
 (htab:Lib.TabIs Tryz.prog w "internal/strconv.uint64pow10" .u64 Lib.pow10Tab):
 Calls Tryz.prog 150 #[.int .u64 u,.int .i64 10] w fun e w'=>e=.returned (.string ⟨(Lib.decDigits u).toArray⟩)/\∃k os,w'=grow (w.drewN k) os:=by
 go_enter Tryz.func150,Tryz.ntmps150
 go_wp2_with (refine(fmtU u hu64 _ htab).mono ?_;rintro e w' ⟨rfl,k,os,rfl⟩)
 go_ret
 exact⟨rfl,k,os,rfl⟩
end Go.Proofs.YtipdkfmhfakbnaaGreatDoor.F

/- Plain theorems and definitions of this seat, several texts in one. -/
import Derived.Test.YtipdkfmhfakbnaaGreatDoorAe
import Derived.Test.YtipdkfmhfakbnaaGreatDoorAd
import Derived.KernelRfl
import Derived.Shelf.Strings.Builder1
import Derived.Shelf.Strings.Builder2
import Derived.Shelf.Strings.OnBuilder
import Derived.Shelf.Small.Bits
import Derived.Shelf.Strings.BuilderF
import Derived.Shelf.Strconv.Itoa0
import Derived.Shelf.Strconv.Itoa1
import Derived.Shelf.LaysM
import Derived.Shelf.Strconv.Itoa2
import Derived.Shelf.Strings.Prefix
import Derived.Shelf.Bits.Mul64
import Derived.Shelf.Strings.Repeat
import Derived.Ground.Names2Prog
import Derived.Shelf.Slices.ReverseS
import Derived.Shelf.Slices.Clone
import Derived.Shelf.Slices.Cells
import Derived.Ground.SlgnProg
import Derived.Shelf.SlicesE.Clone
import Derived.Test.YtipdkfmhfakbnaaGreatDoorProg
import Derived.Shelf.Strconv.Itoa3
import Derived.Lib.AppendIntMem
import Derived.Test.YtipdkfmhfakbnaaGreatDoorAb
set_option linter.unusedVariables false
set_option linter.unusedSimpArgs false
set_option linter.unusedSectionVars false
set_option maxHeartbeats 1000000
namespace Go.D
open Go Go.X
theorem IZ{α:Type}{a c:α->Int}:∀{U:List α},(∀x∈U,0<a x)->∃z:Int,∀x∈U,a x*z<=c x
 |[],_=>⟨0,fun x hx=>by cases hx⟩
 |u::U,h=>by
  obtain⟨z,hz⟩:=IZ (c:=c) (U:=U) fun x hx=>h x (cG _ hx);have hu:=h u cK;refine⟨min z ((c u).fdiv (a u)),fun x hx=>?_⟩;rcases dT.1 hx with rfl|hx
  . have h1:=qz (a:=c x) hu;have h2:=fZ (Int.min_le_right z ((c x).fdiv (a x))) (ee hu);rw[fH (a x) ((c x).fdiv (a x))]at h2;omega
  . have h1:=hz x hx;have h2:=fZ (Int.min_le_left z ((c u).fdiv (a u))) (ee (h x (cG _ hx)));omega
theorem HQ{α:Type}{b d:α->Int}:∀{W:List α},W≠[]->(∀x∈W,0<b x)->∃z:Int,(∀x∈W,d x<=b x*z)/\∃x∈W,b x*z<=d x+b x-1
 |[],h0,_=>absurd rfl h0
 |w::W,_,h=>by
  have hw:=h w cK;have h1:=qz (a:=-d w) hw;generalize hq:(-d w).fdiv (b w)=q at h1;have e1:b w*-q=-(q*b w):=by rw[nr,fH]
  by_cases hW:W=[]
  . subst hW;exact⟨-q,fun x hx=>by rw[cI.1 hx];omega,w,cK,by omega⟩
  . obtain⟨z,hz,x,hx,hxz⟩:=HQ (d:=d) hW fun x hx=>h x (cG _ hx);rcases vU (-q) z with hc|hc
    . refine⟨z,fun y hy=>?_,x,cG _ hx,hxz⟩;rcases dT.1 hy with rfl|hy
      . have:=fZ hc (ee hw);omega
      . exact hz y hy
    . refine⟨-q,fun y hy=>?_,w,cK,by omega⟩;rcases dT.1 hy with rfl|hy
      . omega
      . have:=fZ hc (ee (h y (cG _ hy)));have:=hz y hy;omega
theorem Oy{α:Type}{U W:List α}{a c b d:α->Int}(ha:∀x∈U,0<a x)(hb:∀w∈W,0<b w)(h:∀x∈U,∀w∈W,(a x-1)*(b w-1)<=b w*c x-a x*d w):
 ∃z:Int,(∀x∈U,a x*z<=c x)/\∀w∈W,d w<=b w*z:=by
 by_cases hW:W=[]
 . subst hW;obtain⟨z,hz⟩:=IZ (c:=c) ha;exact⟨z,hz,fun w hw=>by cases hw⟩
 . obtain⟨z,hz,w,hw,hwz⟩:=HQ (d:=d) hW hb;refine⟨z,fun x hx=>?_,hz⟩;have h1:=h x hx w hw;have hap:=ha x hx;have hbp:=hb w hw;have h2:=fZ hwz (ee hap);have e1:a x*(b w*z)=b w*(a x*z):=by grind
   have e2:a x*(d w+b w-1)=a x*d w+a x*b w-a x:=by grind
   have e3:(a x-1)*(b w-1)=a x*b w-a x-b w+1:=by grind
   have h3:b w*(a x*z)<b w*(c x+1):=by rw[tw,yG];omega
   have:=GA h3 (ee hbp);omega
def fu(s:St)(v:Nat)(dA:Bool)(ats:List Nat):St:={s with status:=s.status.set v 2,items:=s.items.filter (fun x=>!decide (vf x.g v≠0)),stack:=s.stack++[⟨v,ats,dA⟩]}
def fe(s:St)(v:Nat):List Nat:=(cx v s.items++dw v s.items).map AI.pos
theorem Rm(s:St)(v:Nat)(dA:Bool):eI s v dA=fu s v dA (fe s v):=rfl
theorem qh{s:St}{v:Nat}{t:Bool}{ats:List Nat}{x:AI}:x∈(fu s v t ats).items↔x∈s.items/\vf x.g v=0:=by
 show x∈s.items.filter _↔_;simp[Ge]
def w8(s:St)(v:Nat)(ats:List Nat):Prop:=∀p∈ats,p<s.known.length/\(∀j,j<s.n->vf s.status j≠0->cu s.u s.n (aI s.known p).c j=0)/\cu s.u s.n (aI s.known p).c v≠0
theorem IG{s:St}{v:Nat}(hI:Inv s)(hv:v<s.n):w8 s v (fe s v):=by
 intro p hp;obtain⟨x,hx,rfl⟩:=dL.1 hp;have hx':x∈s.items/\vf x.g v≠0:=by
  rcases fb.1 hx with h|h
  . have:=j3.1 h;exact⟨this.1,by omega⟩
  . have:=im.1 h;exact⟨this.1,by omega⟩
 refine⟨(hI.it x hx'.1).1,fun j hj hst=>?_,?_⟩
 . rw[<-hI.dp x hx'.1 j hj];exact hI.nf x hx'.1 j hj hst
 . rw[<-hI.dp x hx'.1 v hv];exact hx'.2
section
variable {s:St} {v:Nat} {t:Bool} {ats:List Nat}
theorem qx(hI:Inv s)(hv:v<s.n)(j:Nat):vf (fu s v t ats).status j=if v=j then 2 else vf s.status j:=jR (by rw[hI.fR];exact hv)
theorem Inv.fu(hI:Inv s)(hv:v<s.n)(hst:vf s.status v=0)(ha:w8 s v ats):Inv (fu s v t ats)where
 ul:=hI.ul
 fR:=by show(s.status.set v 2).length=_;rw[iS];exact hI.fR
 vl:=hI.vl
 kl:=hI.kl
 it x hx:=hI.it x (qh.1 hx).1
 dp x hx:=hI.dp x (qh.1 hx).1
 nf x hx j hj h:=by
  rw[qx hI hv]at h;by_cases e:v=j
  . subst e;exact(qh.1 hx).2
  . rw[if_neg e]at h;exact hI.nf x (qh.1 hx).1 j hj h
 gF x hx:=hI.gF x (qh.1 hx).1
 j2:=List.Pairwise.filter _ hI.j2
 kp:=hI.kp
 stat j hj:=by
  rw[qx hI hv];split
  . exact .inr (.inr rfl)
  . exact hI.stat j hj
 sv e he:=by
  rcases fb.1 he with he|he
  . obtain⟨e1,e2,e3⟩:=hI.sv e he;refine⟨e1,?_,e3⟩;rw[qx hI hv];split
    . rfl
    . exact e2
  . rw[cI.1 he];exact⟨hv,by rw[qx hI hv,if_pos rfl],fun p hp=>(ha p hp).1⟩
 s2 j hj h:=by
  rw[qx hI hv]at h;by_cases e:v=j
  . exact⟨_,qW _ (cI.2 rfl),e⟩
  . rw[if_neg e]at h;obtain⟨e',he',hv'⟩:=hI.s2 j hj h;exact⟨e',yA _ he',hv'⟩
 sd:=by
  refine List.pairwise_append.2 ⟨hI.sd,List.pairwise_singleton _ _,fun a ha' b hb=>?_⟩;rw[cI.1 hb];obtain⟨a1,a2,_⟩:=hI.sv a ha';refine⟨fun e=>?_,fun p hp=>(ha p hp).2.1 a.v a1 (by omega)⟩;have e:a.v=v:=e;rw[e,hst]at a2;omega
theorem IW{n:Nat}{x y:AI}:(comb n v x y).length=n:=fh
theorem Bi{n j:Nat}{x y:AI}(hj:j<n):vf (comb n v x y) j=-vf y.g v*vf x.g j+vf x.g v*vf y.g j:=dK hj
theorem KR{a b:Int}{A B:Nat}(ha:a.natAbs<=A)(hb:b.natAbs<=B):(a*b).natAbs<=A*B:=by rw[yH];exact iR ha hb
theorem Hy{Kk C:Nat}(hI:Inv s)(hs:gv Kk s)(hv:v<s.n)(hC:∀x∈s.items,∀j,j<s.n->(vf x.g j).natAbs<=C)(hCb:C<=4294967296):
 ∀a∈cX s v,(lh Kk (fu s v t ats) a/\wB (4*(C*C)) a)/\mY Kk (fu s v t ats) a:=by
 intro a ha;obtain⟨x,hx,y,hy,rfl⟩:=IQ.1 ha;obtain⟨hxm,hxv⟩:=j3.1 hx;obtain⟨hym,hyv⟩:=im.1 hy;obtain⟨x1,x2⟩:=hI.it x hxm;obtain⟨y1,y2⟩:=hI.it y hym;have hC2:C*C<=4294967296*4294967296:=iR hCb hCb;have hb:∀j,j<s.n->(vf (comb s.n v x y) j).natAbs<=2*(C*C):=fun j hj=>by
  rw[Bi hj];have h1:=KR (a:=-vf y.g v) (b:=vf x.g j) (A:=C) (B:=C) (by rw[Cm];exact hC y hym v hv) (hC x hxm j hj);have h2:=KR (hC x hxm v hv) (hC y hym j hj);omega
 have hgb:GB (4*(C*C)) (comb s.n v x y):=fun w hw=>by
  obtain⟨j,hj,rfl⟩:=gm hw;rw[IW]at hj;have:=hb j hj;omega
 have hd4:∀w∈comb s.n v x y,dl w<=4:=fun w hw=>zL (Cb (hgb w hw) (by omega));have hU:∀{z:AI} {m:Int},z∈s.items->0<=m->m.natAbs<=C->lQ s.n Kk s.known ⟨z.pos,m⟩:=fun{z m} hz hm hmC=>by
  have h1:=(hI.it z hz).1;have h2:=hs.k _ (eL h1);exact⟨h1,hm,zL (show m.natAbs<_ by omega),h2.1,h2.2⟩
 have hP:gD Kk (fu s v t ats) (comb s.n v x y) [⟨x.pos,-vf y.g v⟩,⟨y.pos,vf x.g v⟩]:=⟨IW,fun w hw=>bO (hd4 w hw) (by decide),by simp,by simp,fun u hu=>by
  rcases dT.1 hu with rfl|hu
  . exact hU hxm (by omega) (by rw[Cm];exact hC y hym v hv)
  . rw[cI.1 hu];exact hU hym (by omega) (hC x hxm v hv)⟩
 refine⟨⟨hP,hgb⟩,hP,⟨fun j hj=>?_,fun j hj h=>?_⟩,?_⟩
 . have hj:j<s.n:=hj;rw[Bi hj];show _=cu s.u s.n (vec s.n (eb s.known _)) j;have e:cu s.u s.n (vec s.n (eb s.known [⟨x.pos,-vf y.g v⟩,⟨y.pos,vf x.g v⟩])) j=cu s.u s.n (vec s.n fun i=>-vf y.g v*vf (aI s.known x.pos).c i) j+vf x.g v*cu s.u s.n (aI s.known y.pos).c j:=yO fun r hr=>by
    rw[dK hr,dK hr];show-vf y.g v*vf (aI s.known x.pos).c r+(vf x.g v*vf (aI s.known y.pos).c r+0)=_;omega
   have e2:cu s.u s.n (vec s.n fun i=>-vf y.g v*vf (aI s.known x.pos).c i) j=-vf y.g v*cu s.u s.n (aI s.known x.pos).c j:=BY fun r hr=>dK hr;rw[e,e2,<-hI.dp x hxm j hj,<-hI.dp y hym j hj]
 . have hj:j<s.n:=hj;rw[qx hI hv]at h;rw[Bi hj];by_cases e:v=j
   . subst e;rw[lL,fH (vf x.g v)];omega
   . rw[if_neg e]at h;rw[hI.nf x hxm j hj h,hI.nf y hym j hj h];simp
 . unfold dv;split
   . exact bO jw (by decide)
   . exact ur hd4
def AB(s:St)(v:Nat)(y:Nat->Int):Prop:=∀x∈cx v s.items,∀w∈dw v s.items,-vf w.g v*bE (vf x.g) y s.n+vf x.g v*bE (vf w.g) y s.n≤-vf w.g v*(aI s.known x.pos).b+vf x.g v*(aI s.known w.pos).b
theorem RL{n:Nat}{x w:AI}{y:Nat->Int}:bE (vf (comb n v x w)) y n=-vf w.g v*bE (vf x.g) y n+vf x.g v*bE (vf w.g) y n:=by
 rw[eD (f':=fun j=>-vf w.g v*vf x.g j+vf x.g v*vf w.g j) (g':=y) (fun j hj=>Bi hj) fun _ _=>rfl,tV,sf]
theorem JE{Kk M:Nat}{c:St}(hA:xo Kk M (fu s v t ats) (cX s v) true c){y:Nat->Int}(hy:∀z∈c.items,IH c y z):(∀z∈s.items,vf z.g v=0->IH s y z)/\AB s v y:=by
 obtain⟨h1,h2⟩:=hA.imp rfl y hy;refine⟨fun z hz h0=>h1 z (qh.2 ⟨hz,h0⟩),fun x hx w hw=>?_⟩;have:bE (vf (comb s.n v x w)) y s.n≤-vf w.g v*(aI s.known x.pos).b+(vf x.g v*(aI s.known w.pos).b+0):=h2 (mD s.n v x w) (IQ.2 ⟨x,hx,w,hw,rfl⟩);rw[RL]at this;omega
theorem TO{s0 c:St}{Kk M:Nat}(hI0:Inv s0)(hI:Inv s)(hk:Kept s0 s)(hv:v<s.n)(hst:vf s.status v=0)
 (hcov:∀y,(∀x∈s.items,vf x.g v=0->IH s y x)->(∀p∈ats,hx s (ux s y) p)->∀x∈s0.items,IH s0 y x)
 (hats:w8 s v ats)(hA:xo Kk M (fu s v t ats) (cX s v) true c):gT s0 c:=by
 obtain⟨e1,he1⟩:=hk.kn;obtain⟨e2,he2⟩:=hA.kept.kn;have he2:c.known=s.known++e2:=he2;have hn:c.n=s.n:=hA.kept.n;have hn0:s.n=s0.n:=hk.n;have hu:c.u=s.u:=hA.kept.u;have hux:∀y i,ux c y i=ux s y i:=fun y i=>by unfold ux;rw[hu,hn]
 have hux0:∀y i,ux s y i=ux s0 y i:=fun y i=>by unfold ux;rw[hk.u,hk.n]
 have hstat:∀j,vf c.status j=if v=j then 2 else vf s.status j:=fun j=>by rw[hA.kept.status];exact qx hI hv j
 have hstk:c.stack=s0.stack++[⟨v,ats,t⟩]:=by rw[hA.kept.dN,<-hk.dN];rfl
 refine⟨hn.trans hn0,⟨e1++e2,by rw[he2,he1,iq]⟩,⟨_,hstk⟩,fun j hj hs=>?_,fun y=>⟨y,fun i _=>(hux y i).trans (hux0 y i),fun _ _ _=>rfl,fun k hkl ⟨h1,h2,h3⟩=>?_⟩⟩
 . have hvj:v≠j:=fun e=>hs (by rw[<-e,<-hk.status];exact hst);exact⟨by rw[hstat,if_neg hvj,hk.status],fun _=>by rw[hA.kept.value];show vf s.value j=_;rw[hk.value],fun i _=>by rw[hu,hk.u]⟩
 . obtain⟨g1,_⟩:=JE hA h2;have hats2:∀p∈ats,hx s (ux s y) p:=fun p hp=>by
    have h4:=h3 ⟨v,ats,t⟩ (by rw[hstk,Ca hkl];simp) p hp;exact(sc hn he2 (hats p hp).1 fun i _=>hux y i).1 h4
   refine⟨fun j hj hs=>?_,hcov y g1 hats2,fun e' he' p hp=>?_⟩
   . have hvj:v≠j:=fun e=>by rw[<-e,<-hk.status,hst]at hs;omega
     have:=h1 j (by rw[hn,hn0];exact hj) (by rw[hstat,if_neg hvj,hk.status];exact hs);rw[this,hA.kept.value];show vf s.value j=_;rw[hk.value]
   . have h4:=h3 e' (by rw[hstk,Ca hkl];exact yA _ he') p hp;exact(sc (hn.trans hn0) (e:=e1++e2) (by rw[he2,he1,iq]) ((hI0.sv e' (Gm he')).2.2 p hp) fun i _=>(hux y i).trans (hux0 y i)).1 h4
theorem Rt{c:St}{Kk M k:Nat}(hI:Inv s)(hv:v<s.n)(hats:w8 s v ats)(hA:xo Kk M (fu s v t ats) (cX s v) true c)(hz:∀y,AB s v y->∃z,∀p∈ats,hx s (ux s (cJ y v z)) p):
 ∀y,Hs c y k->∃z,∀p∈ats,hx c (ux c (cJ y v z)) p:=by
 intro y ⟨_,h2,_⟩;obtain⟨z,hz⟩:=hz y (JE hA h2).2;obtain⟨e2,he2⟩:=hA.kept.kn;have hn:c.n=s.n:=hA.kept.n;refine⟨z,fun p hp=>(sc hn he2 (hats p hp).1 fun i _=>?_).2 (hz p hp)⟩;unfold ux;rw[hA.kept.u,hn];rfl
theorem E2{x:AI}{y:Nat->Int}{z:Int}(hv:v<s.n):IH s (cJ y v z) x↔vf x.g v*z<=(aI s.known x.pos).b-bE (vf x.g) y s.n+vf x.g v*y v:=by
 unfold IH;rw[ug hv,Int.mul_sub];omega
theorem Mr{y:Nat->Int}(hv:v<s.n)(Wb:AI->Int)
 (h:∀x∈cx v s.items,∀w∈dw v s.items,(vf x.g v-1)*(-vf w.g v-1)<=(-vf w.g v*(aI s.known x.pos).b+vf x.g v*Wb w)-(-vf w.g v*bE (vf x.g) y s.n+vf x.g v*bE (vf w.g) y s.n)):
 ∃z,(∀x∈cx v s.items,IH s (cJ y v z) x)/\∀w∈dw v s.items,vf w.g v*z<=Wb w-bE (vf w.g) y s.n+vf w.g v*y v:=by
 obtain⟨z,h1,h2⟩:=Oy (U:=cx v s.items) (W:=dw v s.items) (a:=fun x=>vf x.g v) (b:=fun w=>-vf w.g v) (c:=fun x=>(aI s.known x.pos).b-bE (vf x.g) y s.n+vf x.g v*y v) (d:=fun w=>-(Wb w-bE (vf w.g) y s.n+vf w.g v*y v))
  (fun x hx=>(j3.1 hx).2) (fun w hw=>by have:=(im.1 hw).2;omega) (fun x hx w hw=>by
   have:=h x hx w hw;generalize vf x.g v=a at*;generalize vf w.g v=b at*;generalize(aI s.known x.pos).b=B at*;generalize bE (vf x.g) y s.n=X at*;generalize bE (vf w.g) y s.n=Y at*;grind)
 refine⟨z,fun x hx=>(E2 hv).2 (h1 x hx),fun w hw=>?_⟩;have:=h2 w hw;rw[lL]at this;omega
end
open Go Go.X
def BA(N:Nat)(s:aR)(x1:(List aB)):((List aB)×Int)->Option (aK ((List aB)×Int) (List aB))
 |(b,a)=>(if(a:Int)<(List.length x1:Int)then ((((idx s.status a).bind fun c=>(if(c:Int)=1 then (idx s.value a).bind fun d=>(idx b a).bind fun g=>(dh b a d).bind fun e=>some e else some b)):Option (List aB))).bind fun ss=>match ss with
    |f=>some (aK.next (f,(iw (a+1)))) else some (aK.done b))
def nW(N:Nat)(s:aR):Nat->List aB->Bool
 |0,_=>true
 |k+1,y=>s.stack.all fun e=>match nX N s e y with
  |none=>false
  |some (n,ok)=>if ok then(match dh y e.v n with
   |none=>false
   |some y=>nW N s k y)else true
def ic(N:Nat)(s:aR):List dJ->List aB->Option (Sum (List aB) Int)
 |[],y=>some (.inl y)
 |e::r,y=>(nX N s e y).bind fun(n,ok)=>if ok then(dh y e.v n).bind (ic N s r)else some (.inr e.v)
def rX(N:Nat)(s:aR):Option bX:=(fX (α:=aB) 32 (aB.mk false ([]:(List Int))) s.n).bind fun x1=>(bH (BA N s x1) N (x1,0)).bind fun y=>if s.stack.length<=9223372036854775807/\nW N s s.stack.length y=true then (ic N s s.stack.reverse y).bind fun
  |.inr v=>some (bX.mk 2 [] (Proof.mk [] [] (aB.mk false []) []) v)
  |.inl y=>(qP N s y).bind fun x=>some (bX.mk 0 x (Proof.mk [] [] (aB.mk false []) []) 0) else none
def rI(N:Nat)(run:aR->Option bX)(self:aR->aX->aB->aB->Option bX)(s:aR)(low:aX)(k:aB)(most:aB):Option bX:=(iJ N k most).bind fun r1=>(if(r1:Int)=0 then (qe N s).bind fun r7=>(run r7).bind fun r8=>some r8 else (idx s.known low.pos).bind fun x9=>(mM N x9.aZ).bind fun f=>(jr N x9.dz).bind fun i=>(mV N s (bA.mk f i)).bind fun c=>(mM N low.g).bind fun j=>(kR N c (aX.mk (iw ((List.length c.known:Int)-1)) j)).bind fun b=>(run (aR.mk c.n b.known b.steps b.u b.status b.value b.items b.stack)).bind fun d=>(if(d.kind:Int)≠1 then some d else (fM N 1).bind fun l=>(jb N x9.dz l).bind fun m=>(mV N s (bA.mk x9.aZ m)).bind fun a=>(tM N a.items low.pos (iw ((List.length a.known:Int)-1))).bind fun o=>(fM N 1).bind fun p=>(ja N k p).bind fun v=>(self (aR.mk a.n a.known a.steps a.u a.status a.value o a.stack) (aX.mk (iw ((List.length a.known:Int)-1)) low.g) v most).bind fun e=>(if(e.kind:Int)≠1 then some e else (p9 N s f i d e).bind fun y=>some y)))
def qH:Nat->(aR->Option bX)->aR->aX->aB->aB->Option bX
 |0=>fun _ _ _ _ _=>none
 |N+1=>fun run=>rI N run (qH N run)
def uE(N:Nat)(run:aR->Option bX)(self:aR->Int->(List aX)->(List Int)->Option bX)(v:Int)(r1:((List aX)×(List aX))):(List aX)->Option (aK (List aX) (List aX))
 |a=>((((if((List.length a:Int):Int)>0 then (idx a 0).bind fun b=>(o5 N v b r1.1).bind fun c=>(gG N c).bind fun d=>some (decide ((d:Int)<0)) else some false)):Option Bool)).bind fun ss=>match ss with
   |e=>(if e=true then (cut a 1 (List.length a:Int)).bind fun f=>some (aK.next f) else some (aK.done a))
def oA(N:Nat)(run:aR->Option bX)(self:aR->Int->(List aX)->(List Int)->Option bX)(s:aR)(v:Int)(lows:(List aX))(vat3:(List Int)):Option bX:=(q9 N s v).bind fun r1=>(bH (uE N run self v r1) N lows).bind fun ss=>match ss with
  |d=>(if((List.length d:Int):Int)=0 then (qe N s).bind fun i=>(nz N i v false).bind fun a=>(idx a.2.stack (iw ((List.length a.2.stack:Int)-1))).bind fun o=>(dh a.2.stack (iw ((List.length a.2.stack:Int)-1)) (dJ.mk o.v vat3 o.dA)).bind fun p=>(if(!a.1)=true then (jB N (aR.mk i.n a.2.known a.2.steps a.2.u a.2.status a.2.value a.2.items p)).bind fun a1=>some a1 else (run (aR.mk i.n a.2.known a.2.steps a.2.u a.2.status a.2.value a.2.items p)).bind fun a2=>some a2) else (idx d 0).bind fun e=>(idx d 0).bind fun a3=>(o5 N v a3 r1.1).bind fun j=>(idx s.known e.pos).bind fun f=>(mM N f.aZ).bind fun y=>(jb N f.dz j).bind fun a4=>(fM N 1).bind fun a5=>(jb N a4 a5).bind fun a6=>(mV N s (bA.mk f.aZ a6)).bind fun b=>(tM N b.items e.pos (iw ((List.length b.known:Int)-1))).bind fun a7=>(cut d 1 (List.length d:Int)).bind fun a8=>(self (aR.mk b.n b.known b.steps b.u b.status b.value a7 b.stack) v a8 vat3).bind fun k=>(if(k.kind:Int)≠1 then some k else (jb N j f.dz).bind fun a0=>(mV N s (bA.mk y a0)).bind fun l=>(mM N e.g).bind fun a9=>(kR N l (aX.mk (iw ((List.length l.known:Int)-1)) a9)).bind fun c=>(qH N run (aR.mk l.n c.known c.steps c.u c.status c.value c.items c.stack) e (aB.mk false ([]:(List Int))) j).bind fun m=>(if(m.kind:Int)≠1 then some m else (p9 N s y a0 m k).bind fun aa=>some aa)))
def mz:Nat->(aR->Option bX)->aR->Int->(List aX)->(List Int)->Option bX
 |0=>fun _ _ _ _ _=>none
 |N+1=>fun run=>oA N run (mz N run)
def xN(N:Nat)(run:aR->Option bX)(s:aR)(c:gI):Option bX:=(ja N c.low c.high).bind fun r1=>(fM N 2).bind fun r2=>(kz N r1 r2).bind fun r3=>(idx s.known c.up.pos).bind fun x4=>(mV N s (bA.mk x4.aZ r3.1)).bind fun r5=>(kR N r5 (aX.mk (iw ((List.length r5.known:Int)-1)) c.up.g)).bind fun r6=>(run (aR.mk r5.n r6.known r6.steps r6.u r6.status r6.value r6.items r6.stack)).bind fun r7=>(if(r7.kind:Int)≠1 then some r7 else (mM N x4.aZ).bind fun e=>(jr N r3.1).bind fun f=>(fM N 1).bind fun i=>(jb N f i).bind fun j=>(mV N s (bA.mk e j)).bind fun b=>(mM N c.up.g).bind fun k=>(kR N b (aX.mk (iw ((List.length b.known:Int)-1)) k)).bind fun a=>(run (aR.mk b.n a.known a.steps a.u a.status a.value a.items a.stack)).bind fun d=>(if(d.kind:Int)≠1 then some d else (p9 N s x4.aZ r3.1 r7 d).bind fun l=>some l))
def CQ(N:Nat)(run:aR->Option bX)(b:(List aX)):((List Int)×Int)->Option (aK ((List Int)×Int) (List Int))
 |(c,a)=>(if(a:Int)<(List.length b:Int)then (idx b a).bind fun d=>(cN 8 c [d.pos]).bind fun e=>some (aK.next (e,(iw (a+1)))) else some (aK.done c))
def uX(N:Nat)(run:aR->Option bX)(s:aR)(v:Int):Option bX:=(wo N s).bind fun r1=>((((if r1.2=true then (jb N r1.1.high r1.1.low).bind fun e=>((((fM N 64).bind fun f=>(iJ N e f).bind fun g=>(if(g:Int)<=0 then (wI N s v).bind fun i=>(iJ N e i).bind fun j=>some (decide ((j:Int)<0)) else some false)):Option Bool)).bind fun ss=>match ss with
   |k=>(if k=true then (xN N run s r1.1).bind fun l=>some (Sum.inr l) else some (Sum.inl ())) else some (Sum.inl ()))):Option (Sum Unit bX))).bind fun ss=>match ss with
  |(Sum.inl _)=>(qe N s).bind fun b=>(nz N b v true).bind fun a=>(if(!a.1)=true then (jB N (aR.mk b.n a.2.known a.2.steps a.2.u a.2.status a.2.value a.2.items a.2.stack)).bind fun m=>some m else (run (aR.mk b.n a.2.known a.2.steps a.2.u a.2.status a.2.value a.2.items a.2.stack)).bind fun c=>((((if(c.kind:Int)≠2 then some true else some (decide ((c.v:Int)≠v)))):Option Bool)).bind fun ss=>match ss with
     |o=>(if o=true then some c else (q9 N s v).bind fun d=>(uj N [d.1,d.2]).bind fun p=>(bH (CQ N run p) N (([]:(List Int)),0)).bind fun ss=>match ss with
        |y=>(mz N run s v d.2 y).bind fun a0=>some a0))
  |(Sum.inr z)=>some z
def uY(N:Nat)(self:aR->Option bX)(s:aR):((List bA)×(List Step)×(List (List aB))×(List Int)×(List aB)×(List aX)×(List dJ))->Option (aK ((List bA)×(List Step)×(List (List aB))×(List Int)×(List aB)×(List aX)×(List dJ)) bX)
 |(e,f,g,i,j,k,l)=>(uo N (aR.mk s.n e f g i j k l)).bind fun a=>(if(!a.2.2.2.1)=true then (jB N (aR.mk s.n a.2.2.2.2.known a.2.2.2.2.steps a.2.2.2.2.u a.2.2.2.2.status a.2.2.2.2.value a.2.2.2.2.items a.2.2.2.2.stack)).bind fun m=>some (aK.done m) else (if a.2.2.1=true then (rG N (aR.mk s.n a.2.2.2.2.known a.2.2.2.2.steps a.2.2.2.2.u a.2.2.2.2.status a.2.2.2.2.value a.2.2.2.2.items a.2.2.2.2.stack) a.1 a.2.1).bind fun b=>(if(!b.1)=true then (jB N (aR.mk s.n b.2.known b.2.steps b.2.u b.2.status b.2.value b.2.items b.2.stack)).bind fun o=>some (aK.done o) else some (aK.next (b.2.known,b.2.steps,b.2.u,b.2.status,b.2.value,b.2.items,b.2.stack))) else (uT N (aR.mk s.n a.2.2.2.2.known a.2.2.2.2.steps a.2.2.2.2.u a.2.2.2.2.status a.2.2.2.2.value a.2.2.2.2.items a.2.2.2.2.stack)).bind fun d=>(if(!d.2)=true then (rX N (aR.mk s.n a.2.2.2.2.known a.2.2.2.2.steps a.2.2.2.2.u a.2.2.2.2.status a.2.2.2.2.value a.2.2.2.2.items a.2.2.2.2.stack)).bind fun p=>some (aK.done p) else (vj N (aR.mk s.n a.2.2.2.2.known a.2.2.2.2.steps a.2.2.2.2.u a.2.2.2.2.status a.2.2.2.2.value a.2.2.2.2.items a.2.2.2.2.stack) d.1).bind fun v=>(if(!v)=true then (uX N self (aR.mk s.n a.2.2.2.2.known a.2.2.2.2.steps a.2.2.2.2.u a.2.2.2.2.status a.2.2.2.2.value a.2.2.2.2.items a.2.2.2.2.stack) d.1).bind fun y=>some (aK.done y) else (nz N (aR.mk s.n a.2.2.2.2.known a.2.2.2.2.steps a.2.2.2.2.u a.2.2.2.2.status a.2.2.2.2.value a.2.2.2.2.items a.2.2.2.2.stack) d.1 false).bind fun c=>(if(!c.1)=true then (jB N (aR.mk s.n c.2.known c.2.steps c.2.u c.2.status c.2.value c.2.items c.2.stack)).bind fun a0=>some (aK.done a0) else some (aK.next (c.2.known,c.2.steps,c.2.u,c.2.status,c.2.value,c.2.items,c.2.stack)))))))
def wa(N:Nat)(self:aR->Option bX)(s:aR):Option bX:=(bH (uY N self s) N (s.known,s.steps,s.u,s.status,s.value,s.items,s.stack)).bind fun ss=>match ss with
  |z=>some z
def jN:Nat->aR->Option bX
 |0=>fun _=>none
 |N+1=>wa N (jN N)
def qM(N:Nat)(n:Int)(system:(List bA)):Option bX:=(xE N n system).bind fun r1=>(vm N r1).bind fun r2=>(if(!r2.1)=true then (jB N (aR.mk r1.n r2.2.known r2.2.steps r2.2.u r2.2.status r2.2.value r2.2.items r2.2.stack)).bind fun r7=>some r7 else (jN N (aR.mk r1.n r2.2.known r2.2.steps r2.2.u r2.2.status r2.2.value r2.2.items r2.2.stack)).bind fun r8=>some r8)
def pS(N:Nat)(n:Int)(l:(List Constraint)):Option ((List aB)×Proof×Bool):=(uP N l n).bind fun r1=>(qM N n r1).bind fun r2=>(if(r2.kind:Int)=0 then some (r2.x,(Proof.mk ([]:(List Step)) ([]:(List aB)) (aB.mk false ([]:(List Int))) ([]:(List Proof))),true) else some (([]:(List aB)),r2.proof,false))
def KY(N:Nat)(system:(List bA)):((List bA)×Int)->Option (aK ((List bA)×Int) (List bA))
 |(b,a)=>(if(a:Int)<(List.length system:Int)then (idx system a).bind fun c=>(cN 56 b [(bA.mk c.aZ (aB.mk false ([]:(List Int))))]).bind fun d=>some (aK.next (d,(iw (a+1)))) else some (aK.done b))
def Fc(N:Nat)(n:Int)(system:(List bA))(v:Int):Option Bool:=(bH (KY N system) N (([]:(List bA)),0)).bind fun ss=>match ss with
  |a=>(fM N (-1)).bind fun b=>(Bp N n v 1 b).bind fun c=>(cN 56 a [c]).bind fun d=>(qM N n d).bind fun e=>some (decide ((e.kind:Int)=0))
def Lz(N:Nat)(n:Int)(v:Int)(g:aB)(r1:(List bA)):(aB×aB×Bool×aB)->Option (aK (aB×aB×Bool×aB) (aB×Bool))
 |(a,c,d,b)=>((((jb N a b).bind fun i=>((((if d=true then (ja N c a).bind fun j=>(fM N 2).bind fun k=>(kz N j k).bind fun l=>(jb N a c).bind fun m=>(iJ N m g).bind fun o=>(if(o:Int)<=0 then some (Sum.inr (a,true)) else some (Sum.inl l.1)) else some (Sum.inl i))):Option (Sum aB (aB×Bool)))).bind fun ss=>match ss with
   |(Sum.inl e)=>(An N r1).bind fun p=>(Bp N n v 1 e).bind fun s=>(cN 56 p [s]).bind fun u=>(qM N n u).bind fun f=>(if(f.kind:Int)=0 then (idx f.x v).bind fun y=>(ja N b b).bind fun a0=>some (Sum.inl (y,c,d,a0)) else some (Sum.inl (a,e,true,b)))
   |(Sum.inr z)=>some (Sum.inr z)):Option (Sum (aB×aB×Bool×aB) (aB×Bool)))).bind fun ss=>match ss with
   |(Sum.inl (a1,a2,a3,a4))=>some (aK.next (a1,a2,a3,a4))
   |(Sum.inr z)=>some (aK.done z)
def EI(N:Nat)(n:Int)(l:(List Constraint))(v:Int):Option (aB×Bool):=(uP N l n).bind fun r1=>(qM N n r1).bind fun r2=>((((if(r2.kind:Int)≠0 then some true else (Fc N n r1 v).bind fun b=>some b)):Option Bool)).bind fun ss=>match ss with
  |x6=>(if x6=true then some ((aB.mk false ([]:(List Int))),false) else (fM N 1).bind fun a=>(idx r2.x v).bind fun c=>(bH (Lz N n v a r1) N (c,(aB.mk false ([]:(List Int))),false,a)).bind fun ss=>match ss with
     |z=>some z)
end Go.D
set_option maxHeartbeats 1000000
namespace Go.D
open Go Go.X
structure j7 (K Ku:Nat)(s:St):Prop where
 n:s.n<=4
 hK:K<=536870912
 nD:Ku<=17179869184
 u:SU Ku s
 k:∀q∈s.known,fD K q/\q.c.length=s.n
 kl:s.known.length<=1073741824
theorem sX{f g:Nat->Int}{A B:Nat}(hf:∀j,dl (f j)<=A)(hg:∀j,dl (g j)<=B):∀n,dl (bE f g n)<=A+B+n
 |0=>by show dl 0<=_;rw[ie];omega
 |n+1=>by
  have h1:=sX hf hg n;have h2:=j6 (f n) (g n);have:=hf n;have:=hg n;exact oO (K:=A+B+n) h1 (by omega)
section
variable {K Ku:Nat} {s:St}
theorem j7.mx(h:j7 K Ku s)(i j:Nat):dl (mx s.u i j)<=Ku:=by
 unfold D.mx;rcases cw i s.u.length with hi|hi
 . rw[cy,bV hi];exact(h.u.u.2 _ (dt hi)).vf j
 . rw[cy,fP hi];show dl (vf [] j)<=_;rw[mL (by simp),ie];omega
theorem j7.q(h:j7 K Ku s)(p j:Nat):dl (vf (aI s.known p).c j)<=K:=by
 rcases cw p s.known.length with hp|hp
 . exact(h.k _ (eL hp)).1.vf j
 . unfold aI;rw[cy,fP hp];show dl (vf [] j)<=_;rw[mL (by simp),ie];omega
theorem j7.cu(h:j7 K Ku s)(p j:Nat):dl (cu s.u s.n (aI s.known p).c j)<=K+Ku+4:=by
 have:=sX (f:=vf (aI s.known p).c) (g:=fun i=>D.mx s.u i j) (h.q p) (fun i=>h.mx i j) s.n;have:=h.n;show dl (bE _ _ _)<=_;omega
theorem L6(h:j7 K Ku s){i:Nat}(hi:i<s.n):∃r:List Int,idx s.to.u (i:Int)=some (mB r)/\r.length=s.n/\∀j,vf r j=mx s.u i j:=by
 have hl:i<s.u.length:=by rw[h.u.u.1];exact hi
 refine⟨s.u[i],?_,(h.u.u.2 _ (dt hl)).1,fun j=>?_⟩
 . show idx (s.u.map mB) _=_;rw[dd (by simpa using hl),kO]
 . unfold mx;rw[cy,bV hl];rfl
theorem Je(h:j7 K Ku s){p j:Nat}(hp:p<s.known.length)(hj:j<s.n):Tm (fun N=>vc N s.to (p:Int) (j:Int)) (·=B (cu s.u s.n (aI s.known p).c j)):=by
 have hL:cZ=1099511627776:=rfl;have hK:=h.hK;have nD:=h.nD;have hn:=h.n;have hql:=(h.k _ (eL hp)).2;unfold vc;refine aN (nt hp) ?_;refine aT (a:=B (cu s.u s.n (aI s.known p).c j)) (eG s.n (fun k t=>t=(B (bE (vf (aI s.known p).c) (fun i=>mx s.u i j) k),(k:Int))) (by show(_,_)=_;rw[show bE _ _ 0=0 from rfl,B0];rfl) ?_) (aL rfl);rintro k hk _ rfl;dsimp only[Eo];have hcl:(aI s.known p).to.aZ.length=s.n:=(dE _).trans hql;rw[hcl];refine aY (fun hlt=>?_) (fun hge=>aL ?_)
 . have hlt:k<s.n:=by omega
   obtain⟨r,hr,hrl,hrv⟩:=L6 h hlt;have d1:=h.q p k;have d2:=h.mx k j;have d3:=sX (f:=vf (aI s.known p).c) (g:=fun i=>mx s.u i j) (h.q p) (fun i=>h.mx i j) k;have d4:=j6 (vf (aI s.known p).c k) (mx s.u k j);refine aN (ej (l:=(aI s.known p).c) (by omega)) (aN hr (aN (ej (l:=r) (by omega)) ?_));rw[hrv];exact aT (nT (by omega) (by omega)) (aT (mG (by omega) (by omega)) (aL ⟨hlt,by rw[dW (by omega)];rfl⟩))
 . have:k=s.n:=by omega
   subst this;rfl
def rst(s:St)(v:Nat)(y:Nat->Int)(p:Nat):Int:=(aI s.known p).b-bE (cu s.u s.n (aI s.known p).c) (cJ y v 0) s.n
theorem Pv{y:Nat->Int}{v:Nat}{z w:Int}:cJ (cJ y v z) v w=cJ y v w:=by
 funext j;unfold cJ;split<;>rfl
theorem Oi{v p:Nat}{y:Nat->Int}{z:Int}(hv:v<s.n):hx s (ux s (cJ y v z)) p↔cu s.u s.n (aI s.known p).c v*z<=rst s v y p:=by
 unfold hx rst;rw[AD];have h:=ug (f:=cu s.u s.n (aI s.known p).c) (y:=cJ y v 0) (z:=z) hv;rw[Pv]at h;rw[h];have:cJ y v 0 v=0:=by unfold cJ;rw[if_pos rfl]
 rw[this,GM];omega
theorem LU{y:Nat->Int}{v D:Nat}(hy:∀j,dl (y j)<=D)(j:Nat):dl (cJ y v 0 j)<=D:=by
 unfold cJ;split
 . rw[ie];omega
 . exact hy j
theorem PN(h:j7 K Ku s){v p D:Nat}{y:Nat->Int}(hp:p<s.known.length)(hy:∀j,dl (y j)<=D):dl (rst s v y p)<=K+Ku+D+9:=by
 have hn:=h.n;have h1:=sX (f:=cu s.u s.n (aI s.known p).c) (g:=cJ y v 0) (fun j=>h.cu p j) (LU hy) s.n;have h2:=(h.k _ (eL hp)).1.2;exact jU (K:=K+Ku+D+8) (by omega) (by omega)
theorem SJ(h:j7 K Ku s){e:dJ}{v p D:Nat}{y:List Int}(hev:e.v=(v:Int))(hp:p<s.known.length)(hyl:y.length=s.n)(hy:∀j,dl (vf y j)<=D)(hD:D<=549755813888):
 Tm (fun N=>bH (zf N s.to e (mB y) (p:Int)) N (B (aI s.known p).b,0)) (·=B (rst s v (vf y) p)):=by
 have hL:cZ=1099511627776:=rfl;have hK:=h.hK;have nD:=h.nD;have hn:=h.n;refine(eG s.n (fun k t=>t=(B ((aI s.known p).b-bE (cu s.u s.n (aI s.known p).c) (cJ (vf y) v 0) k),(k:Int))) (by rw[show bE (cu s.u s.n (aI s.known p).c) (cJ (vf y) v 0) 0=0 from rfl,GM];rfl) ?_);rintro k hk _ rfl;dsimp only[zf];rw[dE,hyl];refine aY (fun hlt=>?_) (fun hge=>aL ?_)
 . have hlt:k<s.n:=by omega
   have d1:=h.cu p k;have d2:=hy k;have d3:=sX (f:=cu s.u s.n (aI s.known p).c) (g:=cJ (vf y) v 0) (fun j=>h.cu p j) (LU hy) k;have d4:=(h.k _ (eL hp)).1.2;have d5:=j6 (cu s.u s.n (aI s.known p).c k) (vf y k);have d6:=jU (K:=K+Ku+D+8) (a:=(aI s.known p).b) (b:=bE (cu s.u s.n (aI s.known p).c) (cJ (vf y) v 0) k) (by omega) (by omega);refine aT (a:=B ((aI s.known p).b-bE (cu s.u s.n (aI s.known p).c) (cJ (vf y) v 0) (k+1))) (aY (fun hc=>?_) (fun hc=>aL ?_)) (aL ⟨hlt,by rw[dW (by omega)]⟩)
   . rw[hev]at hc;have hkv:k≠v:=by omega
     refine aT (Je h hp hlt) (aN (ej (l:=y) (by omega)) (aT (nT (by omega) (by omega)) (aT (mh (by omega) (by omega)) (aL ?_))));congr 1;show _=_-(bE _ _ k+_*cJ (vf y) v 0 k);rw[show cJ (vf y) v 0 k=vf y k by unfold cJ;rw[if_neg hkv]];omega
   . rw[hev]at hc;have hkv:k=v:=by omega
     congr 1;show _=_-(bE _ _ k+_*cJ (vf y) v 0 k);rw[show cJ (vf y) v 0 k=0 by unfold cJ;rw[if_pos hkv]];omega
 . have:k=s.n:=by omega
   subst this;rfl
theorem LX{a c z:Int}(hc:0<c):z<=a.fdiv c↔c*z<=a:=by
 have h1:=qz (a:=a) hc;constructor
 . intro h;have:=fZ h (ee hc);rw[fH c (a.fdiv c)]at this;omega
 . intro h;refine Int.le_of_lt_add_one (GA (a:=c) ?_ (ee hc));rw[tw,yG,fH c (a.fdiv c)];omega
theorem N4{a c z:Int}(hc:c<0):-(a.fdiv (-c))<=z↔c*z<=a:=by
 have:=LX (a:=a) (c:=-c) (z:=-z) (by omega);rw[Int.neg_mul_neg]at this;rw[<-this];omega
structure px (s:St)(e:AE):Prop where
 il:e.items.length<=1073741824
 v:e.v<s.n
 p:∀p∈e.items,p<s.known.length/\cu s.u s.n (aI s.known p).c e.v≠0
theorem HU(h:j7 K Ku s){e:AE}(he:px s e){D:Nat}{y:List Int}(hyl:y.length=s.n)(hy:∀j,dl (vf y j)<=D)(hD:D<=549755813888):
    Tm (fun N=>nX N s.to e.to (mB y)) (fun r=>∃z,r.1=B z/\dl z<=K+Ku+D+9/\(r.2=true->∀p∈e.items,hx s (ux s (cJ (vf y) e.v z)) p)/\(r.2=false->¬∃z,∀p∈e.items,hx s (ux s (cJ (vf y) e.v z)) p)):=by
  have hL:cZ=1099511627776:=rfl;have hK:=h.hK;have nD:=h.nD;have hn:=h.n;have hev:=he.v;generalize hcf:(fun p=>cu s.u s.n (aI s.known p).c e.v)=c;have hc':∀p,cu s.u s.n (aI s.known p).c e.v=c p:=fun p=>by rw[<-hcf]
  generalize hrf:rst s e.v (vf y)=rs;have hxr:∀p z,hx s (ux s (cJ (vf y) e.v z)) p↔c p*z<=rs p:=fun p z=>by rw[Oi hev,hc',hrf]
  have hil:e.to.items.length=e.items.length:=cP ..;unfold nX;refine Tm.bind (Q:=fun t=>∃(lo hi:Int) (hl hh:Bool),t=(B lo,B hi,hl,hh)/\dl lo<=K+Ku+D+9/\dl hi<=K+Ku+D+9/\
      (hl=true->∀z,lo<=z↔∀p∈e.items,c p<0->c p*z<=rs p)/\(hl=false->∀p∈e.items,¬c p<0)/\(hh=true->∀z,z<=hi↔∀p∈e.items,0<c p->c p*z<=rs p)/\(hh=false->∀p∈e.items,¬0<c p))
    (eG e.items.length (fun k t=>∃(lo hi:Int) (hl hh:Bool),t=(B lo,B hi,hl,hh,(k:Int))/\dl lo<=K+Ku+D+9/\dl hi<=K+Ku+D+9/\
      (hl=true->∀z,lo<=z↔∀p∈e.items.take k,c p<0->c p*z<=rs p)/\(hl=false->∀p∈e.items.take k,¬c p<0)/\(hh=true->∀z,z<=hi↔∀p∈e.items.take k,0<c p->c p*z<=rs p)/\(hh=false->∀p∈e.items.take k,¬0<c p))
      ⟨0,0,false,false,by rw[B0];rfl,by rw[ie];omega,by rw[ie];omega,fun e=>(by cases e),fun _ p hp=>(by cases hp),fun e=>(by cases e),fun _ p hp=>(by cases hp)⟩ ?_) ?_
  . rintro k hk _ ⟨lo,hi,hl,hh,rfl,dlo,dhi,l1,l2,h1,h2⟩;dsimp only[E3];rw[hil];refine aY (fun hlt=>?_) (fun hge=>aL ?_)
    . have hlt:k<e.items.length:=by omega
      obtain⟨q1,q2⟩:=he.p _ (dt hlt);have htk:=jt hlt;rw[<-htk];generalize hp0:e.items[k]=p at*;have hrd:=PN h (v:=e.v) q1 hy;rw[hrf]at hrd;rw[hc']at q2;have hcd:dl (c p)<=K+Ku+4:=by rw[<-hc'];exact h.cu p e.v
      have hcoef:=Je h q1 hev;rw[hc']at hcoef;have hrest:=SJ h (e:=e.to) (v:=e.v) rfl q1 hyl hy hD;rw[hrf]at hrest;have hidx:idx e.to.items (k:Int)=some (p:Int):=by
        show idx (e.items.map Int.ofNat) _=_;rw[dd (by simpa using hlt),kO];rw[hp0];rfl
      refine Tm.bind (Q:=fun t=>∃(lo' hi':Int) (hl' hh':Bool),t=(B lo',B hi',hl',hh')/\dl lo'<=K+Ku+D+9/\dl hi'<=K+Ku+D+9/\((c p<0/\hi'=hi/\hh'=hh/\hl'=true/\((hl=true/\lo'=max lo (-((rs p).fdiv (-c p))))\/(hl=false/\lo'=-((rs p).fdiv (-c p)))))\/(0<c p/\lo'=lo/\hl'=hl/\hh'=true/\((hh=true/\hi'=min hi ((rs p).fdiv (c p)))\/(hh=false/\hi'=(rs p).fdiv (c p))))))
        (aN hidx (aN (nt q1) (aT hrest (aT hcoef (aT (jk (by omega)) ?_))))) ?_
      . refine aY (fun hs=>?_) (fun hs=>?_)
        . have hpos:0<c p:=by unfold bM at hs;(repeat' split at hs)<;>omega
          refine Tm.bind (qj (a:=rs p) (b:=c p) (by omega) (by omega)) ?_;rintro⟨q,qr,qo⟩ hq;dsimp only at hq⊢;subst hq;have hfd:=rh (rs p) (c p);refine Tm.bind (Q:=fun b=>b=decide (hh=false\/(rs p).fdiv (c p)<hi)) (aY (fun h3=>aL ?_) (fun h3=>?_)) ?_
          . have:hh=false:=by simpa using h3
            simp[this]
          . have:hh=true:=by simpa using h3
            refine aT (j8 (by omega) (by omega)) (aL ?_);subst this;simp[nL]
          . rintro _ rfl;refine aY (fun h3=>aL ⟨lo,(rs p).fdiv (c p),hl,true,rfl,dlo,by omega,.inr ⟨hpos,rfl,rfl,rfl,?_⟩⟩) (fun h3=>aL ⟨lo,hi,hl,hh,rfl,dlo,dhi,.inr ⟨hpos,rfl,rfl,?_,?_⟩⟩)
            . rcases of_decide_eq_true h3 with h4|h4
              . exact .inr ⟨h4,rfl⟩
              . cases hh with
                |false=>exact .inr ⟨rfl,rfl⟩
                |true=>exact .inl ⟨rfl,by omega⟩
            . cases hh with
              |false=>exact absurd (decide_eq_true (.inl rfl)) h3
              |true=>rfl
            . cases hh with
              |false=>exact absurd (decide_eq_true (.inl rfl)) h3
              |true=>
                have:¬(rs p).fdiv (c p)<hi:=fun e=>h3 (decide_eq_true (.inr e));exact .inl ⟨rfl,by omega⟩
        . have hneg:c p<0:=by unfold bM at hs;(repeat' split at hs)<;>omega
          refine aT (n5 (by omega)) (Tm.bind (qj (a:=rs p) (b:=-c p) (by omega) (by rw[fV];omega)) ?_);rintro⟨q,qr,qo⟩ hq;dsimp only at hq⊢;subst hq;have hfd:=rh (rs p) (-c p);refine aT (n5 (by omega)) ?_;have hfd2:dl (-((rs p).fdiv (-c p)))<=K+Ku+D+9:=by rw[fV];omega
          refine Tm.bind (Q:=fun b=>b=decide (hl=false\/lo< -((rs p).fdiv (-c p)))) (aY (fun h3=>aL ?_) (fun h3=>?_)) ?_
          . have:hl=false:=by simpa using h3
            simp[this]
          . have:hl=true:=by simpa using h3
            refine aT (j8 (by omega) (by omega)) (aL ?_);subst this;have e:bM (-((rs p).fdiv (-c p))) lo>0↔lo< -((rs p).fdiv (-c p)):=by unfold bM;(repeat' split)<;>omega
            simp[e]
          . rintro _ rfl;refine aY (fun h3=>aL ⟨-((rs p).fdiv (-c p)),hi,true,hh,rfl,by omega,dhi,.inl ⟨hneg,rfl,rfl,rfl,?_⟩⟩) (fun h3=>aL ⟨lo,hi,hl,hh,rfl,dlo,dhi,.inl ⟨hneg,rfl,rfl,?_,?_⟩⟩)
            . rcases of_decide_eq_true h3 with h4|h4
              . exact .inr ⟨h4,rfl⟩
              . cases hl with
                |false=>exact .inr ⟨rfl,rfl⟩
                |true=>exact .inl ⟨rfl,by omega⟩
            . cases hl with
              |false=>exact absurd (decide_eq_true (.inl rfl)) h3
              |true=>rfl
            . cases hl with
              |false=>exact absurd (decide_eq_true (.inl rfl)) h3
              |true=>
                have:¬lo< -((rs p).fdiv (-c p)):=fun e=>h3 (decide_eq_true (.inr e));exact .inl ⟨rfl,by omega⟩
      . rintro _ ⟨lo',hi',hl',hh',rfl,d1,d2,hcase⟩;refine aL ⟨hlt,lo',hi',hl',hh',by rw[dW (by have:=he.il;omega)],d1,d2,?_⟩;have happ:∀{P:Nat->Prop},(∀q∈e.items.take k++[p],P q)↔(∀q∈e.items.take k,P q)/\P p:=fun{P}=>by
          simp only[fb,cI];exact⟨fun h=>⟨fun q hq=>h q (.inl hq),h p (.inr rfl)⟩,fun h q hq=>hq.elim (h.1 q) fun e=>e▸h.2⟩
        rcases hcase with⟨hneg,rfl,rfl,rfl,hlo⟩|⟨hpos,rfl,rfl,rfl,hhi⟩
        . refine⟨fun _ z=>?_,fun e=>(by cases e),fun e z=>?_,fun e=>happ.2 ⟨h2 e,by omega⟩⟩
          . rw[happ];have hg:=N4 (a:=rs p) (z:=z) hneg;rcases hlo with⟨g1,g2⟩|⟨g1,g2⟩
            . have:=l1 g1 z;constructor
              . intro g;exact⟨this.1 (by omega),fun _=>hg.1 (by omega)⟩
              . intro g;have:=this.2 g.1;have:=hg.2 (g.2 hneg);omega
            . constructor
              . intro g;exact⟨fun q hq hq0=>absurd hq0 (l2 g1 q hq),fun _=>hg.1 (by omega)⟩
              . intro g;have:=hg.2 (g.2 hneg);omega
          . rw[happ,h1 e z];exact⟨fun g=>⟨g,fun g'=>by omega⟩,fun g=>g.1⟩
        . refine⟨fun e z=>?_,fun e=>happ.2 ⟨l2 e,by omega⟩,fun _ z=>?_,fun e=>(by cases e)⟩
          . rw[happ,l1 e z];exact⟨fun g=>⟨g,fun g'=>by omega⟩,fun g=>g.1⟩
          . rw[happ];have hg:=LX (a:=rs p) (z:=z) hpos;rcases hhi with⟨g1,g2⟩|⟨g1,g2⟩
            . have:=h1 g1 z;constructor
              . intro g;exact⟨this.1 (by omega),fun _=>hg.1 (by omega)⟩
              . intro g;have:=this.2 g.1;have:=hg.2 (g.2 hpos);omega
            . constructor
              . intro g;exact⟨fun q hq hq0=>absurd hq0 (h2 g1 q hq),fun _=>hg.1 (by omega)⟩
              . intro g;have:=hg.2 (g.2 hpos);omega
    . rw[eV (by omega)]at l1 l2 h1 h2;exact⟨lo,hi,hl,hh,rfl,dlo,dhi,l1,l2,h1,h2⟩
  . rintro _ ⟨lo,hi,hl,hh,rfl,dlo,dhi,l1,l2,h1,h2⟩;have hall:∀z,(∀p∈e.items,hx s (ux s (cJ (vf y) e.v z)) p)↔(∀p∈e.items,c p<0->c p*z<=rs p)/\∀p∈e.items,0<c p->c p*z<=rs p:=fun z=>by
      constructor
      . exact fun g=>⟨fun p hp _=>(hxr p z).1 (g p hp),fun p hp _=>(hxr p z).1 (g p hp)⟩
      . rintro⟨g1,g2⟩ p hp;have hne:=(he.p p hp).2;rw[hc']at hne;rcases tD hne with g|g
        . exact(hxr p z).2 (g1 p hp g)
        . exact(hxr p z).2 (g2 p hp g)
    dsimp only;refine aY (fun g=>aL ⟨hi,rfl,dhi,fun _=>(hall hi).2 ⟨fun p hp hp0=>absurd hp0 (l2 (by simpa using g) p hp),?_⟩,fun e=>(by cases e)⟩) (fun g=>?_)
    . cases hh with
      |true=>exact(h1 rfl hi).1 (lK _)
      |false=>exact fun p hp hp0=>absurd hp0 (h2 rfl p hp)
    . have hl1:hl=true:=by simpa using g
      refine aY (fun g2=>aL ⟨lo,rfl,dlo,fun _=>(hall lo).2 ⟨(l1 hl1 lo).1 (lK _),fun p hp hp0=>absurd hp0 (h2 (by simpa using g2) p hp)⟩,fun e=>(by cases e)⟩) (fun g2=>?_);have hh1:hh=true:=by simpa using g2
      refine aT (j8 (by omega) (by omega)) (aL ⟨lo,rfl,dlo,fun g3=>(hall lo).2 ⟨(l1 hl1 lo).1 (lK _),(h1 hh1 lo).1 (CL.1 (of_decide_eq_true g3))⟩,fun g3=>?_⟩);rintro⟨z,hz⟩;obtain⟨z1,z2⟩:=(hall z).1 hz;have:=(l1 hl1 z).2 z1;have:=(h1 hh1 z).2 z2;exact of_decide_eq_false g3 (CL.2 (by omega))
end
end Go.D
set_option maxHeartbeats 1000000
namespace Go.D
open Go Go.X
section
variable {K Ku:Nat} {s:St}
theorem Ed{c:List aB}{k:Nat}{b:aB}(h:idx c (k:Int)=some b)(hk:k<c.length):c.set k b=c:=by
 rw[dd hk]at h;obtain rfl:=gY h;exact List.set_getElem_self hk
theorem Tu(h:j7 K Ku s){D:Nat}{y:List Int}(hyl:y.length=s.n)(hy:∀j,dl (vf y j)<=D)(hD:D<=549755813888):
 Tm (fun N=>qP N s.to (mB y)) (·=mB (vec s.n fun i=>ux s (vf y) i)):=by
 have hL:cZ=1099511627776:=rfl;have hK:=h.hK;have nD:=h.nD;have hn:=h.n;unfold qP;refine aN (gN (n:=s.n) rfl (by omega) (by decide)) ?_;rw[<-o8];refine aT (Tm.rA (n:=s.n) (by omega) (fun i=>ux s (vf y) i) (by simp) (fin:=id) ?_ ?_) (aL rfl)
 . intro k hk c hc hi;dsimp only[zX];rw[show vf (List.replicate s.n (0:Int)) k=0 by rw[wQ,dK hk]]at hi;refine db (by rw[dE,gZ];omega) ?_;obtain⟨r,hr,hrl,hrv⟩:=L6 h hk;refine aT (a:=c.set k (B (ux s (vf y) k))) (eG s.n (fun j t=>t=(c.set k (B (bE (mx s.u k) (vf y) j)),(j:Int))) (by show(_,_)=_;rw[show bE (mx s.u k) (vf y) 0=0 from rfl,Ed hi (by omega)];rfl) ?_) (aL rfl);rintro j hj _ rfl;dsimp only[Fa];rw[dE,hyl];refine aY (fun hlt=>?_) (fun hge=>aL ?_)
   . have hlt:j<s.n:=by omega
     have d1:=h.mx k j;have d2:=hy j;have d3:=sX (f:=mx s.u k) (g:=vf y) (fun j=>h.mx k j) hy j;have d4:=j6 (mx s.u k j) (vf y j);have hci:∀b:aB,idx (c.set k b) (k:Int)=some b:=fun b=>kJ (by rw[yv (by omega)]);refine aN (hci _) (aN hr (aN (ej (l:=r) (by omega)) (aN (ej (l:=y) (by omega)) ?_)));rw[hrv];refine aT (nT (by omega) (by omega)) (aT (mG (by omega) (by omega)) (aN (hci _) (aN (dV rfl (by rw[iS];omega)) (aL ⟨hlt,?_⟩))));rw[List.set_set,dW (by omega)];rfl
   . have:j=s.n:=by omega
     subst this;rfl
 . intro c hc;dsimp only[zX];exact cA (by rw[dE,gZ];omega) (aL rfl)
theorem RI{y:List Int}{v:Nat}{z:Int}(hv:v<y.length):vf (y.set v z)=cJ (vf y) v z:=by
 funext j;rw[jR hv];unfold cJ;by_cases e:v=j
 . rw[if_pos e,if_pos e.symm]
 . rw[if_neg e,if_neg fun h=>e h.symm]
theorem LP{α:Type}{P:Nat->α->Prop}:∀{l:List α},(∀e∈l,∃N0,∀N,N0<=N->P N e)->∃N0,∀N,N0<=N->∀e∈l,P N e
 |[],_=>⟨0,fun _ _ e he=>by cases he⟩
 |a::l,h=>by
  obtain⟨N1,h1⟩:=h a cK;obtain⟨N2,h2⟩:=LP (P:=P) (l:=l) fun e he=>h e (cG _ he);refine⟨max N1 N2,fun N hN e he=>?_⟩;rcases dT.1 he with rfl|he
  . exact h1 N (by omega)
  . exact h2 N (by omega) e he
theorem GZ{y:List Int}{e:AE}{z:Int}(hv:e.v<y.length):dh (mB y) e.to.v (B z)=some (mB (y.set e.v z)):=by
 rw[show e.to.v=(e.v:Int) from rfl,dV (n:=e.v) rfl (by rw[dE];exact hv),uz]
theorem Iy{y:List Int}{v D D':Nat}{z:Int}(hv:v<y.length)(hy:∀j,dl (vf y j)<=D)(hz:dl z<=D')(h:D<=D')(j:Nat):dl (vf (y.set v z) j)<=D':=by
 rw[jR hv];split
 . exact hz
 . exact bO (hy j) h
theorem ID(h:j7 K Ku s)(hE:∀e∈s.stack,px s e):∀(k D:Nat) (y:List Int),y.length=s.n->(∀j,dl (vf y j)<=D)->D+k*(K+Ku+9)<=549755813888->∃N0,∀N,N0<=N->nW N s.to k (mB y)=true
 |0,D,y,_,_,_=>⟨0,fun _ _=>rfl⟩
 |k+1,D,y,hyl,hy,hD=>by
  rw[gL]at hD;have key:=LP (P:=fun N (e:AE)=>(match nX N s.to e.to (mB y)with|none=>false|some (n,ok)=>if ok then(match dh (mB y) e.to.v n with|none=>false|some y=>nW N s.to k y)else true)=true) (l:=s.stack) fun e he=>by
   obtain⟨⟨zb,ok⟩,N1,⟨z,hz,hzd,-,-⟩,hN⟩:=HU h (hE e he) hyl hy (by omega);dsimp only at hz;subst hz;have hv:e.v<y.length:=by rw[hyl];exact(hE e he).v
   obtain⟨N2,h2⟩:=ID h hE k (K+Ku+D+9) (y.set e.v z) (by rw[iS];exact hyl) (Iy hv hy hzd (by omega)) (by omega);refine⟨max N1 N2,fun N hNN=>?_⟩;rw[show nX N s.to e.to (mB y)=some (B z,ok) from hN N (by omega)];dsimp only;cases ok with
   |false=>rfl
   |true=>
    rw[if_pos rfl,GZ hv];exact h2 N (by omega)
  obtain⟨N0,h0⟩:=key;refine⟨N0,fun N hN=>?_⟩;show(s.stack.map AE.to).all _=true;rw[tp];intro x hx;obtain⟨e,he,rfl⟩:=dL.1 hx;exact h0 N hN e he
theorem S7{c:List Int}{v:Nat}{y:Nat->Int}{z:Int}(hv:v<s.n)(h:cu s.u s.n c v=0):bE (vf c) (ux s (cJ y v z)) s.n=bE (vf c) (ux s y) s.n:=by
 rw[AD,AD,ug hv,h];simp
theorem PX(hI:Inv s)(hi:s.items=[]){k:Nat}{e:AE}(hk:s.stack[k]?=some e){y:Nat->Int}{z:Int}(hy:Hs s y (k+1))(hz:∀p∈e.items,hx s (ux s (cJ y e.v z)) p):Hs s (cJ y e.v z) k:=by
 obtain⟨h1,h2,h3⟩:=hy;have hm:=ni hk;obtain⟨e1,e2,e3⟩:=hI.sv e hm;have hkl:k<s.stack.length:=(dU.1 hk).1;have hek:s.stack[k]=e:=(dU.1 hk).2;refine⟨fun j hj hst=>?_,fun x hx=>(by rw[hi]at hx;cases hx),fun e' he' p hp=>?_⟩
 . have:j≠e.v:=fun h=>by rw[h,e2]at hst;omega
   unfold cJ;rw[if_neg this];exact h1 j hj hst
 . rw[eU hkl,hek]at he';rcases dT.1 he' with rfl|he'
   . exact hz p hp
   . have h4:=h3 e' he' p hp;have h5:cu s.u s.n (aI s.known p).c e.v=0:=by
      have h6:=Ns.1 hI.sd;obtain⟨m,hm',rfl⟩:=nk he';rw[yD]at hp;rw[oz]at hm';have:=(h6 k (k+1+m) hkl (by omega) (by omega)).2 p hp;rw[hek]at this;exact this
     unfold hx at h4⊢;rw[S7 e1 h5];exact h4
theorem IL(h:j7 K Ku s)(hI:Inv s)(hi:s.items=[])(hE:∀e∈s.stack,px s e)(hF:∀k e,s.stack[k]?=some e->e.dA=false->∀y,Hs s y (k+1)->∃z,∀p∈e.items,hx s (ux s (cJ y e.v z)) p):
 ∀(k D:Nat) (y:List Int),k<=s.stack.length->y.length=s.n->(∀j,dl (vf y j)<=D)->D+k*(K+Ku+9)<=549755813888->Hs s (vf y) k->
  Tm (fun N=>ic N s.to ((s.stack.take k).map AE.to).reverse (mB y)) (fun r=>(∃y':List Int,r=.inl (mB y')/\y'.length=s.n/\(∀j,dl (vf y' j)<=D+k*(K+Ku+9))/\Hs s (vf y') 0)\/∃e∈s.stack,e.dA=true/\r=.inr (e.v:Int))
 |0,D,y,_,hyl,hy,_,hh=>aL (.inl ⟨y,rfl,hyl,fun j=>by have:=hy j;omega,hh⟩)
 |k+1,D,y,hk,hyl,hy,hD,hh=>by
  rw[gL]at hD;have hkl:k<s.stack.length:=hk;obtain⟨e,he⟩:∃e,s.stack[k]?=some e:=⟨_,bV hkl⟩;have hm:=ni he;have hek:s.stack[k]=e:=(dU.1 he).2;have hv:e.v<y.length:=by rw[hyl];exact(hE e hm).v
  have e1:((s.stack.take (k+1)).map AE.to).reverse=e.to::((s.stack.take k).map AE.to).reverse:=by
   rw[<-jt hkl,hek,jJ,Nn];rfl
  rw[e1];show Tm (fun N=>(nX N s.to e.to (mB y)).bind _) _;refine Tm.bind (HU h (hE e hm) hyl hy (by omega)) ?_;rintro⟨zb,ok⟩ ⟨z,hz,hzd,g1,g2⟩;dsimp only at hz g1 g2⊢;subst hz;refine aY (fun h1=>?_) (fun h1=>aL (.inr ⟨e,hm,?_,rfl⟩))
  . refine aN (GZ hv) ?_;refine(IL h hI hi hE hF k (K+Ku+D+9) (y.set e.v z) (by omega) (by rw[iS];exact hyl) (Iy hv hy hzd (by omega)) (by omega) ?_).mono ?_
    . rw[RI hv];exact PX hI hi he hh (g1 h1)
    . rintro r (⟨y',a1,a2,a3,a4⟩|a)
      . exact .inl ⟨y',a1,a2,fun j=>by have:=a3 j;rw[gL];omega,a4⟩
      . exact .inr a
  . cases ht:e.dA with
    |true=>rfl
    |false=>exact absurd (hF k e he ht (vf y) hh) (g2 (by simpa using h1))
theorem EG(hI:Inv s):s.stack.length<=s.n:=by
 have hn:(s.stack.map AE.v).Nodup:=by
  unfold List.Nodup;rw[GK];exact hI.sd.imp fun h=>h.1
 have:=Vd (l₂:=List.range s.n) hn (fun v hv=>by
  obtain⟨e,he,rfl⟩:=dL.1 hv;exact pP.2 (hI.sv e he).1)
 simpa using this
abbrev rF:Proof:=Proof.mk [] [] (aB.mk false []) []
theorem Sz(h:j7 K Ku s)(hI:Inv s)(hi:s.items=[])(hE:∀e∈s.stack,px s e)(hF:∀k e,s.stack[k]?=some e->e.dA=false->∀y,Hs s y (k+1)->∃z,∀p∈e.items,hx s (ux s (cJ y e.v z)) p):
    Tm (fun N=>rX N s.to) (fun r=>(∃x:List Int,r=bX.mk 0 (mB x) rF 0/\x.length=s.n/\(∀v∈x,dl v<=137438953472)/\∃y,Hs s y 0/\∀i,i<s.n->vf x i=ux s y i)\/∃e∈s.stack,e.dA=true/\r=bX.mk 2 [] rF (e.v:Int)):=by
  have hL:cZ=1099511627776:=rfl;have hK:=h.hK;have nD:=h.nD;have hn:=h.n;have hst:=EG hI;unfold rX;refine aN (gN (n:=s.n) rfl (by omega) (by decide)) ?_;rw[<-o8];refine aT (a:=mB (vec s.n fun j=>if vf s.status j=1 then vf s.value j else 0)) ((Tm.rA (n:=s.n) (by omega) (fun j=>if vf s.status j=1 then vf s.value j else 0) (by simp) (fin:=id) ?_ ?_)) ?_
  . intro k hk c hc hi';rw[show vf (List.replicate s.n (0:Int)) k=0 by rw[wQ,dK hk]]at hi';dsimp only[BA];refine db (by rw[dE,gZ];omega) (aT (a:=c.set k (B (if vf s.status k=1 then vf s.value k else 0))) (aN (AG (l:=s.status) (by rw[hI.fR];exact hk)) (aY (fun h1=>?_) (fun h1=>aL ?_))) (aL rfl))
    . refine aN (ej (l:=s.value) (by rw[hI.vl];exact hk)) (aN hi' (aN (dV rfl (by omega)) (aL ?_)));rw[if_pos h1]
    . rw[if_neg h1,Ed hi' (by omega)]
  . intro c hc;dsimp only[BA];exact cA (by rw[dE,gZ];omega) (aL rfl)
  generalize hy0:(vec s.n fun j=>if vf s.status j=1 then vf s.value j else 0)=y0;have y0l:y0.length=s.n:=by rw[<-hy0];exact fh
  have y0d:∀j,dl (vf y0 j)<=Ku:=fun j=>by
    rcases cw j s.n with hj|hj
    . rw[<-hy0,dK hj];split
      . exact h.u.v.vf j
      . rw[ie];omega
    . rw[mL (by omega),ie];omega
  have hsl:s.to.stack.length=s.stack.length:=cP ..;have hmul:s.stack.length*(K+Ku+9)<=4*(536870912+17179869184+9):=iR (by omega) (by omega);have hh:Hs s (vf y0) s.stack.length:=⟨fun j hj hs=>by rw[<-hy0,dK hj,if_pos hs],fun x hx=>(by rw[hi]at hx;cases hx),fun e he=>(by rw[Ch]at he;cases he)⟩;obtain⟨N1,hN1⟩:=ID h hE s.stack.length Ku y0 y0l y0d (by omega);have hback:=IL h hI hi hE hF s.stack.length Ku y0 (bK _) y0l y0d (by omega) hh;rw[tA]at hback;have key:Tm (fun N=>(ic N s.to s.to.stack.reverse (mB y0)).bind fun
      |.inr v=>some (bX.mk 2 [] (Proof.mk [] [] (aB.mk false []) []) v)
      |.inl y=>(qP N s.to y).bind fun x=>some (bX.mk 0 x (Proof.mk [] [] (aB.mk false []) []) 0)) (fun r=>(∃x:List Int,r=bX.mk 0 (mB x) rF 0/\x.length=s.n/\(∀v∈x,dl v<=137438953472)/\∃y,Hs s y 0/\∀i,i<s.n->vf x i=ux s y i)\/∃e∈s.stack,e.dA=true/\r=bX.mk 2 [] rF (e.v:Int)):=by
    refine Tm.bind (show Tm (fun N=>ic N s.to s.to.stack.reverse (mB y0)) _ from hback) ?_;rintro _ (⟨y,rfl,yl,yd,yh⟩|⟨e,he,ht,rfl⟩)
    . dsimp only;refine aT (Tu h yl yd (by omega)) (aL (.inl ⟨_,rfl,fh,fun v hv=>?_,vf y,yh,fun i hi'=>dK hi'⟩));obtain⟨i,hi',rfl⟩:=gm hv;rw[fh]at hi';rw[dK hi'];have:=sX (f:=mx s.u i) (g:=vf y) (fun j=>h.mx i j) yd s.n;show dl (bE _ _ _)<=_;omega
    . exact aL (.inr ⟨e,he,ht,rfl⟩)
  obtain⟨a,N2,ha,hN2⟩:=key;refine⟨a,max N1 N2,ha,fun N hN=>?_⟩;show(if s.to.stack.length<=9223372036854775807/\nW N s.to s.to.stack.length (mB y0)=true then _ else none)=_;rw[hsl,if_pos ⟨by omega,hN1 N (by omega)⟩];exact hN2 N (by omega)
end
open Go Go.X
def oB(N:Nat)(x:Int)(y:Int)(c:Int)(equal:Bool):Option Constraint:= some (Constraint.mk (Linear.mk c [(gU.mk 0 x),(gU.mk 1 y)]) equal)
def FG(N:Nat)(l:(List Constraint)):((List Constraint)×Int)->Option (aK ((List Constraint)×Int) (List Constraint))
 |(c,a)=>(if(a:Int)<(List.length l:Int)then (idx l a).bind fun b=>(cN 16 ([]:(List gU)) b.Linear.aZ).bind fun d=>(cN 40 c [(Constraint.mk (Linear.mk b.Linear.Const d) b.iC)]).bind fun e=>some (aK.next (e,(iw (a+1)))) else some (aK.done c))
def yj(N:Nat)(l:(List Constraint)):Option (List Constraint):=(bH (FG N l) N (([]:(List Constraint)),0)).bind fun ss=>match ss with
  |a=>some a
def xj(N:Nat)(n:Int)(l:(List Constraint)):Option (Bool×Bool):=(yj N l).bind fun r1=>(pS N n r1).bind fun r2=>(if r2.2.2=true then (if((List.length r2.1:Int):Int)=n then (ra N l r2.1).bind fun r9=>some (true,r9) else some (true,false)) else (if((List.length r2.1:Int):Int)=0 then (si N n l r2.2.1).bind fun a=>some (false,a) else some (false,false)))
def ve(N:Nat):Option Bool:=(oB N 3 (-5) (-1) true).bind fun r1=>(oB N 1 0 (-10) false).bind fun r2=>(oB N (-1) 0 3 false).bind fun r3=>(pS N 2 [r1,r2,r3]).bind fun r4=>(EI N 2 [r1,r2,r3] 0).bind fun r5=>(oB N 4 (-3) 2 false).bind fun r6=>(oB N (-4) 3 (-1) false).bind fun r7=>(pS N 2 [r6,r7]).bind fun r8=>(oB N 2 (-2) (-1) true).bind fun r9=>(pS N 2 [r9]).bind fun a=>(if r4.2.2=true then (if((List.length r4.1:Int):Int)=2 then (idx r4.1 0).bind fun b=>(kC N 7).bind fun c=>(yc N b c).bind fun d=>(if d=true then (idx r4.1 1).bind fun e=>(kC N 4).bind fun f=>(yc N e f).bind fun g=>(if g=true then (if r5.2=true then (kC N 7).bind fun i=>(yc N r5.1 i).bind fun j=>(if j=true then (if(!r8.2.2)=true then (si N 2 [r6,r7] r8.2.1).bind fun k=>(if k=true then (if(!a.2.2)=true then (oB N 2 (-2) (-1) true).bind fun l=>(si N 2 [l] a.2.1).bind fun m=>some m else some false) else some false) else some false) else some false) else some false) else some false) else some false) else some false) else some false)
def Bw(N:Nat)(n:Int)(l:(List Constraint))(most:Int):Option Bool:=((((ve N).bind fun r9=>(if(!r9)=true then some true else (if(n:Int)>3 then some true else (xA N n l 7).bind fun b=>some (!b)))):Option Bool)).bind fun ss=>match ss with
  |x6=>(if x6=true then (ve N).bind fun c=>some c else (wA N n l (Int.tmod (iw most) 7)).bind fun d=>(xj N n d).bind fun a=>(if a.2=true then (xF N n l (Int.tmod (iw most) 7)).bind fun e=>some (a.1==e) else some false))
end Go.D
set_option maxRecDepth 1000000
set_option maxHeartbeats 4000000
namespace Go.D
theorem TT(N:Nat):ve (N+100)=some true:=by kernel_rfl
open Go Go.X
theorem IP:Tm (fun N=>ve N) (fun r=>r=true):=⟨true,100,rfl,fun N hN=>by rw[show N=(N-100)+100 by omega];exact TT _⟩
def D5(l:List Constraint)(n:Int):Prop:=(∀c∈l,fF c n)/\0<=n/\n<=512
theorem OM{n:Int}{l:List Constraint}(hl:l.length<=9223372036854775807)(hc:∀c∈l,c.Linear.aZ.length<=9223372036854775807):
 Tm (fun N=>wM N n l) (fun r=>r=true↔D5 l n):=by
 unfold wM;refine Tm.bind (Tm.each (body:=fun N=>yo N l n) l (fun c=>fF c n) (Q:=fun r=>(r=.inr false/\¬D5 l n)\/(r=.inl ()/\∀c∈l,fF c n)) hl ?_ ?_) ?_
 . intro k hk _;dsimp only[yo];refine db (by omega) (aN (dd hk) (Tm.bind (DC (hc _ (dt hk))) fun r hr=>aY (fun h=>aS (.inr ⟨_,rfl,.inl ⟨rfl,fun ha=>?_⟩⟩)) (fun h=>aS (.inl ⟨rfl,hr.1 (by simpa using h)⟩))));have:=hr.2 (ha.1 _ (dt hk));simp[this]at h
 . intro h;dsimp only[yo];exact cA (by omega) (aS ⟨_,rfl,.inr ⟨rfl,h⟩⟩)
 . rintro _ (⟨rfl,h⟩|⟨rfl,h⟩)
   . exact aS ⟨fun e=>(by cases e),fun e=>absurd e h⟩
   . refine aY (fun h1=>aS ?_) (fun h1=>aS ?_)
     . simp only[decide_eq_true_eq];exact⟨fun h2=>⟨h,h1,h2⟩,fun h2=>h2.2.2⟩
     . exact⟨fun e=>(by cases e),fun e=>absurd e.2.1 h1⟩
def pg(f:Linear)(x:List aB):Nat->Int
 |0=>f.Const
 |k+1=>pg f x k+(f.aZ.getD k ⟨0,0⟩).N*bv (x.getD (f.aZ.getD k ⟨0,0⟩).Var.toNat eN)
def qp(c:Constraint)(x:List aB):Bool:=decide (0<pg c.Linear x c.Linear.aZ.length)||(decide (pg c.Linear x c.Linear.aZ.length<0)&&c.iC)
theorem getDk{l:List gU}{n:Nat}(h:n<l.length):l.getD n ⟨0,0⟩=l[n]:=by rw[cy,bV h];rfl
structure ED (f:Linear)(x:List aB):Prop where
 len:f.aZ.length<=1073741824
 const:eY f.Const
 lE:∀k∈f.aZ,eY k.N/\0<=k.Var/\k.Var<x.length
 x:∀b∈x,jG 137438953472 b
theorem EJ{a:Int}:bM a 0>0↔0<a:=by unfold bM;(repeat' split)<;>omega
theorem R8{f:Linear}{x:List aB}(h:ED f x):Tm (fun N=>wz N f x) (fun r=>bB aC r.aP/\r.aP.length<=274877906944/\bv r=pg f x f.aZ.length):=by
 unfold wz;refine Tm.bind (sD h.const.1 h.const.2) ?_;rintro b ⟨hb,hbl⟩;refine Tm.bind (Q:=fun r=>bB aC r.aP/\r.aP.length<=274877906944/\bv r=pg f x f.aZ.length) (eG f.aZ.length (fun k s=>s.2=(k:Int)/\bB aC s.1.aP/\s.1.aP.length<=137438953476+k/\bv s.1=pg f x k) ⟨rfl,hb.dg.bL,by dsimp only;omega,hb.bv⟩ ?_) fun r hr=>aL hr;rintro k hk ⟨s,i⟩ ⟨rfl,h1,h2,h3⟩;dsimp only at h1 h2 h3;dsimp only[DV];have hL:=h.len;refine aY (fun hlt=>?_) (fun hge=>aL ?_)
 . have hlt:k<f.aZ.length:=by omega
   obtain⟨g1,g2,g3⟩:=h.lE _ (dt hlt);refine aN (dd hlt) (Tm.bind (sD g1.1 g1.2) ?_);rintro e ⟨he,hel⟩;have hv:(f.aZ[k].Var).toNat<x.length:=by omega
   obtain⟨x1,x2⟩:=h.x _ (dt hv);refine aN (dd hlt) (aN (gC (n:=(f.aZ[k].Var).toNat) (by omega) hv) (Tm.bind (De he.dg.bL x1 (by omega) (by omega)) ?_));rintro p ⟨hp,hpl⟩;refine Tm.bind (xG h1 hp.dg.bL (by omega) (by omega)) ?_;rintro q ⟨hq,hql⟩;refine aL ⟨hlt,dW (by omega),hq.dg.bL,by dsimp only;omega,?_⟩;dsimp only;rw[hq.bv,hp.bv,he.bv,h3,pg,getDk hlt,sr hv]
 . have:k=f.aZ.length:=by omega
   subst this;exact⟨h1,by omega,h3⟩
theorem QV{l:List Constraint}{x:List aB}(hl:l.length<=9223372036854775807)(h:∀c∈l,ED c.Linear x):Tm (fun N=>ra N l x) (·=l.all (fun c=>!qp c x)):=by
 unfold ra;refine aT (Tm.allL (b:=fun N=>we N l x) l (fun c=>!qp c x) hl ?_ ?_) ?_
 . intro k hk;dsimp only[we];refine db (by omega) (aN (dd hk) (Tm.bind (R8 (h _ (dt hk))) ?_));rintro r ⟨h1,h2,h3⟩;refine Tm.bind (nB h1 (by omega)) ?_;rintro _ rfl;rw[h3];refine Tm.bind (Q:=(·=qp l[k] x)) (aY (fun hp=>aL ?_) (fun hp=>aY (fun hq=>aN (dd hk) (aL ?_)) (fun hq=>aL ?_))) ?_
   . rw[EJ]at hp;simp[qp,hp]
   . rw[Ad]at hq;simp[qp,hq];omega
   . rw[EJ]at hp;rw[Ad]at hq;simp[qp,hp,hq]
   rintro _ rfl;refine aY (fun h=>aL ?_) (fun h=>aL ?_)
   . simp[h]
   . simp[h]
 . dsimp only[we];exact cA (by omega) (aL rfl)
 . cases l.all (fun c=>!qp c x)with
   |true=>exact aL rfl
   |false=>exact aL rfl
end Go.D
set_option maxHeartbeats 1000000
namespace Go.D
open Go Go.X
section
variable {K:Nat} {s:St}
structure oZ (s:St):Prop where
 n:s.n<=4
 ul:s.u.length=s.n
 fR:s.status.length=s.n
 vl:s.value.length=s.n
 il:s.items.length<=1073741824
 kl:s.known.length<=1073741824
theorem Inv.cp(h:Inv s)(hn:s.n<=4)(hil:s.items.length<=1073741824)(hkl:s.known.length<=1073741824):oZ s:=⟨hn,h.ul.1,h.fR,h.vl,hil,hkl⟩
theorem Ap(h:oZ s):Tm (fun N=>qe N s.to) (·=s.to):=by
 have:=h.n;have:=h.ul;have:=h.fR;have:=h.vl;have:=h.il;unfold qe;refine aT (a:=s.to.known) (aL rfl) (aT (a:=s.to.steps) (aL rfl) ?_);refine aT (a:=s.to.u) ?_ (aT (a:=s.to.status) ?_ (aT (a:=s.to.value) (BV (l:=s.value) (by omega)) (aT (a:=s.to.items) ?_ (aT (a:=s.to.stack) (aL rfl) (aL rfl)))))
 . unfold AM;exact aN (dP (by show(_+(s.u.map mB).length)*_<=_;rw[cP];simp only[dM];omega) (by decide)) (aL (iQ _))
 . unfold A6;exact aN (dP (by show(_+s.status.length)*_<=_;simp only[dM];omega) (by decide)) (aL (iQ _))
 . unfold pV;exact aN (dP (by show(_+(s.items.map AI.to).length)*_<=_;rw[cP];simp only[dM];omega) (by decide)) (aL (iQ _))
def cO(s:St)(q:AQ):St:={s with known:=s.known++[q],steps:=[]}
theorem tI{q:AQ}(h:oZ s):Tm (fun N=>mV N s.to q.to) (·=(cO s q).to):=by
 have:=h.kl;unfold mV;refine aT (Ap h) (aN (dP (by show((s.known.map AQ.to).length+_)*_<=_;simp only[cP,cz,dM];omega) (by decide)) (aL ?_));unfold cO St.to;simp
def sH(l:List AI)(p p':Nat):List AI:=l.map fun x=>if x.pos=p then{x with pos:=p'}else x
theorem JQ{l:List AI}{p p':Nat}(hl:l.length<=1073741824):Tm (fun N=>tM N (mI l) (p:Int) (p':Int)) (·=mI (sH l p p')):=by
 unfold tM;refine aT (a:=mI l) ?_ ?_
 . unfold pV;exact aN (dP (by rw[fg];simp only[dM];omega) (by decide)) (aL (iQ _))
 . refine aT (a:=mI (sH l p p')) ((Tm.fill (n:=l.length) (by omega) (c0:=mI l) (fun k=>(if(l.getD k ⟨0,[]⟩).pos=p then({(l.getD k ⟨0,[]⟩)with pos:=p'}:AI)else l.getD k ⟨0,[]⟩).to) (fg l) (fin:=id) ?_ ?_).mono ?_) (aL rfl)
   . intro k hk c hc hi;have e0:(mI l)[k]?=some (l[k]).to:=by unfold mI;rw[gM,bV hk];rfl
     rw[e0]at hi;dsimp only[Bu];rw[show l.getD k ⟨0,[]⟩=l[k] by rw[cy,bV hk];rfl];refine db (by rw[fg];omega) (aN (kJ hi) (aY (fun h=>?_) (fun h=>aL ?_)))
     . have h:((l[k]).pos:Int)=(p:Int):=h;refine aN (kJ hi) (aN (dV rfl (by omega)) (aL ?_));rw[if_pos (by omega)];rfl
     . have h:¬((l[k]).pos:Int)=(p:Int):=h;rw[if_neg (by omega)];have:c.set k (l[k]).to=c:=by
        obtain⟨h1,h2⟩:=dU.1 hi;rw[<-h2];exact List.set_getElem_self h1
       rw[this]
   . intro c hc;dsimp only[Bu];exact cA (by rw[fg];omega) (aL rfl)
   . intro r hr;rw[hr,id];unfold mI sH;rw[mq];exact wc (f:=fun x:AI=>(if x.pos=p then({x with pos:=p'}:AI)else x).to)
theorem TA{v:Nat}(hi:iy s.n s.items)(hv:v<s.n)(hne:cx v s.items≠[]\/dw v s.items=[]):Tm (fun N=>wI N s.to (v:Int)) (fun r=>∃t,r=B t/\dl t<=cZ):=by
 have hL:cZ=1099511627776:=rfl;have hlo:=wO (v:=v) hi;have hll:=hlo.1;unfold wI;refine aT (v7 hi hv) ?_;refine Tm.bind (Q:=fun r=>∃t,r=B t/\dl t<=cZ) (eG (dw v s.items).length (fun k t=>∃c,t=(B c,(k:Int))/\dl c<=20+k) ⟨0,by rw[B0];rfl,by rw[ie];omega⟩ ?_) fun r hr=>aL hr;rintro k hk _ ⟨c,rfl,hc⟩;dsimp only[FK];rw[fg];refine aY (fun hlt=>?_) (fun hge=>aL ⟨c,rfl,by omega⟩);have hlt:k<(dw v s.items).length:=by omega
 have hm:=dt hlt;have hun:cx v s.items≠[]:=by
  rcases hne with h|h
  . exact h
  . rw[h]at hlt;cases hlt
 have hsd:=xS (low:=(dw v s.items)[k]) (o9 (v:=v) hi) hun (hlo.vf hm v);refine Tm.bind (Q:=fun r=>∃c,r=B c/\dl c<=20+(k+1)) (aN (oC hlt) (aT (wN (o9 (v:=v) hi) hun (hlo.2 _ hm).1 (hlo.vf hm v) hv) (aT (jk (by omega)) (aY (fun h2=>?_) (fun h2=>aL ⟨c,rfl,by omega⟩))))) ?_
 . have h1:dl 1<=18:=bO jw (by decide);have ha:=oO hsd h1;refine aT (jT (by decide) (by decide)) (aT (mG (by omega) (by omega)) (aT (mG (by omega) (by omega)) (aL ⟨_,rfl,?_⟩)));have:=oO (K:=20+k) hc (show dl (gK v (dw v s.items)[k] (cx v s.items)+1)<=20+k by omega);omega
 . rintro _ ⟨c',rfl,hc'⟩;exact aL ⟨hlt,c',by rw[dW (by omega)],hc'⟩
def rO(n:Nat)(g:List Int)(w:Nat):Prop:=w<n/\vf g w≠0/\∀j,j<n->j≠w->vf g j=0
theorem GY{n:Nat}{x:AI}(hl:x.g.length=n)(hn:n<=512)(hd:∀v∈x.g,dl v<=8):Tm (fun N=>uH N x.to) (fun r=>r.2=true->∃w:Nat,r.1=(w:Int)/\rO n x.g w):=by
 have hL:cZ=1099511627776:=rfl;unfold uH;refine Tm.bind (Q:=fun t:Int×Int=>t.2=1->∃w:Nat,t.1=(w:Int)/\rO n x.g w)
  (eG n (fun k t=>t.2.2=(k:Int)/\0<=t.2.1/\t.2.1<=(k:Int)/\(t.2.1=0->∀j,j<k->vf x.g j=0)/\(t.2.1=1->∃w:Nat,t.1=(w:Int)/\w<k/\vf x.g w≠0/\∀j,j<k->j≠w->vf x.g j=0)) ⟨rfl,lK _,lK _,fun _ j hj=>by omega,fun e=>by cases e⟩ ?_) ?_
 . rintro k hk ⟨a,m,i⟩ ⟨rfl,hm0,hmk,h0,h1⟩;dsimp only at hm0 hmk h0 h1;dsimp only[Fb];rw[show x.to.g.length=n from(dE _).trans hl];refine aY (fun hlt=>?_) (fun hge=>aL ?_)
   . have hlt:k<n:=by omega
     refine aN (ej (l:=x.g) (by omega)) (aT (jk (bO (hd _ (fU (by omega))) (by decide))) (aY (fun hs=>aL ?_) (fun hs=>aL ?_)))
     . have hs:=pz.1 hs;have hw:iw (m+1)=m+1:=bJ (by omega) (by omega);refine⟨hlt,dW (by omega),by dsimp only;rw[hw];omega,by dsimp only;rw[hw];omega,fun e=>by dsimp only at e;rw[hw]at e;omega,fun e=>⟨k,rfl,by omega,hs,fun j hj hjk=>h0 (by dsimp only at e;rw[hw]at e;omega) j (by omega)⟩⟩
     . have hs:vf x.g k=0:=jH fun e=>hs (pz.2 e);refine⟨hlt,dW (by omega),hm0,by dsimp only;omega,fun e j hj=>?_,fun e=>?_⟩
       . rcases cw j k with h2|h2
         . exact h0 e j h2
         . obtain rfl:j=k:=by omega
           exact hs
       . obtain⟨w,w1,w2,w3,w4⟩:=h1 e;refine⟨w,w1,by omega,w3,fun j hj hjw=>?_⟩;rcases cw j k with h2|h2
         . exact w4 j h2 hjw
         . obtain rfl:j=k:=by omega
           exact hs
   . have:k=n:=by omega
     subst this;intro e;obtain⟨w,w1,w2,w3,w4⟩:=h1 e;exact⟨w,w1,w2,w3,w4⟩
 . rintro⟨a,m⟩ h;exact aL fun e=>h (of_decide_eq_true e)
def p6(s:St)(c:gI):Prop:=∃x∈s.items,∃y∈s.items,∃w,w<s.n/\(∀j,j<s.n->vf x.g j=if j=w then 1 else 0)/\(∀j,j<s.n->vf y.g j=if j=w then-1 else 0)/\c=⟨x.to,B (-(aI s.known y.pos).b),B (aI s.known x.pos).b⟩
theorem CE{n w:Nat}{g:List Int}(hl:g.length=n)(hp:df g=1)(h:rO n g w):(vf g w).natAbs=1:=by
 have h2:vf g w∣((df g:Nat):Int):=pF fun v hv=>by
  obtain⟨j,hj,rfl⟩:=gm hv;by_cases e:j=w
  . subst e;exact Int.dvd_refl _
  . rw[h.2.2 j (by omega) e];exact yJ _
 rw[hp]at h2;have:=Int.natAbs_dvd_natAbs.2 h2;exact GJ this
theorem QO(hI:Inv s)(hi:iy s.n s.items)(hn:s.n<=512)(hb:∀q∈s.known,fD K q)(hK:K<=1099511627000):Tm (fun N=>wo N s.to) (fun r=>r.2=true->p6 s r.1):=by
 have hL:cZ=1099511627776:=rfl;have hil:=hi.1;have hmi:s.to.items.length=s.items.length:=cP ..;have hget:∀{k:Nat} (h:k<s.items.length),idx s.to.items (k:Int)=some (s.items[k]).to:=fun{k} h=>by
  show idx (s.items.map AI.to) _=_;rw[dd (by simpa using h),kO]
 have hbd:∀x∈s.items,dl (aI s.known x.pos).b<=K:=fun x hx=>(hb _ (eL (hI.it x hx).1)).2;unfold wo;refine Tm.bind (Q:=fun t:gI×Bool=>t.2=true->p6 s t.1) (eG s.items.length (fun k t=>t.2.2=(k:Int)/\(t.2.1=true->p6 s t.1)) ⟨rfl,fun e=>by cases e⟩ ?_) ?_
 . rintro k hk ⟨a,b,i⟩ ⟨rfl,hab⟩;dsimp only at hab;dsimp only[ER];rw[hmi];refine aY (fun hlt=>?_) (fun hge=>aL hab);have hlt:k<s.items.length:=by omega
   have hxm:=dt hlt;obtain⟨x1,x2⟩:=hi.2 _ hxm;have hgk:=hget hlt;generalize s.items[k]=x at*;refine Tm.bind (Q:=fun t:gI×Bool=>t.2=true->p6 s t.1) (aN hgk (Tm.bind (GY x1 hn x2) ?_)) (fun t ht=>aL ⟨hlt,dW (by omega),ht⟩);rintro⟨p,ok⟩ hs;dsimp only at hs;refine Tm.bind (Q:=fun c=>c=false->∃w:Nat,p=(w:Int)/\rO s.n x.g w/\0<vf x.g w) (aY (fun h=>aL fun e=>(by cases e)) (fun h=>?_)) ?_
   . have h:ok=true:=by simpa using h
     obtain⟨w,rfl,hw⟩:=hs h;refine aN (ej (l:=x.g) (by have:=hw.1;omega)) (aT (jk (bO (x2 _ (fU (by have:=hw.1;omega))) (by decide))) (aL fun e=>⟨w,rfl,hw,?_⟩));have h1:¬bM (vf x.g w) 0<0:=of_decide_eq_false e;have h2:=hw.2.1;have:¬vf x.g w<0:=fun e=>h1 (nL.2 e);omega
   . rintro c hc;refine aY (fun h=>aL hab) (fun h=>?_);obtain⟨w,rfl,hw,hw0⟩:=hc (by simpa using h);have hxone:∀j,j<s.n->vf x.g j=if j=w then 1 else 0:=fun j hj=>by
      have:=CE x1 (hI.gF x hxm) hw;by_cases e:j=w
      . subst e;rw[if_pos rfl];omega
      . rw[if_neg e];exact hw.2.2 j hj e
     refine Tm.bind (Q:=fun t:gI×Bool=>t.2=true->p6 s t.1) (eG s.items.length (fun m t=>t.2.2=(m:Int)/\(t.2.1=true->p6 s t.1)) ⟨rfl,hab⟩ ?_) fun t ht=>aL ht;rintro m hm ⟨a,b,i⟩ ⟨rfl,hab⟩;dsimp only at hab;dsimp only[C1];rw[hmi];refine aY (fun hlt2=>?_) (fun hge=>aL hab);have hlt2:m<s.items.length:=by omega
     have hym:=dt hlt2;obtain⟨y1,y2⟩:=hi.2 _ hym;have hgm:=hget hlt2;generalize s.items[m]=y at*;refine Tm.bind (Q:=fun t:gI×Bool=>t.2=true->p6 s t.1) (aN hgm (Tm.bind (GY y1 hn y2) ?_)) (fun t ht=>aL ⟨hlt2,dW (by omega),ht⟩);rintro⟨p,ok⟩ hs';dsimp only at hs';refine Tm.bind (Q:=fun c=>c=false->rO s.n y.g w/\vf y.g w<0) (aY (fun h=>aL fun e=>(by cases e)) (fun h=>aY (fun h2=>aL fun e=>(by cases e)) (fun h2=>?_))) ?_
     . have h:ok=true:=by simpa using h
       obtain⟨w',rfl,hw'⟩:=hs' h;have h2:(w':Int)=(w:Int):=by simpa using h2
       obtain rfl:w'=w:=by omega
       refine aN (ej (l:=y.g) (by have:=hw.1;omega)) (aT (jk (bO (y2 _ (fU (by have:=hw.1;omega))) (by decide))) (aL fun e=>⟨hw',?_⟩));have h1:¬bM (vf y.g w') 0>0:=of_decide_eq_false e;have h2:=hw'.2.1;have:¬0<vf y.g w':=fun e=>h1 (EJ.2 e);omega
     . rintro c hc;refine aY (fun h=>aL hab) (fun h=>?_);obtain⟨hw',hw0'⟩:=hc (by simpa using h);have hyone:∀j,j<s.n->vf y.g j=if j=w then-1 else 0:=fun j hj=>by
        have:=CE y1 (hI.gF y hym) hw';by_cases e:j=w
        . subst e;rw[if_pos rfl];omega
        . rw[if_neg e];exact hw'.2.2 j hj e
       have b1:=hbd y hym;have b2:=hbd x hxm;have hnew:p6 s (gI.mk x.to (B (-(aI s.known y.pos).b)) (B (aI s.known x.pos).b)):=⟨x,hxm,y,hym,w,hw.1,hxone,hyone,rfl⟩;refine aT (Ix (hI.it y hym).1) (aT (n5 (by omega)) (aT (Ix (hI.it x hxm).1) ?_));refine Tm.bind (Q:=fun _=>True) (aY (fun h3=>aL trivial) (fun h3=>?_)) fun v _=>aY (fun h4=>aL fun _=>hnew) (fun h4=>aL hab);have h3:b=true:=by simpa using h3
       obtain⟨x',hx',y',hy',w',-,-,-,rfl⟩:=hab h3;have b3:=hbd y' hy';have b4:=hbd x' hx';have d1:=jU (K:=K) (a:=(aI s.known x.pos).b) (b:=-(aI s.known y.pos).b) b2 (by rw[fV];exact b1);have d2:=jU (K:=K) (a:=(aI s.known x'.pos).b) (b:=-(aI s.known y'.pos).b) b4 (by rw[fV];exact b3);exact aT (mh (by omega) (by rw[fV];omega)) (aT (mh (by omega) (by rw[fV];omega)) (aT (j8 (by omega) (by omega)) (aL trivial)))
 . rintro⟨a,b⟩ h;exact aL h
end
end Go.D
set_option maxHeartbeats 1000000
namespace Go.D
open Go Go.X
inductive kW where
 |leaf (st:List AS)
 |node (st:List AS) (f:List Int) (b:Int) (l r:kW)
def kW.to:kW->Proof
 |leaf st=>⟨st.map AS.to,[],⟨false,[]⟩,[]⟩
 |node st f b l r=>⟨st.map AS.to,mB f,B b,[l.to,r.to]⟩
def oM(n:Nat)(kn:List AQ):Prop:=kn.length<=1073741824/\∀q∈kn,fD 536870912 q/\q.c.length=n
inductive Ref (n:Nat):List AQ->kW->Prop where
 |leaf {base:List AQ} {st:List AS} {kn:List AQ} (hD:gX n base st kn) (hk:oM n kn) (q:AQ) (hq:q∈kn) (hz:∀j,j<n->vf q.c j=0) (hb:q.b<0):Ref n base (.leaf st)
 |node {base:List AQ} {st:List AS} {kn:List AQ} {f:List Int} {b:Int} {l r:kW} (hD:gX n base st kn) (hf:f.length=n) (hl:Ref n (kn++[⟨f,b⟩]) l) (hr:Ref n (kn++[⟨bT f,-b-1⟩]) r):Ref n base (.node st f b l r)
theorem oM.sub{n:Nat}{kn e:List AQ}(h:oM n (kn++e)):oM n kn:=⟨by have:=h.1;rw[cM]at this;omega,fun q hq=>h.2 q (yA _ hq)⟩
theorem gX.pre{n:Nat}{base:List AQ}{st:List AS}{kn:List AQ}(h:gX n base st kn):∃e,kn=base++e/\e.length=st.length:=by
 induction h with
 |nil=>exact⟨[],by simp,rfl⟩
 |snoc h hs ih=>
  obtain⟨e,he,hl⟩:=ih;exact⟨e++[_],by rw[he,iq],by simp[hl]⟩
theorem Ref.kok{n:Nat}{base:List AQ}{p:kW}(h:Ref n base p):oM n base:=by
 induction h with
 |leaf hD hk q hq hz hb=>
  obtain⟨e,rfl,_⟩:=hD.pre;exact hk.sub
 |node hD hf hl hr ihl ihr=>
  obtain⟨e,rfl,_⟩:=hD.pre;exact ihl.sub.sub
def lq(n:Nat)(x:Nat->Int)(q:AQ):Prop:=bE (vf q.c) x n<=q.b
theorem Kj{n:Nat}{x:Nat->Int}{kn:List AQ}(hk:∀q∈kn,lq n x q):∀{us:List AU},(∀u∈us,u.ix<kn.length/\0<=u.n)->bE (eb kn us) x n<=gg kn us
 |[],_=>by rw[rb (f:=eb kn []) fun _ _=>rfl];exact lK 0
 |u::us,h=>by
  have h1:=Kj hk (us:=us) fun v hv=>h v (cG _ hv);obtain⟨h2,h3⟩:=h u cK;have h4:=hk _ (eL h2);have e:bE (eb kn (u::us)) x n=bE (eb kn us) x n+u.n*bE (vf (aI kn u.ix).c) x n:=by
   rw[<-tV];exact eD (fun j _=>by show _+_=_;omega) fun _ _=>rfl
  rw[e];have:=fZ h4 h3;show _<=u.n*(aI kn u.ix).b+gg kn us;omega
theorem Tq{n:Nat}{x:Nat->Int}{kn:List AQ}{s:AS}{q:AQ}(hk:∀q∈kn,lq n x q)(hs:Ax n kn s q):lq n x q:=by
 have h1:=Kj hk (us:=s.cE) fun u hu=>⟨(hs.cE u hu).1,(hs.cE u hu).2.1⟩;rw[hs.q];show bE (vf (vec n fun j=>eb kn s.cE j/s.d)) x n<=gg kn s.cE/s.d;have e:bE (eb kn s.cE) x n=s.d*bE (vf (vec n fun j=>eb kn s.cE j/s.d)) x n:=by
  rw[<-sf];refine eD (fun j hj=>?_) fun _ _=>rfl;rw[dK hj,fH,Np (hs.dvd j hj)]
 rw[e]at h1;exact(Int.le_ediv_iff_mul_le hs.d).2 (by rw[fH];exact h1)
theorem gX.sound{n:Nat}{x:Nat->Int}{base:List AQ}{st:List AS}{kn:List AQ}(h:gX n base st kn)(hb:∀q∈base,lq n x q):∀q∈kn,lq n x q:=by
 induction h with
 |nil=>exact hb
 |snoc h hs ih=>
  intro q hq;rcases fb.1 hq with hq|hq
  . exact ih q hq
  . rw[cI.1 hq];exact Tq ih hs
theorem GU{f:List Int}{x:Nat->Int}{n:Nat}:bE (vf (bT f)) x n=-bE (vf f) x n:=by
 have:=sf (f:=vf f) (g:=x) (k:=-1) n;rw[eD (f:=vf (bT f)) (f':=fun j=>-1*vf f j) (g:=x) (g':=x) (fun j _=>by rw[ir];omega) fun _ _=>rfl,this];omega
theorem Ref.sound{n:Nat}{base:List AQ}{p:kW}(h:Ref n base p)(x:Nat->Int):¬∀q∈base,lq n x q:=by
 induction h with
 |leaf hD hk q hq hz hb=>
  intro hs;have:=hD.sound hs q hq;unfold lq at this;rw[rb hz]at this;omega
 |node hD hf hl hr ihl ihr=>
  intro hs;have hk:=hD.sound hs;rename_i f b l r;rcases vU (bE (vf f) x n) b with h|h
  . refine ihl fun q hq=>?_;rcases fb.1 hq with hq|hq
    . exact hk q hq
    . rw[cI.1 hq];exact h
  . by_cases e:bE (vf f) x n=b
    . refine ihl fun q hq=>?_;rcases fb.1 hq with hq|hq
      . exact hk q hq
      . rw[cI.1 hq];exact Int.le_of_eq e
    . refine ihr fun q hq=>?_;rcases fb.1 hq with hq|hq
      . exact hk q hq
      . rw[cI.1 hq];show bE (vf (bT f)) x n≤-b-1;rw[GU];omega
theorem oki{n K:Nat}{q:AQ}(hn:n<=K)(hl:q.c.length=n)(h:fD K q):qQ K q.to:=by
 refine⟨by show(mB q.c).length<=_;rw[dE];omega,fun b hb=>?_,okB h.2⟩;obtain⟨v,hv,rfl⟩:=dL.1 hb;exact okB (h.1 v hv)
theorem getq{l:List AQ}{i:Nat}(h:i<l.length):(l.map AQ.to).getD i lg=(aI l i).to:=by
 rw[cy,gM,bV h,tP h];rfl
theorem AN{l:List Int}{j:Nat}:(mB l).getD j eN=B (vf l j):=by
 rcases cw j l.length with h|h
 . rw[sr (by rw[dE];exact h),Cr,kB h]
 . rw[mL h,B0,cy,fP (by rw[dE];exact h)];rfl
theorem JS{l:List AQ}:∀{us:List AU} {f:Nat->Int} {b:Int},(∀u∈us,u.ix<l.length/\0<=u.n)->lY (l.map AQ.to) (us.map AU.to) (f,b)=some (fun j=>f j+eb l us j,b+gg l us)
 |[],f,b,_=>by
  show some (f,b)=some (fun j=>f j+0,b+0);simp
 |u::us,f,b,h=>by
  obtain⟨h1,h2⟩:=h u cK;show(if mO (l.map AQ.to) u.to then none else lY (l.map AQ.to) (us.map AU.to) (w5 (l.map AQ.to) u.to (f,b)))=_;have hb:¬mO (l.map AQ.to) u.to:=by
   unfold mO;show¬((u.ix:Int)<0\/((l.map AQ.to).length:Int)<=(u.ix:Int)\/bv (B u.n)<0);rw[gz,cP];omega
  rw[if_neg hb];have e:w5 (l.map AQ.to) u.to (f,b)=(fun j=>f j+u.n*vf (aI l u.ix).c j,b+u.n*(aI l u.ix).b):=by
   unfold w5;rw[show u.to.Index.toNat=u.ix from lJ _,getq h1];show((fun j=>f j+bv (B u.n)*bv ((mB (aI l u.ix).c).getD j eN)),b+bv (B u.n)*bv (B (aI l u.ix).b))=_;rw[gz,gz];congr 1;funext j;rw[AN,gz]
  rw[e,JS fun v hv=>h v (cG _ hv)];congr 2
  . funext j;show _=f j+(_+_);omega
  . show _=b+(_+_);omega
theorem JH{n:Nat}{f:Nat->Int}:iu n (mB (vec n f)) f:=⟨by rw[dE,fh],fun j hj=>by rw[AN,dK hj];exact mR _⟩
theorem Eg{n:Nat}{l:List AQ}(hl:l≠[])(h:∀q∈l,q.c.length=n):nV (l.map AQ.to)=n/\mj (l.map AQ.to):=by
 have h0:nV (l.map AQ.to)=n:=by
  unfold nV;rw[getq (qX.2 hl)];show(mB _).length=n;rw[dE];exact h _ (eL (qX.2 hl))
 refine⟨h0,fun q hq=>?_⟩;obtain⟨a,ha,rfl⟩:=dL.1 hq;rw[h0];show(mB _).length=n;rw[dE];exact h a ha
theorem U1{n:Nat}{l:List AQ}{s:AS}{q:AQ}(hl:l≠[])(h:∀q∈l,q.c.length=n)(hs:Ax n l s q):mS (l.map AQ.to) s.to (q.to,true):=by
 obtain⟨h1,h2⟩:=Eg hl h;unfold mS;have hd:bv s.to.gh=s.d:=gz _;rw[hd,if_pos ⟨h2,hs.d⟩,show s.to.Uses=s.cE.map AU.to from rfl,JS fun u hu=>⟨(hs.cE u hu).1,(hs.cE u hu).2.1⟩];dsimp only;rw[h1,if_pos (fun j hj=>by rw[Cg];exact Int.emod_eq_zero_of_dvd (hs.dvd j hj)),hs.q];refine⟨rfl,?_,?_⟩
 . have:(fun j=>(0+eb l s.cE j)/s.d)=fun j=>eb l s.cE j/s.d:=by funext j;rw[Cg]
   rw[this];exact JH
 . rw[Cg];exact mR _
theorem gX.nth{n:Nat}{base:List AQ}{st:List AS}{kn:List AQ}(h:gX n base st kn):∀k (hk:k<st.length),Ax n (kn.take (base.length+k)) st[k] (aI kn (base.length+k)):=by
 induction h with
 |nil=>intro k hk;cases hk
 |snoc h hs ih=>
  rename_i ss l s q;obtain⟨e,he,hel⟩:=h.pre;have hll:l.length=base.length+ss.length:=by rw[he];simp[hel]
  intro k hk;rw[cM,kq]at hk;rcases cw k ss.length with h1|h1
  . have:=ih k h1;rw[Na h1,iF (by omega),qV (by omega)];exact this
  . obtain rfl:k=ss.length:=by omega
    rw[List.getElem_concat_length rfl,<-hll,oL,qV (bK _),tA];exact hs
theorem iu.snoc{n:Nat}{c:List aB}{f:Nat->Int}{y:aB}(h:iu n c f)(hy:Is y (f n)):iu (n+1) (c++[y]) f:=by
 refine⟨by simp[h.1],fun j hj=>?_⟩;rcases cw j n with h1|h1
 . have:=h.2 j h1;rwa[cy,jW (by rw[h.1];exact h1),<-cy]
 . obtain rfl:j=n:=by omega
   rw[cy,ov (by rw[h.1];exact bK _),h.1];simpa using hy
theorem Tz{K:Nat}{q:bA}{b:aB}(hK:K<=1073741824)(hl:q.aZ.length<=K)(hlb:∀x∈q.aZ,jG K x)(hb:bB aC b.aP)(hbl:b.aP.length<=1099511627776):
 Tm (fun N=>qy N q b) (fun r=>iu q.aZ.length r.aZ (fun j=>-bv (q.aZ.getD j eN))/\Is r.dz (bv b)):=by
 unfold qy;refine Tm.bind (L3 hb (by omega)) ?_;rintro b' ⟨hb',hbl⟩;refine Tm.bind (Q:=fun c:List aB=>iu q.aZ.length c (fun j=>-bv (q.aZ.getD j eN)))
  (Tm.loop (fun t:List aB×Int=>∃k:Nat,t.2=k/\k<=q.aZ.length/\iu k t.1 (fun j=>-bv (q.aZ.getD j eN))) (fun t=>q.aZ.length-t.2.toNat)
   ⟨0,rfl,fC _,⟨rfl,fun j hj=>absurd hj (by omega)⟩⟩ ?_) ?_
 . rintro⟨c,kk⟩ ⟨k,rfl,hk,hc⟩;dsimp only[Ba]at*;have hcl:=hc.1;refine aY (fun h=>?_) (fun h=>aS ?_)
   . refine aN (uf rfl (by omega)) ?_;have hx:=hlb _ (J1 (l:=q.aZ) (n:=k) (by omega));refine Tm.bind (xh hx.1 (by have:=hx.2;omega)) ?_;rintro y ⟨hy,hyl⟩;refine aN (dP (by simp only[cz,dM];omega) (by decide)) (aS ⟨⟨k+1,by show iw ((k:Int)+1)=_;rw[bJ]<;>omega,by omega,hc.snoc hy⟩,?_⟩);show q.aZ.length-(iw ((k:Int)+1)).toNat<q.aZ.length-((k:Int)).toNat;rw[bJ]<;>omega
   . obtain rfl:k=q.aZ.length:=by omega
     exact hc
 . intro c hc;exact aS ⟨hc,hb'⟩
theorem HO{kn:List AQ}{q:AQ}:(kn++[q]).map AQ.to=kn.map AQ.to++[q.to]:=by rw[jJ];rfl
theorem OU{n:Nat}(hn:n<=512){base:List AQ}{p:kW}(h:Ref n base p)(hb0:base≠[]):Tm (fun N=>sE N (base.map AQ.to) p.to) (·=true):=by
  have steps:∀{base:List AQ} {st:List AS} {kn:List AQ} {P:Proof},base≠[]->gX n base st kn->oM n kn->P.Steps=st.map AS.to->
      Tm (fun N=>bH (BS N P) N (base.map AQ.to,0)) (·=.inl (kn.map AQ.to)):=by
    intro base st kn P hb0 hD hk hP;obtain⟨e,rfl,hel⟩:=hD.pre;have hkl:=hk.1;rw[cM]at hkl;refine eG st.length (fun k t=>t=(((base++e).take (base.length+k)).map AQ.to,(k:Int))) (by rw[nj,qV (bK _),tA];rfl) ?_;rintro k hkk _ rfl;dsimp only[BS];rw[hP,cP];refine aY (fun hlt=>?_) (fun hge=>aL ?_)
    . have hlt:k<st.length:=by omega
      have hs:=hD.nth k hlt;have hne:(base++e).take (base.length+k)≠[]:=by
        have:=qX.2 hb0;intro e';have:=congrArg List.length e';rw[e9,cM,dM]at this;omega
      have hsub:∀q∈(base++e).take (base.length+k),fD 536870912 q/\q.c.length=n:=fun q hq=>hk.2 q (tu hq);refine aN (dd (by rw[cP];exact hlt)) ?_;rw[kO];refine aT (a:=((aI (base++e) (base.length+k)).to,true)) ((P8 (K:=536870912) (bK _) (by rw[cP,e9,cM];omega) (fun q hq=>?_) ⟨?_,fun u hu=>?_,okB hs.dl⟩).mono fun r hr=>hr.uniq (U1 hne (fun q hq=>(hsub q hq).2) hs)) ?_
      . obtain⟨a,ha,rfl⟩:=dL.1 hq;exact oki (by omega) (hsub a ha).2 (hsub a ha).1
      . show(List.map AU.to _).length<=_;rw[cP];have:=hs.len;omega
      . obtain⟨a,ha,rfl⟩:=dL.1 (show u∈(st[k]).cE.map AU.to from hu);exact okB (hs.cE a ha).2.2
      . refine cA (by simp) (aN (dP (by rw[cP,e9,cM,kq];omega) (by decide)) (aL ⟨hlt,?_⟩));have hlt2:base.length+k<(base++e).length:=by rw[cM];omega
        rw[dW (by omega),show base.length+(k+1)=(base.length+k)+1 by omega,<-jt hlt2,tP hlt2,HO]
    . have:k=st.length:=by omega
      subst this;rw[eV (by rw[cM];omega)]
  have copy:∀{l:List AQ},l.length<=1073741824->cN 56 ([]:List bA) (l.map AQ.to)=some (l.map AQ.to):=fun{l} hl=>by
    rw[dP (by rw[cP];simp only[dM];omega) (by decide)];rfl
  induction h with
  |leaf hD hk q hq hz hb=>
    rename_i base st kn;obtain⟨e,hke,hel⟩:=hD.pre;have hbk:oM n base:=by rw[hke]at hk;exact hk.sub
    refine Tm.succ ?_;show Tm (fun N=>sC N (sE N) _ _) _;unfold sC;refine Tm.bind (D4 (by rw[cP];have:=hbk.1;omega)) ?_;rintro _ rfl;refine cA (by simp[(Eg hb0 fun q hq=>(hbk.2 q hq).2).2]) (aN (copy hbk.1) (aT (steps hb0 hD hk rfl) ?_));dsimp only;refine db rfl ?_;refine Tm.bind (Q:=(·=.inr true)) (eG kn.length (fun k t=>t=(k:Int)/\∀j,j<k->xQ (aI kn j).to=false) ⟨rfl,fun j hj=>by omega⟩ ?_) ?_
    . rintro k hkk _ ⟨rfl,hj⟩;dsimp only[Da];rw[cP];refine aY (fun hlt=>?_) (fun hge=>aL ?_)
      . have hlt:k<kn.length:=by omega
        have hqk:=hk.2 _ (eL hlt);refine aN (nt hlt) (aT (Oc (K:=536870912) (by decide) (oki (by omega) hqk.2 hqk.1)) (aY (fun h=>aL rfl) (fun h=>aL ⟨hlt,dW (by have:=hk.1;omega),fun j hjk=>?_⟩)));rcases cw j k with h1|h1
        . exact hj j h1
        . obtain rfl:j=k:=by omega
          simpa using h
      . have hkl:k=kn.length:=by omega
        subst hkl;obtain⟨j,hjl,rfl⟩:=nk hq;have:=hj j hjl;rw[tP hjl]at this;have h2:xQ (kn[j]).to=true:=by
          unfold xQ;refine decide_eq_true ⟨fun b hb'=>?_,?_⟩
          . obtain⟨v,hv,rfl⟩:=dL.1 (show b∈(kn[j]).c.map B from hb');rw[gz];obtain⟨m,hm,rfl⟩:=gm hv;exact hz m (by have:=(hk.2 _ (dt hjl)).2;omega)
          . show bv (B _)<0;rw[gz];exact hb
        rw[h2]at this;cases this
    . rintro _ rfl;exact aL rfl
  |node hD hf hl hr ihl ihr=>
    rename_i base st kn f b l r;have hkl:=hl.kok;have hkr:=hr.kok;have hk:oM n kn:=hkl.sub;obtain⟨e,hke,hel⟩:=hD.pre;have hbk:oM n base:=by rw[hke]at hk;exact hk.sub
    have hkn0:kn≠[]:=by rw[hke];intro e';exact hb0 (Gc.1 e').1
    have hqf:fD 536870912 ⟨f,b⟩:=(hkl.2 _ (qW _ (cI.2 rfl))).1;have hkl1:=hkl.1;rw[cM,kq]at hkl1;refine Tm.succ ?_;show Tm (fun N=>sC N (sE N) _ _) _;unfold sC;refine Tm.bind (D4 (by rw[cP];have:=hbk.1;omega)) ?_;rintro _ rfl;refine cA (by simp[(Eg hb0 fun q hq=>(hbk.2 q hq).2).2]) (aN (copy hbk.1) (aT (steps hb0 hD hk rfl) ?_));dsimp only;refine cA (by show¬((2:Nat):Int)=0;omega) ?_;refine aT (a:=false) (cA (by show¬((2:Nat):Int)≠2;omega) (db (by rw[cP];have:=qX.2 hkn0;omega) (aN (nt (i:=0) (qX.2 hkn0)) (aL ?_)))) ?_
    . refine decide_eq_false ?_;show¬(((mB f).length:Int)≠((mB (aI kn 0).c).length:Int));rw[dE,dE,hf,(hk.2 _ (eL (qX.2 hkn0))).2];omega
    refine cA (by simp) ?_;have hb2:=hqf.2;refine Tm.bind (xh (x:=B b) (bL b) (show dl b<=_ by have:dl b<=536870912:=hb2;omega)) ?_;rintro nb ⟨hnb,hnbl⟩;refine Tm.bind (sD (n:=1) (by decide) (by decide)) ?_;rintro one ⟨h1,h1l⟩;have hnbl:nb.aP.length<=dl b:=hnbl;have hb3:dl b<=536870912:=hb2;refine Tm.bind (Jn hnb.dg.bL h1.dg.bL (by omega) (by omega)) ?_;rintro i ⟨hi,hil⟩;rw[hnb.bv,h1.bv,gz]at hi;refine aT (a:=(⟨bT f,-b-1⟩:AQ).to) ((Tz (K:=536870912) (q:=bA.mk (mB f) (B b)) (b:=i) (by decide) (by show(mB f).length<=_;rw[dE];omega) (fun x hx=>?_) hi.dg.bL (by omega)).mono fun r hr=>?_) ?_
    . obtain⟨v,hv,rfl⟩:=dL.1 (show x∈f.map B from hx);exact okB (hqf.1 v hv)
    . obtain⟨g1,g2⟩:=hr;rw[hi.bv]at g2;have e1:r.aZ=mB (bT f):=by
        refine iu.uniq (n:=n) (f:=fun j=>-vf f j) ?_ ?_
        . refine⟨g1.1.trans ((dE f).trans hf),fun j hj=>?_⟩;have:=g1.2 j (by show j<(mB f).length;rw[dE];omega);dsimp only at this;rw[AN,gz]at this;exact this
        . have:iu n (mB (vec n fun j=>-vf f j)) (fun j=>-vf f j):=JH;unfold bT;rw[hf];exact this
      have e2:r.dz=B (-b-1):=pf g2;cases r;dsimp only at e1 e2;subst e1;subst e2;rfl
    refine aN (copy hk.1) (aN (dP (by rw[cP,kq];omega) (by decide)) (aN (copy hk.1) (aN (dP (by rw[cP,kq];omega) (by decide)) (aN (a:=l.to) rfl ?_))));have el:=ihl (by simp);have er:=ihr (by simp);rw[HO]at el er;refine aT el (db rfl (aN (a:=r.to) rfl (aT er (aL rfl))))
end Go.D
set_option maxHeartbeats 1000000
namespace Go.D
open Go Go.X
def cB:Nat->Nat
 |0=>1
 |1=>1
 |2=>400000000
 |3=>10000
 |_=>50
def iB:Nat->Nat
 |0=>0
 |1=>2
 |2=>23870
 |3=>306
 |_=>32
def uB:Nat->Nat
 |0=>14937233000
 |1=>14937232900
 |2=>537232800
 |3=>536872800
 |_=>536870912
def lB:Nat->Nat
 |0=>10
 |1=>400
 |2=>542600000
 |3=>542700000
 |_=>542800000
def dB:Nat->Nat
 |0=>10
 |1=>1000
 |2=>400200000
 |3=>400300000
 |_=>400400000
theorem lev{f:Nat}(h:f+1<=4):f=0\/f=1\/f=2\/f=3:=by omega
theorem mc(f:Nat):cB f<=400000000/\1<=cB f:=by
 match f with
 |0=>decide
 |1=>decide
 |2=>decide
 |3=>decide
 |f+4=>exact⟨show 50<=_ by omega,show 1<=50 by omega⟩
theorem oh(f:Nat):iB f<=23870:=by
 match f with
 |0=>decide
 |1=>decide
 |2=>decide
 |3=>decide
 |f+4=>exact show 32<=_ by omega
theorem ze(f:Nat):536870912<=uB f/\uB f<=14937233000:=by
 match f with
 |0=>decide
 |1=>decide
 |2=>decide
 |3=>decide
 |f+4=>exact⟨show 536870912<=536870912 by omega,show 536870912<=_ by omega⟩
theorem HZ{u w m:Nat}(h:u+w<=m):4*(u*w)<=m*m:=by
 have h1:=iR h h;rcases Nat.le_total u w with h2|h2
 . obtain⟨d,rfl⟩:=MZ h2;have:(u+(u+d))*(u+(u+d))=4*(u*(u+d))+d*d:=by grind
   omega
 . obtain⟨d,rfl⟩:=MZ h2;have:(w+d+w)*(w+d+w)=4*((w+d)*w)+d*d:=by grind
   omega
theorem yp{v:Nat}:∀l:List AI,(cx v l).length+(dw v l).length+(l.filter fun x=>!decide (vf x.g v≠0)).length=l.length
 |[]=>rfl
 |x::l=>by
  have:=yp (v:=v) l;rcases tC (vf x.g v) 0 with h|h|h
  . have e1:cx v (x::l)=cx v l:=by unfold cx;rw[yL];simp;omega
    have e2:dw v (x::l)=x::dw v l:=by unfold dw;rw[Nv];simp[h]
    rw[e1,e2,yL (by simp;omega),cz,cz];omega
  . have e1:cx v (x::l)=cx v l:=by unfold cx;rw[yL];simp;omega
    have e2:dw v (x::l)=dw v l:=by unfold dw;rw[yL];simp;omega
    rw[e1,e2,Nv (by simp[h]),cz,cz];omega
  . have e1:cx v (x::l)=x::cx v l:=by unfold cx;rw[Nv];simp[h]
    have e2:dw v (x::l)=dw v l:=by unfold dw;rw[yL];simp;omega
    rw[e1,e2,yL (by simp;omega),cz,cz];omega
def ij(p:Nat->Bool):Nat->Nat
 |0=>0
 |n+1=>ij p n+if p n then 1 else 0
theorem LW{p q:Nat->Bool}:∀{n:Nat},(∀j,j<n->p j=q j)->ij p n=ij q n
 |0,_=>rfl
 |n+1,h=>by simp only[ij];rw[LW (n:=n) fun j hj=>h j (by omega),h n (by omega)]
theorem KB{p q:Nat->Bool}{v:Nat}:∀{n:Nat},v<n->p v=true->q v=false->(∀j,j<n->j≠v->q j=p j)->ij q n+1=ij p n
 |n+1,hv,h1,h2,h=>by
  simp only[ij];by_cases e:n=v
  . subst e;rw[LW (p:=q) (q:=p) (n:=n) fun j hj=>h j (by omega) (by omega),h1,h2];simp
  . rw[h n (by omega) e];have:=KB (n:=n) (by omega) h1 h2 fun j hj hjv=>h j (by omega) hjv;omega
theorem y9{p:Nat->Bool}{i:Nat}:∀{n:Nat},i<n->p i=true->1<=ij p n
 |n+1,hi,h=>by
  simp only[ij];by_cases e:n=i
  . subst e;rw[h];simp
  . have:=y9 (n:=n) (by omega) h;omega
theorem E6{p:Nat->Bool}{i j:Nat}:∀{n:Nat},ij p n<=1->i<n->j<n->p i=true->p j=true->i=j
 |n+1,hc,hi,hj,h1,h2=>by
  simp only[ij]at hc;by_cases e1:n=i
  . subst e1;by_cases e2:n=j
    . exact e2
    . rw[h1,if_pos rfl]at hc;have:=y9 (n:=n) (by omega) h2;omega
  . by_cases e2:n=j
    . subst e2;rw[h2,if_pos rfl]at hc;have:=y9 (n:=n) (by omega) h1;omega
    . exact E6 (n:=n) (by omega) (by omega) (by omega) h1 h2
def ik(s:St):Nat:=ij (fun j=>decide (vf s.status j=0)) s.n
theorem L8{s s':St}{v:Nat}{c:Int}(hn:s'.n=s.n)(hv:v<s.n)(h0:vf s.status v=0)(hc:c≠0)(h:∀j,vf s'.status j=if v=j then c else vf s.status j):ik s'+1=ik s:=by
 unfold ik;rw[hn];refine KB hv (by simp[h0]) (by rw[h,if_pos rfl];simp[hc]) fun j hj hjv=>?_;rw[h,if_neg fun e=>hjv e.symm]
theorem xg{s:St}(hI:Inv s){x:AI}(hx:x∈s.items):∃w,w<s.n/\vf x.g w≠0/\vf s.status w=0:=by
 refine jH fun h=>?_;have h1:=hI.gF x hx;have h2:(2:Int)∣((df x.g:Nat):Int):=pF fun v hv=>by
  obtain⟨j,hj,rfl⟩:=gm hv;have hj:j<s.n:=by rw[(hI.it x hx).2]at hj;exact hj
  have:vf x.g j=0:=jH fun e=>h ⟨j,hj,e,jH fun e2=>e (hI.nf x hx j hj e2)⟩;rw[this];exact yJ 2
 rw[h1]at h2;omega
theorem Ls{s:St}(hI:Inv s)(hf:ik s<=1){x:AI}(hx:x∈s.items):∃w,rO s.n x.g w/\vf s.status w=0/\(vf x.g w).natAbs=1:=by
 obtain⟨w,hw,hw0,hws⟩:=xg hI hx;have hS:rO s.n x.g w:=⟨hw,hw0,fun j hj hjw=>jH fun e=>by
  have hjs:vf s.status j=0:=jH fun e2=>e (hI.nf x hx j hj e2);exact hjw (E6 hf hj hw (by simp[hjs]) (by simp[hws]))⟩
 exact⟨w,hS,hws,CE (hI.it x hx).2 (hI.gF x hx) hS⟩
theorem A7{s:St}(hI:Inv s)(hf:ik s<=1):∀x∈s.items,∀j,j<s.n->(vf x.g j).natAbs<=1:=by
 intro x hx j hj;obtain⟨w,h1,_,h3⟩:=Ls hI hf hx;by_cases e:j=w
 . subst e;omega
 . rw[h1.2.2 j hj e];simp
theorem IF{s:St}(hI:Inv s)(hf:ik s<=1):s.items.length<=2:=by
 by_cases h0:∃w,w<s.n/\vf s.status w=0
 . obtain⟨w,hw,hws⟩:=h0;have hnd:(s.items.map AI.g).Nodup:=by unfold List.Nodup;rw[GK];exact hI.j2
   have:=Vd (l₂:=[vec s.n fun j=>if j=w then 1 else 0,vec s.n fun j=>if j=w then-1 else 0]) hnd (fun g hg=>by
    obtain⟨x,hx,rfl⟩:=dL.1 hg;obtain⟨w',h1,h2,h3⟩:=Ls hI hf hx;obtain rfl:w'=w:=E6 hf h1.1 hw (by simp[h2]) (by simp[hws]);have hxl:=(hI.it x hx).2;have key:∀c:Int,vf x.g w'=c->x.g=vec s.n fun j=>if j=w' then c else 0:=fun c hc=>l8 (by rw[hxl,fh]) fun j hj=>by
     rw[dK (by omega)];by_cases e:j=w'
     . subst e;rw[if_pos rfl,hc]
     . rw[if_neg e];exact h1.2.2 j (by omega) e
    rcases Int.natAbs_eq_iff.1 (show(vf x.g w').natAbs=(1:Nat) from h3)with h4|h4
    . rw[key 1 h4];simp
    . rw[key (-1) h4];simp)
   simpa using this
 . cases hi:s.items with
   |nil=>simp
   |cons x l=>
    obtain⟨w,h1,_,h3⟩:=xg hI (x:=x) (by rw[hi];simp);exact absurd ⟨w,h1,h3⟩ h0
theorem C0{s:St}(hI:Inv s)(hf:ik s=0):s.items=[]:=by
 cases hi:s.items with
 |nil=>rfl
 |cons x l=>
  obtain⟨w,h1,_,h3⟩:=xg hI (x:=x) (by rw[hi];simp);have:=y9 (p:=fun j=>decide (vf s.status j=0)) h1 (by simp[h3]);unfold ik at hf;omega
structure Good (sys base:List AQ)(f K:Nat)(s:St):Prop where
 inv:Inv s
 rf:RF sys s
 n:s.n<=4
 fr:ik s<=f
 co:∀x∈s.items,∀j,j<s.n->(vf x.g j).natAbs<=cB f
 q:∀q∈s.known,fD K q
 su:SU (uB f) s
 st:∀e∈s.stack,px s e
 jf:gX s.n base s.steps s.known
section
variable {sys base:List AQ} {f K:Nat} {s:St}
theorem yi{n C:Nat}{x:AI}(hl:x.g.length=n)(h:∀j,j<n->(vf x.g j).natAbs<=C)(hC:C<=4294967295):∀v∈x.g,dl v<=1:=fun v hv=>by
 obtain⟨j,hj,rfl⟩:=gm hv;exact jP (by have:=h j (by omega);omega)
theorem Good.mJ(h:Good sys base f K s){K':Nat}(hK:K<=K')(hK':K'<=1099511627000)(hkl:s.known.length<=1073741824)(hil:s.items.length<=1073741824):gv K' s:=by
 obtain⟨e,he,hel⟩:=h.jf.pre;refine⟨by have:=h.n;omega,hkl,by rw[he,cM]at hkl;omega,hil,fun q hq=>⟨(h.q q hq).mono hK,h.inv.kl q hq⟩,fun x hx=>?_,hK'⟩;obtain⟨x1,x2⟩:=h.inv.it x hx;exact⟨x1,x2,fun v hv=>bO (yi x2 (h.co x hx) (by have:=mc f;omega) v hv) (by decide)⟩
theorem Good.steps(h:Good sys base f K s):s.steps.length<=s.known.length:=by
 obtain⟨e,he,hel⟩:=h.jf.pre;rw[he,cM];omega
theorem Good.yM(h:Good sys base f K s)(hil:s.items.length<=1073741824):iy s.n s.items:=⟨hil,fun x hx=>by
 obtain⟨x1,x2⟩:=h.inv.it x hx;exact⟨x2,fun v hv=>bO (yi x2 (h.co x hx) (by have:=mc f;omega) v hv) (by decide)⟩⟩
theorem vn{Kk K:Nat}:∀(L:List Act) (s:St),gv K s->ji L.length s->(∀a∈L,lh Kk s a)->Kk+6<=K->gv K (bU s L).2
 |[],s,hs,_,_,_=>hs
 |.add x::r,s,hs,hr,hA,hK=>by
  obtain⟨h1,h2⟩:=Hj (m:=r.length) hs (hA _ cK) hr;exact vn r _ h1 h2 (fun a ha=>(hA a (cG _ ha)).app rfl (e:=[]) (by simp[add])) hK
 |.put g us::r,s,hs,hr,hA,hK=>by
  have hp:gD Kk s g us:=hA _ cK;obtain⟨h1,h2⟩:=Li (m:=r.length) hs hp hK hr;obtain⟨e,he,_⟩:=zu s g us;have e1:bU s (.put g us::r)=if(put s g us).1=true then bU (put s g us).2 r else(false,(put s g us).2):=rfl;rw[e1];split
  . exact vn r _ h1 h2 (fun a ha=>(hA a (cG _ ha)).app (AF s g us) he) hK
  . exact h1
theorem px.kept{s s':St}{e:AE}(h:px s e)(k:Kept s s'):px s' e:=by
 obtain⟨x,hx⟩:=k.kn;exact⟨h.il,by rw[k.n];exact h.v,fun p hp=>⟨by rw[hx,cM];have:=(h.p p hp).1;omega,by rw[k.u,k.n,hx,iF (h.p p hp).1];exact(h.p p hp).2⟩⟩
theorem SU.mono{K K':Nat}{s:St}(h:SU K s)(hK:K<=K'):SU K' s:=⟨⟨h.u.1,fun r hr=>⟨(h.u.2 r hr).1,fun v hv=>bO ((h.u.2 r hr).2 v hv) hK⟩⟩,h.st,⟨h.v.1,fun v hv=>bO (h.v.2 v hv) hK⟩⟩
theorem BM(hI:Inv s){n:Nat}(hn:s.n=n)(hD:gX n base s.steps s.known)(hkl:s.known.length<=1073741824)(hq:∀q∈s.known,fD 536870912 q)(hb:∃q∈s.known,(∀j,j<n->vf q.c j=0)/\q.b<0):Ref n base (.leaf s.steps):=by
 obtain⟨q,h1,h2,h3⟩:=hb;exact .leaf hD ⟨hkl,fun q hq'=>⟨hq q hq',by rw[hI.kl q hq',hn]⟩⟩ q h1 h2 h3
theorem H3{f M:Nat}(hf:f+1<=4)(hI:Inv s)(hfr:ik s<=f)(hM:M=4*(cB (f+1)*cB (f+1)))(h:∀z∈s.items,GB M z.g):∀x∈s.items,∀j,j<s.n->(vf x.g j).natAbs<=cB f:=by
 intro x hx j hj;have h1:(vf x.g j).natAbs<=M:=h x hx _ (fU (by rw[(hI.it x hx).2];exact hj));rcases lev hf with rfl|rfl|rfl|rfl
 . exact A7 hI (by omega) x hx j hj
 . exact A7 hI (by omega) x hx j hj
 . exact bO h1 (by rw[hM];decide)
 . exact bO h1 (by rw[hM];decide)
theorem G8{f m:Nat}(hf:f+1<=4)(hI:Inv s)(hfr:ik s<=f)(hm:m<=iB (f+1)+1)(h:s.items.length<=m+m*m/4):s.items.length<=iB f:=by
 have hmm:m*m<=(iB (f+1)+1)*(iB (f+1)+1):=iR hm hm;rcases lev hf with rfl|rfl|rfl|rfl
 . rw[C0 hI (by omega)];simp
 . exact IF hI (by omega)
 . have:iB (2+1)=306:=rfl;have:iB 2=23870:=rfl;rw[show iB (2+1)=306 from rfl]at hm hmm;omega
 . have:iB 3=306:=rfl;rw[show iB (3+1)=32 from rfl]at hm hmm;omega
theorem xX{f m:Nat}(hf:f+1<=4)(hm:m<=iB (f+1)+1):2*m+m*m/4+cB (f+1)+300+lB f<=lB (f+1):=by
 have hmm:m*m<=(iB (f+1)+1)*(iB (f+1)+1):=iR hm hm;rcases lev hf with rfl|rfl|rfl|rfl
 . rw[show iB (0+1)=2 from rfl]at hm hmm;rw[show cB (0+1)=1 from rfl,show lB 0=10 from rfl,show lB (0+1)=400 from rfl];omega
 . rw[show iB (1+1)=23870 from rfl]at hm hmm;rw[show cB (1+1)=400000000 from rfl,show lB 1=400 from rfl,show lB (1+1)=542600000 from rfl];omega
 . rw[show iB (2+1)=306 from rfl]at hm hmm;rw[show cB (2+1)=10000 from rfl,show lB 2=542600000 from rfl,show lB (2+1)=542700000 from rfl];omega
 . rw[show iB (3+1)=32 from rfl]at hm hmm;rw[show cB (3+1)=50 from rfl,show lB 3=542700000 from rfl,show lB (3+1)=542800000 from rfl];omega
theorem xk{f m:Nat}(hf:f+1<=4)(hm:m<=iB (f+1)+1):3*m+cB (f+1)+600+dB f<=dB (f+1):=by
 rcases lev hf with rfl|rfl|rfl|rfl
 . rw[show iB (0+1)=2 from rfl]at hm;rw[show cB (0+1)=1 from rfl,show dB 0=10 from rfl,show dB (0+1)=1000 from rfl];omega
 . rw[show iB (1+1)=23870 from rfl]at hm;rw[show cB (1+1)=400000000 from rfl,show dB 1=1000 from rfl,show dB (1+1)=400200000 from rfl];omega
 . rw[show iB (2+1)=306 from rfl]at hm;rw[show cB (2+1)=10000 from rfl,show dB 2=400200000 from rfl,show dB (2+1)=400300000 from rfl];omega
 . rw[show iB (3+1)=32 from rfl]at hm;rw[show cB (3+1)=50 from rfl,show dB 3=400300000 from rfl,show dB (3+1)=400400000 from rfl];omega
theorem Iq{f n:Nat}(hf:f+1<=4)(hn:n<=4):uB (f+1)+9*(n*cB (f+1))<=uB f:=by
 have h:=tm (cB (f+1)) hn;rcases lev hf with rfl|rfl|rfl|rfl
 . rw[show cB (0+1)=1 from rfl]at h⊢;rw[show uB 0=14937233000 from rfl,show uB (0+1)=14937232900 from rfl];omega
 . rw[show cB (1+1)=400000000 from rfl]at h⊢;rw[show uB 1=14937232900 from rfl,show uB (1+1)=537232800 from rfl];omega
 . rw[show cB (2+1)=10000 from rfl]at h⊢;rw[show uB 2=537232800 from rfl,show uB (2+1)=536872800 from rfl];omega
 . rw[show cB (3+1)=50 from rfl]at h⊢;rw[show uB 3=536872800 from rfl,show uB (3+1)=536870912 from rfl];omega
theorem Js(hI:Inv s)(hfr:ik s<=f)(h:s.items≠[]):0<f:=by
 refine Nat.pos_of_ne_zero fun e=>h (C0 hI (by omega))
def Nxt(sys base:List AQ)(f K L n:Nat)(dN:List AE)(r:Bool×aR):Prop:=∃s':St,r.2=s'.to/\s'.n=n/\((r.1=true/\Good sys base f K s'/\s'.items.length<=iB f/\s'.known.length<=L/\s'.stack=dN)\/(r.1=false/\Ref n base (.leaf s'.steps)))
theorem OT{s':St}(hI:Inv s)(h:gT s s'){p j:Nat}(hp:p<s.known.length)(hj:j<s.n)(hst:vf s.status j≠0):cu s'.u s'.n (aI s'.known p).c j=cu s.u s.n (aI s.known p).c j:=by
 obtain⟨e,he⟩:=h.kn;unfold cu;rw[h.n,he,iF hp];exact eD (fun _ _=>rfl) fun i hi=>(h.col j hj hst).2.2 i hi
theorem Hz{s':St}(hI:Inv s)(h:gT s s')(hs:s'.stack=s.stack)(hr:RF sys s):RF sys s':=
 ⟨h.R hr.R,fun k e hk ht=>h.F hI (by rw[<-hs];exact hk) (hr.F k e (by rw[<-hs];exact hk) ht)⟩
theorem Pk{i j m:Nat}(hf:f+1<=4)(h:Good sys base (f+1) K s)(hm:m<=iB (f+1)+1)(hil:s.items.length<=m)(hkl:s.known.length+m<=1073741824)(hK:K+6<=536870912)(he:sU s i j):
 Tm (fun N=>rG N s.to (i:Int) (j:Int)) (Nxt sys base f (K+6) (s.known.length+m) s.n s.stack):=by
 have hL:cZ=1099511627776:=rfl;have hC:=mc (f+1);have hmB:=oh (f+1);have hu:=ze (f+1);have hn:=h.n;have hsteps:=h.steps;have hso:=h.mJ (K':=K) (bK _) (by omega) (by omega) (by omega);have hso6:=h.mJ (K':=K+6) (by omega) (by omega) (by omega) (by omega);have hnC:s.n*cB (f+1)<=4*400000000:=iR hn hC.1;refine(Re h.inv hso h.su hn he h.co (by omega) (by omega) (by omega) (by omega) (by omega) (by omega)).mono ?_;rintro _ ⟨p,s1,hP,rfl⟩;have hlen:=Ke hP;have hAk:=HJ h.inv hso hn (by omega) hP he;have hinv1:=NQ h.inv hP;have hA:=vJ (K:=K) (M:=4*(cB (f+1)*cB (f+1))) (ed s1 i j p 0) (ez s1 i p) hinv1 (fun a ha=>(hAk a ha).2) (fun z hz=>by cases hz) fun a ha=>(hAk a ha).1.2;have hLl:=DT (s:=s1) (i:=i) (j:=j) (p:=p) s1.items.length 0 (by omega);have hok2:gv (K+6) (ez s1 i p):=⟨by show s1.n<=_;rw[hP.n];omega,by show s1.known.length<=_;rw[hP.kn];omega,by show s1.steps.length<=_;rw[hP.st];omega,by simp[ez],fun q hq=>by
  have hq:q∈s1.known:=hq;rw[hP.kn]at hq;exact⟨(h.q q hq).mono (by omega),by rw[h.inv.kl q hq];exact hP.n.symm⟩,fun x hx=>(by cases hx),by omega⟩
 have hsok:=vn (Kk:=K) (ed s1 i j p 0) (ez s1 i p) hok2 ⟨by show s1.known.length+_<=_;rw[hP.kn];omega,by show s1.steps.length+_<=_;rw[hP.st];omega,by show 0+_<=_;omega⟩ (fun a ha=>(hAk a ha).1.1) (bK _);have hkn':(ez s1 i p).known=s.known:=hP.kn;have hst':(ez s1 i p).steps=s.steps:=hP.st;have hn':(ez s1 i p).n=s.n:=hP.n;have hil':=hA.il;have hkl':=hA.kl;rw[hkn']at hkl';have hil'':(bU (ez s1 i p) (ed s1 i j p 0)).2.items.length<=m:=by
  have:(ez s1 i p).items.length=0:=rfl;omega
 have hder:gX s.n base (bU (ez s1 i p) (ed s1 i j p 0)).2.steps (bU (ez s1 i p) (ed s1 i j p 0)).2.known:=by
  have:=hA.jf base (by rw[hn',hst',hkn'];exact h.jf);rwa[hn']at this
 have hnn:(bU (ez s1 i p) (ed s1 i j p 0)).2.n=s.n:=hA.kept.n.trans hn';refine⟨_,rfl,hnn,?_⟩;cases hb:(bU (ez s1 i p) (ed s1 i j p 0)).1 with
 |false=>
  refine .inr ⟨rfl,BM hA.inv hnn hder (by omega) (fun q hq=>(hsok.k q hq).1.mono hK) ?_⟩;obtain⟨q,q1,q2,q3⟩:=hA.bad hb;exact⟨q,q1,fun j hj=>q2 j (by rw[hn'];exact hj),q3⟩
 |true=>
  rw[hb]at hA;have hsim:=PS h.inv hP he hA fun a ha=>(hAk a ha).2;have hstk:(bU (ez s1 i p) (ed s1 i j p 0)).2.stack=s.stack:=hA.kept.dN.trans hP.dN;have hfr:ik (bU (ez s1 i p) (ed s1 i j p 0)).2+1=ik s:=L8 (c:=1) hnn hP.pn hP.free (by decide) fun m=>by
   rw[hA.kept.status];show vf (s1.status.set p 1) m=_;rw[jR (by rw[hP.inv.fR,hP.n];exact hP.pn),hP.status]
  have hfr':ik (bU (ez s1 i p) (ed s1 i j p 0)).2<=f:=by have:=h.fr;omega
  refine .inl ⟨rfl,⟨hA.inv,Hz h.inv hsim hstk h.rf,by rw[hnn];exact hn,hfr',?_,fun q hq=>(hsok.k q hq).1,?_,fun e he'=>?_,by rw[hnn];exact hder⟩,?_,by omega,hstk⟩
  . exact H3 hf hA.inv hfr' rfl hA.gb
  . have hsu:=hP.su;have hup:=Iq (n:=s.n) hf hn;have hv:dl (aI s1.known (bD s1 i).pos).b<=uB f:=by
     have h1:=(hP.inv.it _ (gQ (nP hP i he.il).1)).1;have h2:=(h.q _ (by rw[<-hP.kn];exact eL h1)).2;have:=ze f;omega
    refine⟨⟨by rw[hA.kept.u,hnn];show s1.u.length=_;rw[hsu.u.1,hP.n],fun r hr=>?_⟩,by rw[hA.kept.status,hnn];show(s1.status.set p 1).length=_;rw[iS,hsu.st,hP.n],?_⟩
    . rw[hA.kept.u]at hr;have:=hsu.u.2 r hr;rw[hnn];exact⟨this.1.trans hP.n,fun v hv=>bO (this.2 v hv) (by omega)⟩
    . rw[hA.kept.value,hnn];show jQ s.n (uB f) (s1.value.set p _);refine⟨by rw[iS,hsu.v.1,hP.n],fun v hv'=>?_⟩;rcases pO hv' with hv'|rfl
      . exact bO (hsu.v.2 v hv') (by omega)
      . exact hv
  . rw[hstk]at he';have e0:=h.st e he';obtain⟨x,hx⟩:=hsim.kn;refine⟨e0.il,by rw[hnn];exact e0.v,fun q hq=>⟨by rw[hx,cM];have:=(e0.p q hq).1;omega,?_⟩⟩;rw[OT h.inv hsim (e0.p q hq).1 e0.v (by rw[(h.inv.sv e he').2.1];omega)];exact(e0.p q hq).2
  . exact G8 hf hA.inv hfr' hm (by have:m<=m+m*m/4:=Nat.le_add_right _ _;omega)
end
end Go.D
set_option maxHeartbeats 1000000
namespace Go.D
open Go Go.X
section
variable {sys base:List AQ} {f K:Nat} {s:St}
theorem Iz{s0:St}{v m:Nat}{t:Bool}{ats:List Nat}(hf:f+1<=4)(h:Good sys base (f+1) K s)(hI0:Inv s0)(hr0:RF sys s0)(hk:Kept s0 s)(hv:v<s.n)(hst:vf s.status v=0)(hats:w8 s v ats)(hatl:ats.length<=1073741824)
 (hcov:∀y,(∀x∈s.items,vf x.g v=0->IH s y x)->(∀p∈ats,hx s (ux s y) p)->∀x∈s0.items,IH s0 y x)
 (hF:t=false->∀y,AB s v y->∃z,∀p∈ats,hx s (ux s (cJ y v z)) p)
 (hm:m<=iB (f+1)+1)(hil:s.items.length<=m)(hkl:s.known.length+m*m/4<=1073741824)(hK:K+6<=536870912):
 Nxt sys base f (K+6) (s.known.length+m*m/4) s.n (s.stack++[⟨v,ats,t⟩]) ((bU (fu s v t ats) (cX s v)).1,(bU (fu s v t ats) (cX s v)).2.to):=by
 have hC:=mc (f+1);have hmB:=oh (f+1);have hn:=h.n;have hsteps:=h.steps;have hso:=h.mJ (K':=K) (bK _) (by omega) (by omega) (by omega);have hso6:=h.mJ (K':=K+6) (by omega) (by omega) (by omega) (by omega);have hsl:=yp (v:=v) s.items;have hLl:=Jb (s:=s) (v:=v);have hsq:=HZ (u:=(cx v s.items).length) (w:=(dw v s.items).length) (m:=m) (by omega);have hAk:=Hy (t:=t) (ats:=ats) h.inv hso hv h.co (by omega);have hinv1:=Inv.fu (t:=t) h.inv hv hst hats;have hgb0:∀z∈(fu s v t ats).items,GB (4*(cB (f+1)*cB (f+1))) z.g:=fun z hz w hw=>by
  obtain⟨z1,_⟩:=qh.1 hz;obtain⟨j,hj,rfl⟩:=gm hw;have:=h.co z z1 j (by rw[(h.inv.it z z1).2]at hj;exact hj);have h1:cB (f+1)*1<=cB (f+1)*cB (f+1):=Nat.mul_le_mul_left _ hC.2;omega
 have hA:=vJ (K:=K) (M:=4*(cB (f+1)*cB (f+1))) (cX s v) (fu s v t ats) hinv1 (fun a ha=>(hAk a ha).2) hgb0 fun a ha=>(hAk a ha).1.2;have hok2:gv (K+6) (fu s v t ats):=⟨hso6.n,hso6.kl,hso6.sl,bO (tz ..) hso6.il,hso6.k,fun x hx=>hso6.i x (qh.1 hx).1,hso6.K⟩;have hfil:(fu s v t ats).items.length=(s.items.filter fun x=>!decide (vf x.g v≠0)).length:=rfl;have hmm:m*m<=23871*23871:=iR (by omega) (by omega);have hsok:=vn (Kk:=K) (cX s v) (fu s v t ats) hok2 ⟨by show s.known.length+_<=_;omega,by show s.steps.length+_<=_;omega,by rw[hfil];omega⟩ (fun a ha=>(hAk a ha).1.1) (bK _);have hil':=hA.il;have hkl':_<=s.known.length+_:=hA.kl;have hil'':(bU (fu s v t ats) (cX s v)).2.items.length<=m+m*m/4:=by omega
 have hder:gX s.n base (bU (fu s v t ats) (cX s v)).2.steps (bU (fu s v t ats) (cX s v)).2.known:=hA.jf base h.jf;have hnn:(bU (fu s v t ats) (cX s v)).2.n=s.n:=hA.kept.n;refine⟨_,rfl,hnn,?_⟩;cases hb:(bU (fu s v t ats) (cX s v)).1 with
 |false=>exact .inr ⟨rfl,BM hA.inv hnn hder (by omega) (fun q hq=>(hsok.k q hq).1.mono hK) (hA.bad hb)⟩
 |true=>
  rw[hb]at hA;have hsim:=TO hI0 h.inv hk hv hst hcov hats hA;have hstk:(bU (fu s v t ats) (cX s v)).2.stack=s.stack++[⟨v,ats,t⟩]:=hA.kept.dN;have hfr:ik (bU (fu s v t ats) (cX s v)).2+1=ik s:=L8 (c:=2) hnn hv hst (by decide) fun m=>by
   rw[hA.kept.status];exact qx h.inv hv m
  have hfr':ik (bU (fu s v t ats) (cX s v)).2<=f:=by have:=h.fr;omega
  have hup:=Iq (n:=s.n) hf hn;refine .inl ⟨rfl,⟨hA.inv,⟨hsim.R hr0.R,fun k e hke ht=>?_⟩,by rw[hnn];exact hn,hfr',H3 hf hA.inv hfr' rfl hA.gb,fun q hq=>(hsok.k q hq).1,?_,fun e he'=>?_,by rw[hnn];exact hder⟩,G8 hf hA.inv hfr' hm hil'',by omega,hstk⟩
  . rw[hstk]at hke;rcases cw k s0.stack.length with hlt|hge
    . rw[hk.dN,jW hlt]at hke;exact hsim.F hI0 hke (hr0.F k e hke ht)
    . rw[hk.dN,ov hge]at hke;obtain rfl:⟨v,ats,t⟩=e:=by
       cases hd:k-s0.stack.length with
       |zero=>rw[hd]at hke;exact gY hke
       |succ d=>rw[hd]at hke;cases hke
      exact Rt h.inv hv hats hA (hF ht)
  . have hsu:=h.su.mono (K':=uB f) (by omega);refine⟨⟨by rw[hA.kept.u,hnn];exact hsu.u.1,fun r hr=>by rw[hA.kept.u]at hr;rw[hnn];exact hsu.u.2 r hr⟩,by rw[hA.kept.status,hnn];show(s.status.set v 2).length=_;rw[iS];exact hsu.st,by rw[hA.kept.value,hnn];exact hsu.v⟩
  . rw[hstk]at he';have hE:px s e:=by
     rcases fb.1 he' with he'|he'
     . exact h.st e he'
     . rw[cI.1 he'];exact⟨hatl,hv,fun p hp=>⟨(hats p hp).1,(hats p hp).2.2⟩⟩
    obtain⟨x,hx'⟩:=hA.kept.kn;exact⟨hE.il,by rw[hnn];exact hE.v,fun p hp=>⟨by rw[hx',cM];have:=(hE.p p hp).1;show p<s.known.length+_;omega,by rw[hA.kept.u,hnn,hx'];show cu s.u s.n (aI (s.known++x) p).c e.v≠0;rw[iF (hE.p p hp).1];exact(hE.p p hp).2⟩⟩
theorem Hh{v:Nat}{low:AI}{bR:List AI}(h:0<dZ v bR):(dZ v bR-1)*(-vf low.g v-1)<=dZ v bR*(gK v low bR+1):=by
 have h1:=qz (a:=dZ v bR*-vf low.g v-dZ v bR- -vf low.g v) h;unfold gK;generalize(dZ v bR*-vf low.g v-dZ v bR- -vf low.g v).fdiv (dZ v bR)=q at*;have e1:(dZ v bR-1)*(-vf low.g v-1)=dZ v bR*-vf low.g v-dZ v bR- -vf low.g v+1:=by grind
 have e2:dZ v bR*(q+1)=q*dZ v bR+dZ v bR:=by grind
 omega
theorem GR{a A b k:Int}(ha:0<a)(haA:a<=A)(hb:0<b)(h:(A-1)*(b-1)<=A*k):(a-1)*(b-1)<=a*max k 0:=by
 have hA:0<A:=by omega
 rcases vU k 0 with hk|hk
 . have h1:A*k<=A*0:=fZ hk (ee hA);have h2:=fm (show a-1<=A-1 by omega) (show 0<=b-1 by omega);rw[Nw hk];omega
 . rw[Int.max_eq_left hk];have h1:=fZ h (ee ha);have h2:A*(a-1)<=a*(A-1):=by
    have e1:A*(a-1)=a*A-A:=by grind
    have e2:a*(A-1)=a*A-a:=by grind
    omega
   have h3:=fm h2 (show 0<=b-1 by omega);have e1:a*((A-1)*(b-1))=a*(A-1)*(b-1):=by grind
   have e2:A*(a-1)*(b-1)=A*((a-1)*(b-1)):=by grind
   have e3:a*(A*k)=A*(a*k):=by grind
   exact GL (a:=A) (by omega) hA
theorem EU{v:Nat}{s:St}(h:cx v s.items≠[]):0<dZ v (cx v s.items):=by
 obtain⟨x,hx,e⟩:=EV (v:=v) h;rw[e];exact(j3.1 hx).2
theorem Sb{v:Nat}(hI:Inv s)(hv:v<s.n)(he:sG s v):∀y,AB s v y->∃z,∀p∈fe s v,hx s (ux s (cJ y v z)) p:=by
 intro y hp;obtain⟨z,h1,h2⟩:=Mr (y:=y) hv (fun w=>(aI s.known w.pos).b) (fun x hx w hw=>by
  have h0:=hp x hx w hw;have hne:cx v s.items≠[]:=GN hx;have hs:gK v w (cx v s.items)<0:=by
   rcases he with he|he
   . exact absurd he hne
   . exact he w hw
  have h3:=GR (j3.1 hx).2 (JO x hx) (show 0< -vf w.g v by have:=(im.1 hw).2;omega) (Hh (low:=w) (EU hne));rw[Nw (by omega)]at h3;omega)
 refine⟨z,fun p hp'=>?_⟩;obtain⟨x,hx',rfl⟩:=dL.1 hp';rcases fb.1 hx' with hx'|hx'
 . exact(u6 hI (j3.1 hx').1).1 (h1 x hx')
 . exact(u6 hI (im.1 hx').1).1 ((E2 hv).2 (h2 x hx'))
theorem Rv{v:Nat}(hI:Inv s):∀y,(∀x∈s.items,vf x.g v=0->IH s y x)->(∀p∈fe s v,hx s (ux s y) p)->∀x∈s.items,IH s y x:=by
 intro y h1 h2 x hx';by_cases h0:vf x.g v=0
 . exact h1 x hx' h0
 . refine(u6 hI hx').2 (h2 _ (dL.2 ⟨x,fb.2 ?_,rfl⟩));rcases tD h0 with h|h
   . exact .inr (im.2 ⟨hx',h⟩)
   . exact .inl (j3.2 ⟨hx',h⟩)
theorem Ij{v:Nat}:(fe s v).length<=s.items.length:=by
 have:=yp (v:=v) s.items;unfold fe;rw[cP,cM];omega
theorem MD{v m:Nat}{t:Bool}(h:Good sys base (f+1) K s)(hv:v<s.n)(hm:m<=iB (f+1)+1)(hil:s.items.length<=m)(hkl:s.known.length+m*m/4<=1073741824)(hK:K+6<=536870912):
 Tm (fun N=>nz N s.to (v:Int) t) (·=((bU (eI s v t) (cX s v)).1,(bU (eI s v t) (cX s v)).2.to)):=by
 have hC:=mc (f+1);have hmB:=oh (f+1);have hn:=h.n;have hsteps:=h.steps;have hso:=h.mJ (K':=K) (bK _) (by omega) (by omega) (by omega);have hso6:=h.mJ (K':=K+6) (by omega) (by omega) (by omega) (by omega);have hsl:=yp (v:=v) s.items;have hLl:=Jb (s:=s) (v:=v);have hsq:=HZ (u:=(cx v s.items).length) (w:=(dw v s.items).length) (m:=m) (by omega);have hmm:m*m<=23871*23871:=iR (by omega) (by omega);have hstl:=EG h.inv;have hAk:=Hy (t:=t) (ats:=fe s v) h.inv hso hv h.co (by omega);have hfl:(eI s v t).items.length<=s.items.length:=tz ..;have hr:ji (cX s v).length (eI s v t):=⟨by show s.known.length+_<=_;omega,by show s.steps.length+_<=_;omega,by omega⟩;exact Oz hso6 hv h.inv.fR (by omega) (bK _) (fun a ha=>(hAk a ha).1.1) hr
theorem LQ{v m:Nat}{t:Bool}(hf:f+1<=4)(h:Good sys base (f+1) K s)(hv:v<s.n)(hst:vf s.status v=0)(he:t=false->sG s v)(hm:m<=iB (f+1)+1)(hil:s.items.length<=m)(hkl:s.known.length+m*m/4<=1073741824)(hK:K+6<=536870912):
 Tm (fun N=>nz N s.to (v:Int) t) (Nxt sys base f (K+6) (s.known.length+m*m/4) s.n (s.stack++[⟨v,fe s v,t⟩])):=by
 have hmB:=oh (f+1);refine(MD h hv hm hil hkl hK).mono fun r hr'=>?_;rw[hr',Rm];exact Iz hf h h.inv h.rf (Kept.refl s) hv hst (IG h.inv hv) (bO Ij (by omega)) (Rv h.inv) (fun ht=>Sb h.inv hv (he ht)) hm hil hkl hK
theorem Rf{s':St}(hI:Inv s)(k:Kept s s')(hi:∀y,(∀x∈s'.items,IH s' y x)->∀x∈s.items,IH s y x):gT s s':=by
 obtain⟨e,he⟩:=k.kn;have hux:∀y i,ux s' y i=ux s y i:=fun y i=>by unfold ux;rw[k.u,k.n]
 refine⟨k.n,⟨e,he⟩,⟨[],by rw[k.dN];simp⟩,fun j hj hs=>⟨by rw[k.status],fun _=>by rw[k.value],fun i _=>by rw[k.u]⟩,fun y=>⟨y,fun i _=>hux y i,fun _ _ _=>rfl,fun m hm ⟨h1,h2,h3⟩=>⟨fun j hj hs=>?_,hi y h2,fun e' he' p hp=>?_⟩⟩⟩
 . have:=h1 j (by rw[k.n];exact hj) (by rw[k.status];exact hs);rw[this,k.value]
 . have:=h3 e' (by rw[k.dN];exact he') p hp;exact(sc k.n he ((hI.sv e' (Gm he')).2.2 p hp) fun i _=>hux y i).1 this
theorem CW{s':St}{base':List AQ}{K':Nat}(h:Good sys base f K s)(k:Kept s s')(hI':Inv s')(hi:∀y,(∀x∈s'.items,IH s' y x)->∀x∈s.items,IH s y x)(hco:∀x∈s'.items,∀j,j<s.n->(vf x.g j).natAbs<=cB f)
 (hq:∀q∈s'.known,fD K' q)(hder:gX s'.n base' s'.steps s'.known):Good sys base' f K' s' where
 inv:=hI'
 rf:=Hz h.inv (Rf h.inv k hi) k.dN h.rf
 n:=by rw[k.n];exact h.n
 fr:=by have:=h.fr;unfold ik at*;rw[k.n,k.status];exact this
 co x hx j hj:=hco x hx j (by rw[<-k.n];exact hj)
 q:=hq
 su:=⟨⟨by rw[k.u,k.n];exact h.su.u.1,fun r hr=>by rw[k.u]at hr;rw[k.n];exact h.su.u.2 r hr⟩,by rw[k.status,k.n];exact h.su.st,by rw[k.value,k.n];exact h.su.v⟩
 st e he:=(h.st e (by rw[<-k.dN];exact he)).kept k
 jf:=hder
theorem Lr(s:St)(q:AQ):Kept s (cO s q):=⟨rfl,rfl,rfl,rfl,rfl,[q],rfl⟩
theorem tZ{q:AQ}{K':Nat}(h:Good sys base f K s)(hl:q.c.length=s.n)(hq:fD K' q)(hK:K<=K'):Good sys (s.known++[q]) f K' (cO s q):=by
 refine CW h (Lr s q) (h.inv.known (e:=[q]) rfl fun q' hq'=>by rw[cI.1 hq'];exact hl) (fun y hy x hx'=>(yr (s:=s) (s':=cO s q) rfl (e:=[q]) rfl (h.inv.it x hx').1).1 (hy x hx')) h.co (fun q' hq'=>?_) .nil;rcases fb.1 hq' with hq'|hq'
 . exact(h.q q' hq').mono hK
 . rw[cI.1 hq'];exact hq
theorem NO{x:AI}(h:Good sys base f K s)(hx:kA s x)(hco:∀j,j<s.n->(vf x.g j).natAbs<=cB f):Good sys base f K (add s x):=
 CW h (C3 s x) (h.inv.add hx) (fun y hy=>(zC (s:=s) (x:=x) (y:=y) (l:=s.items) hy).1) (fun z hz j hj=>(mi hz).elim (fun e=>by subst e;exact hco j hj) fun hz=>h.co z hz j hj) h.q h.jf
def mX(s:St)(p p':Nat):St:={s with items:=sH s.items p p'}
theorem BZ{l:List AI}{p p':Nat}{x:AI}:x∈sH l p p'↔∃y∈l,(if y.pos=p then{y with pos:=p'}else y)=x:=dL
theorem Ii(s:St)(p p':Nat):Kept s (mX s p p'):=⟨rfl,rfl,rfl,rfl,rfl,[],by simp[mX]⟩
theorem UL{p p':Nat}(h:Good sys base f K s)(hp:p'<s.known.length)(hc:(aI s.known p').c=(aI s.known p).c)(hb:(aI s.known p').b<=(aI s.known p).b):Good sys base f K (mX s p p'):=by
 have key:∀x∈(mX s p p').items,∃y∈s.items,x.g=y.g/\(x=y\/(y.pos=p/\x.pos=p')):=fun x hx'=>by
  obtain⟨y,hy,rfl⟩:=BZ.1 hx';split
  . rename_i e;exact⟨y,hy,rfl,.inr ⟨e,rfl⟩⟩
  . exact⟨y,hy,rfl,.inl rfl⟩
 refine CW h (Ii s p p') ⟨h.inv.ul,h.inv.fR,h.inv.vl,h.inv.kl,fun x hx'=>?_,fun x hx' j hj=>?_,fun x hx'=>?_,fun x hx'=>?_,?_,h.inv.kp,h.inv.stat,h.inv.sv,h.inv.s2,h.inv.sd⟩ (fun y hy x hx'=>?_) (fun x hx' j hj=>?_) h.q h.jf
 . obtain⟨y,hy,e1,e2⟩:=key x hx';refine⟨?_,by rw[e1];exact(h.inv.it y hy).2⟩;rcases e2 with rfl|⟨_,e3⟩
   . exact(h.inv.it x hy).1
   . rw[e3];exact hp
 . obtain⟨y,hy,e1,e2⟩:=key x hx';rw[e1,h.inv.dp y hy j hj];rcases e2 with rfl|⟨e4,e3⟩
   . rfl
   . rw[e3,e4];show _=cu s.u s.n (aI s.known p').c j;rw[hc]
 . obtain⟨y,hy,e1,_⟩:=key x hx';rw[e1];exact h.inv.nf y hy
 . obtain⟨y,hy,e1,_⟩:=key x hx';rw[e1];exact h.inv.gF y hy
 . show(s.items.map _).Pairwise _;rw[GK];refine h.inv.j2.imp fun{a b} hab=>?_;have e:∀z:AI,(if z.pos=p then({z with pos:=p'}:AI)else z).g=z.g:=fun z=>by split<;>rfl
   rw[e,e];exact hab
 . have h1:=hy _ (BZ.2 ⟨x,hx',rfl⟩);unfold IH at h1⊢;split at h1
   . rename_i e;have h1:bE (vf x.g) y s.n<=(aI s.known p').b:=h1;rw[e];omega
   . exact h1
 . obtain⟨y,hy,e1,_⟩:=key x hx';rw[e1];exact h.co y hy j hj
theorem Og{g:List Int}(h:df g=1):df (bT g)=1:=by
 have h1:((df (bT g):Nat):Int)∣((df g:Nat):Int):=pF fun v hv=>by
  have h2:-v∈bT g:=by
   obtain⟨j,hj,rfl⟩:=gm hv;rw[<-ir];exact fU (by rw[iX];exact hj)
  exact(Int.dvd_neg).1 (rE h2)
 rw[h]at h1;exact GJ (Nq.1 h1)
theorem R7{x:AI}{b:Int}(h:Good sys base f K s)(hx':x∈s.items):kA (cO s ⟨(aI s.known x.pos).c,b⟩) ⟨s.known.length,x.g⟩:=by
 refine⟨by show s.known.length<(s.known++[_]).length;simp,(h.inv.it x hx').2,fun j hj=>?_,h.inv.nf x hx',h.inv.gF x hx'⟩;rw[show aI (cO s ⟨(aI s.known x.pos).c,b⟩).known s.known.length=⟨(aI s.known x.pos).c,b⟩ from oL];exact h.inv.dp x hx' j hj
theorem He{x:AI}{b:Int}(h:Good sys base f K s)(hx':x∈s.items):kA (cO s ⟨bT (aI s.known x.pos).c,b⟩) ⟨s.known.length,bT x.g⟩:=by
 refine⟨by show s.known.length<(s.known++[_]).length;simp,(iX _).trans (h.inv.it x hx').2,fun j hj=>?_,fun j hj hst=>?_,Og (h.inv.gF x hx')⟩
 . rw[show aI (cO s ⟨bT (aI s.known x.pos).c,b⟩).known s.known.length=⟨bT (aI s.known x.pos).c,b⟩ from oL];show vf (bT x.g) j=cu s.u s.n (bT (aI s.known x.pos).c) j;rw[ir,h.inv.dp x hx' j hj,BY (c:=bT (aI s.known x.pos).c) (k:=-1) (a:=(aI s.known x.pos).c) fun i hi=>by rw[ir];omega];omega
 . rw[ir,h.inv.nf x hx' j hj hst];rfl
theorem BG{K:Nat}{c:List Int}(h:∀v∈c,dl v<=K):∀v∈bT c,dl v<=K:=fun v hv=>by
 rw[<-fV];exact h _ (C7 hv)
theorem zY{kn:List AQ}{x:AI}:∀{l:List AI},(∃y∈l,y.g=x.g)->(eh kn x l).length=l.length
 |[],h=>by obtain⟨y,hy,_⟩:=h;cases hy
 |z::l,h=>by
  rw[eh];split
  . split<;>simp
  . rename_i e;obtain⟨y,hy,e2⟩:=h;rcases dT.1 hy with rfl|hy
    . exact absurd e2.symm e
    . rw[cz,zY ⟨y,hy,e2⟩,cz]
theorem C9{kn:List AQ}{x:AI}:∀{l:List AI},∃y∈eh kn x l,y.g=x.g/\(aI kn y.pos).b<=(aI kn x.pos).b
 |[]=>⟨x,by simp[eh],rfl,lK _⟩
 |z::l=>by
  rw[eh];split
  . rename_i e;split
    . exact⟨x,cK,rfl,lK _⟩
    . exact⟨z,cK,e.symm,by omega⟩
  . obtain⟨y,hy,h⟩:=C9 (kn:=kn) (x:=x) (l:=l);exact⟨y,cG _ hy,h⟩
theorem LR{kn:List AQ}{x z:AI}:∀{l:List AI},z∈l->z.g≠x.g->z∈eh kn x l
 |w::l,h,hne=>by
  rw[eh];rcases dT.1 h with rfl|h
  . rw[if_neg fun e=>hne e.symm];exact cK
  . split
    . split
      . exact cG _ h
      . exact cG _ h
    . exact cG _ (LR h hne)
end
end Go.D
set_option maxHeartbeats 1000000
namespace Go.D
open Go Go.X
inductive fE (sys base:List AQ)(n:Nat)(dN:List AE):bX->Prop where
 |solved (x:List Int) (hl:x.length=n) (hd:∀v∈x,dl v<=137438953472) (hs:∀q∈sys,lq n (vf x) q):fE sys base n dN (bX.mk 0 (mB x) rF 0)
 |iN (p:kW) (h:Ref n base p):fE sys base n dN (bX.mk 1 [] p.to 0)
 |failed (e:AE) (he:e∈dN) (ht:e.dA=true):fE sys base n dN (bX.mk 2 [] rF (e.v:Int))
theorem fE.up{sys base base':List AQ}{n:Nat}{dN:List AE}{r:bX}(h:fE sys base' n dN r)(hk:r.kind≠1):fE sys base n dN r:=by
 cases h with
 |solved x hl hd hs=>exact .solved x hl hd hs
 |iN p h=>exact absurd rfl hk
 |failed e he ht=>exact .failed e he ht
theorem fE.ref{sys base:List AQ}{n:Nat}{dN:List AE}{r:bX}(h:fE sys base n dN r)(hk:¬r.kind≠1):∃p:kW,Ref n base p/\r=bX.mk 1 [] p.to 0:=by
 cases h with
 |solved x hl hd hs=>exact absurd (show(0:Int)≠1 by decide) hk
 |iN p h=>exact⟨p,h,rfl⟩
 |failed e he ht=>exact absurd (show(2:Int)≠1 by decide) hk
theorem Tm.shift{α:Type}{f:Nat->Option α}{Q:α->Prop}(h:Tm f Q):Tm (fun N=>f (N+1)) Q:=by
 obtain⟨a,N0,hQ,hN⟩:=h;exact⟨a,N0,hQ,fun N h=>hN (N+1) (by omega)⟩
def lr(σ:Nat->Nat):Nat->Nat
 |0=>0
 |n+1=>lr σ n+σ n
theorem K4{σ τ:Nat->Nat}:∀{n:Nat},(∀j,j<n->σ j=τ j)->lr σ n=lr τ n
 |0,_=>rfl
 |n+1,h=>by simp only[lr];rw[K4 (n:=n) fun j hj=>h j (by omega),h n (by omega)]
theorem HK{σ τ:Nat->Nat}{w:Nat}:∀{n:Nat},w<n->(∀j,j<n->j≠w->τ j=σ j)->τ w<σ w->lr τ n<lr σ n
 |n+1,hw,h,hlt=>by
  simp only[lr];by_cases e:n=w
  . subst e;rw[K4 (σ:=τ) (τ:=σ) (n:=n) fun j hj=>h j (by omega) (by omega)];omega
  . have:=HK (n:=n) (by omega) (fun j hj=>h j (by omega)) hlt;rw[h n (by omega) e];omega
def lW(n:Nat)(c:Int)(g:List Int)(w:Nat):Prop:=∀j,j<n->vf g j=if j=w then c else 0
def uC(μ:Nat)(s:St):Prop:=∃σ:Nat->Nat,(∀j,σ j<=65)/\lr σ s.n<=μ/\∀j,j<s.n->∀x∈s.items,∀y∈s.items,lW s.n 1 x.g j->lW s.n (-1) y.g j->(aI s.known x.pos).b+(aI s.known y.pos).b<=64->(aI s.known x.pos).b+(aI s.known y.pos).b<=σ j
theorem Bl{s:St}(hn:s.n<=4):uC 260 s:=by
 refine⟨fun _=>65,fun _=>bK _,?_,fun j _ x _ y _ _ _ h=>by dsimp only;omega⟩;have:∀n,lr (fun _=>65) n=65*n:=fun n=>by induction n with
  |zero=>rfl
  |succ n ih=>simp only[lr,ih];omega
 rw[this];omega
theorem lW.inj{n:Nat}{c:Int}{a b:List Int}{j:Nat}(ha:lW n c a j)(hb:lW n c b j)(la:a.length=n)(lb:b.length=n):a=b:=l8 (by rw[la,lb]) fun i hi=>by rw[ha i (by omega),hb i (by omega)]
theorem lW.at{n:Nat}{c:Int}{a:List Int}{j w:Nat}(ha:lW n c a j)(hb:lW n c a w)(hc:c≠0)(hj:j<n):j=w:=by
 have h1:=ha j hj;have h2:=hb j hj;rw[if_pos rfl]at h1;by_cases e:j=w
 . exact e
 . rw[if_neg e]at h2;omega
theorem wV{s:St}(hI:Inv s){x y:AI}(hx:x∈s.items)(hy:y∈s.items)(h:x.g=y.g):x=y:=by
 obtain⟨i,hi,rfl⟩:=nk hx;obtain⟨j,hj,rfl⟩:=nk hy;have hd:=Ns.1 hI.j2;rcases Nk i j with h1|h1|h1
 . exact absurd h (hd i j hi hj h1)
 . subst h1;rfl
 . exact absurd h.symm (hd j i hj hi h1)
theorem KN{s:St}(hI:Inv s){x y:AI}(hx:x∈s.items)(hy:y∈s.items)(h:x.pos=y.pos):x=y:=by
 refine wV hI hx hy (l8 ((hI.it x hx).2.trans (hI.it y hy).2.symm) fun j hj=>?_);have hj:j<s.n:=by rw[(hI.it x hx).2]at hj;exact hj
 rw[hI.dp x hx j hj,hI.dp y hy j hj,h]
section
variable {sys base:List AQ} {f K μ:Nat} {s:St}
def l9(sys:List AQ)(f μ:Nat)(R:Nat->aR->Option bX):Prop:=∀(base:List AQ) (K:Nat) (s:St),Good sys base f K s->uC μ s->s.items.length<=iB f->s.known.length+μ+lB f<=1073741824->K+2*μ+dB f<=536870912->Tm (fun N=>R N s.to) (fE sys base s.n s.stack)
theorem l9.shift{R:Nat->aR->Option bX}(h:l9 sys f μ R):l9 sys f μ fun N=>R (N+1):=fun base K s h1 h2 h3 h4 h5=>Tm.shift (f:=fun N=>R N s.to) (h base K s h1 h2 h3 h4 h5)
theorem FU{q:AQ}{g:List Int}(h:Good sys base f K s)(hS:kA (cO s q) ⟨s.known.length,g⟩){K':Nat}(hq:fD K' q)(hql:q.c.length=s.n)(hK:K<=K')(hco:∀j,j<s.n->(vf g j).natAbs<=cB f):
 Good sys (s.known++[q]) f K' (add (cO s q) ⟨s.known.length,g⟩)/\
 (∀z∈(add (cO s q) ⟨s.known.length,g⟩).items,z.g≠g->z∈s.items)/\
 (∀z∈(add (cO s q) ⟨s.known.length,g⟩).items,z.g=g->(aI (s.known++[q]) z.pos).b<=q.b):=by
 have hG:=NO (tZ h hql hq hK) hS hco;refine⟨hG,fun z hz hne=>?_,fun z hz he=>?_⟩
 . rcases mi (show z∈eh _ _ s.items from hz)with rfl|hz
   . exact absurd rfl hne
   . exact hz
 . obtain⟨y,hy,y1,y2⟩:=C9 (kn:=s.known++[q]) (x:=⟨s.known.length,g⟩) (l:=s.items);obtain rfl:z=y:=wV hG.inv hz hy (he.trans y1.symm);rw[show(aI (s.known++[q]) s.known.length)=q from oL]at y2;exact y2
theorem Te{q:AQ}{g:List Int}(h:oZ s)(hG:Good sys (s.known++[q]) f K (cO s q))(hil:s.items.length<=1073741824)(hkl:s.known.length+1<=1073741824)(hK:K<=1099511627000)(hg:pH (cO s q) ⟨s.known.length,g⟩){R:Nat->aR->aR->Option bX}{Q:bX->Prop}
 (k:Tm (fun N=>R N (cO s q).to (add (cO s q) ⟨s.known.length,g⟩).to) Q):
 Tm (fun N=>(mV N s.to q.to).bind fun r5=>(kR N r5 (aX.mk (iw ((List.length r5.known:Int)-1)) (mB g))).bind fun r6=>R N r5 r6) Q:=by
 refine aT (tI h) ?_;have e:aX.mk (iw ((List.length (cO s q).to.known:Int)-1)) (mB g)=AI.to ⟨s.known.length,g⟩:=by
  show aX.mk (iw ((((s.known++[q]).map AQ.to).length:Int)-1)) (mB g)=aX.mk (s.known.length:Int) (mB g);congr 1;rw[cP,cM,kq,bJ]<;>omega
 rw[e];exact aT (uS (K:=K) (hG.mJ (bK _) hK (by show(s.known++[q]).length<=_;rw[cM,kq];omega) hil) hg) k
theorem FT{x:AI}{f:Nat}(hS:kA s x)(hco:∀j,j<s.n->(vf x.g j).natAbs<=cB f):pH s x:=⟨hS.pos,hS.gl,fun v hv=>bO (yi hS.gl hco (by have:=mc f;omega) v hv) (by decide)⟩
theorem P7{R:Nat->aR->Option bX}(hf:f<=4)(hR:∀μ',μ'<μ->l9 sys f μ' R)(h:Good sys base f K s)(hσ:uC μ s)(hil:s.items.length<=iB f)(hkl:s.known.length+μ+lB f<=1073741824)(hK:K+2*μ+dB f<=536870912)
    {x y:AI}{w:Nat}(hx':x∈s.items)(hy':y∈s.items)(hw:w<s.n)(hxu:lW s.n 1 x.g w)(hyu:lW s.n (-1) y.g w)(h1:0<(aI s.known x.pos).b+(aI s.known y.pos).b)(h64:(aI s.known x.pos).b+(aI s.known y.pos).b<=64):
    Tm (fun N=>xN N (R N) s.to ⟨x.to,B (-(aI s.known y.pos).b),B (aI s.known x.pos).b⟩) (fE sys base s.n s.stack):=by
  have hL:cZ=1099511627776:=rfl;have hC:=mc f;have hn:=h.n;have hmB:=oh f;obtain⟨σ,σ1,σ2,σ3⟩:=hσ;have hσw:=σ3 w hw x hx' y hy' hxu hyu h64;have hcp:oZ s:=h.inv.cp hn (by omega) (by omega);obtain⟨x1,x2⟩:=h.inv.it x hx';obtain⟨y1,y2⟩:=h.inv.it y hy';have hqx:=h.q _ (eL x1);have dbx:=hqx.2;have dby:=(h.q _ (eL y1)).2;have hxy:y.g=bT x.g:=l8 (by rw[iX,x2,y2]) fun j hj=>by
    rw[ir,hyu j (by omega),hxu j (by omega)];split<;>rfl
  have hxny:x.g≠bT x.g:=fun e=>by
    have:=congrArg (fun l=>vf l w) e;simp only[ir]at this;have:=hxu w hw;rw[if_pos rfl]at this;omega
  have hcl:(aI s.known x.pos).c.length=s.n:=h.inv.kl _ (eL x1);generalize hbx:(aI s.known x.pos).b=bx at*;generalize hby:(aI s.known y.pos).b=bY at*;have hm:=qz (a:=-bY+bx) (p:=2) (by decide);have dsum:dl (-bY+bx)<=K+1:=oO (by rw[fV];exact dby) dbx;have dm:=rh (-bY+bx) 2;generalize hmm:(-bY+bx).fdiv 2=m at*;have d2:dl (2:Int)<=1:=jP (by decide);have dm1:dl (-m-1)<=K+2:=jU (K:=K+1) (by rw[fV];omega) (bO jw (by omega));have hlt:lr (fun j=>if j=w then(bx+bY-1).toNat else σ j) s.n<lr σ s.n:=HK hw (fun j _ hj=>if_neg hj) (by
    show(if w=w then(bx+bY-1).toNat else σ w)<σ w;rw[if_pos rfl];omega)
  have hspn:∀(q:AQ) (g:List Int),(∀z∈(add (cO s q) ⟨s.known.length,g⟩).items,z.g≠g->z∈s.items)->(∀z∈(add (cO s q) ⟨s.known.length,g⟩).items,z.g=g->(aI (s.known++[q]) z.pos).b<=q.b)->
      ((g=x.g/\q.b+bY<=bx+bY-1)\/(g=bT x.g/\bx+q.b<=bx+bY-1))->uC (μ-1) (add (cO s q) ⟨s.known.length,g⟩):=by
    intro q g ho hb hg;have hold:∀z∈s.items,(aI (s.known++[q]) z.pos).b=(aI s.known z.pos).b:=fun z hz=>by rw[iF (h.inv.it z hz).1]
    refine⟨fun j=>if j=w then(bx+bY-1).toNat else σ j,fun j=>?_,?_,fun j hj x' hx2 y' hy2 hxu' hyu' hs=>?_⟩
    . dsimp only;split
      . omega
      . exact σ1 j
    . show lr _ s.n<=μ-1;omega
    . have hj:j<s.n:=hj;have hxu':lW s.n 1 x'.g j:=hxu';have hyu':lW s.n (-1) y'.g j:=hyu';have hs:(aI (s.known++[q]) x'.pos).b+(aI (s.known++[q]) y'.pos).b<=64:=hs;show(aI (s.known++[q]) x'.pos).b+(aI (s.known++[q]) y'.pos).b<=((if j=w then(bx+bY-1).toNat else σ j:Nat):Int);have hcases:∀z∈(add (cO s q) ⟨s.known.length,g⟩).items,z.g.length=s.n:=fun z hz=>by
        by_cases e:z.g=g
        . rw[e];rcases hg with⟨e2,_⟩|⟨e2,_⟩
          . rw[e2];exact x2
          . rw[e2,iX];exact x2
        . exact(h.inv.it z (ho z hz e)).2
      by_cases e:j=w
      . subst e;rw[if_pos rfl];have ex:x'.g=x.g:=hxu'.inj hxu (hcases x' hx2) x2;have ey:y'.g=y.g:=hyu'.inj hyu (hcases y' hy2) y2;rcases hg with⟨e2,hq2⟩|⟨e2,hq2⟩
        . have b1:=hb x' hx2 (ex.trans e2.symm);have hyo:y'∈s.items:=ho y' hy2 (by rw[ey,e2,hxy];exact fun e3=>hxny e3.symm);have:y'=y:=wV h.inv hyo hy' ey;rw[this,hold y hy',hby];omega
        . have b1:=hb y' hy2 (by rw[ey,e2,hxy]);have hxo:x'∈s.items:=ho x' hx2 (by rw[ex,e2];exact hxny);have:x'=x:=wV h.inv hxo hx' ex;rw[this,hold x hx',hbx];omega
      . rw[if_neg e];have nx:x'.g≠g:=fun e3=>by
          rcases hg with⟨e2,_⟩|⟨e2,_⟩
          . exact e (hxu'.at (w:=w) (by rw[e3,e2];exact hxu) (by decide) hj)
          . have h4:=hxu' j hj;rw[if_pos rfl,e3,e2,ir,hxu j hj,if_neg e]at h4;omega
        have ny:y'.g≠g:=fun e3=>by
          rcases hg with⟨e2,_⟩|⟨e2,_⟩
          . have h4:=hyu' j hj;rw[if_pos rfl,e3,e2,hxu j hj,if_neg e]at h4;omega
          . exact e (hyu'.at (w:=w) (by rw[e3,e2,<-hxy];exact hyu) (by decide) hj)
        have hxo:=ho x' hx2 nx;have hyo:=ho y' hy2 ny;rw[hold x' hxo,hold y' hyo]at hs⊢;exact σ3 j hj x' hxo y' hyo hxu' hyu' hs
  have hμ:0<μ:=by omega
  have hkl1:∀q:AQ,(s.known++[q]).length=s.known.length+1:=fun q=>by simp
  have hq1:fD (K+2) ⟨(aI s.known x.pos).c,m⟩:=⟨fun v hv=>bO (hqx.1 v hv) (by omega),by show dl m<=_;omega⟩;have hS1:=R7 (b:=m) h hx';obtain⟨g1,g2,g3⟩:=FU h hS1 hq1 hcl (by omega) (h.co x hx');have hl1:(add (cO s ⟨(aI s.known x.pos).c,m⟩) ⟨s.known.length,x.g⟩).items.length<=iB f:=by
    show(eh _ _ s.items).length<=_;rw[zY (x:=⟨s.known.length,x.g⟩) ⟨x,hx',rfl⟩];exact hil
  have hrun1:=hR (μ-1) (by omega) _ _ _ g1 (hspn _ _ g2 g3 (.inl ⟨rfl,by show m+bY<=_;omega⟩)) hl1 (by show(s.known++[_]).length+_+_<=_;rw[hkl1];omega) (by omega);have hq2:fD (K+2) ⟨bT (aI s.known x.pos).c,-m-1⟩:=⟨BG fun v hv=>bO (hqx.1 v hv) (by omega),dm1⟩;have hS2:=He (b:=-m-1) h hx';have hco2:∀j,j<s.n->(vf (bT x.g) j).natAbs<=cB f:=fun j hj=>by rw[ir,Cm];exact h.co x hx' j hj
  have hcl2:(bT (aI s.known x.pos).c).length=s.n:=(iX _).trans hcl;obtain⟨k1,k2,k3⟩:=FU h hS2 hq2 hcl2 (by omega) hco2;have hl2:(add (cO s ⟨bT (aI s.known x.pos).c,-m-1⟩) ⟨s.known.length,bT x.g⟩).items.length<=iB f:=by
    show(eh _ _ s.items).length<=_;rw[zY (x:=⟨s.known.length,bT x.g⟩) ⟨y,hy',hxy⟩];exact hil
  have hrun2:=hR (μ-1) (by omega) _ _ _ k1 (hspn _ _ k2 k3 (.inr ⟨rfl,by show bx+(-m-1)<=_;omega⟩)) hl2 (by show(s.known++[_]).length+_+_<=_;rw[hkl1];omega) (by omega);unfold xN;dsimp only;refine aT (mG (by rw[fV];omega) (by omega)) (aT (jT (by decide) (by decide)) (Tm.bind (qj (by omega) (by omega)) ?_));rintro⟨q3,q4,q5⟩ hq3;dsimp only at hq3⊢;rw[hmm]at hq3;subst hq3;refine aN (nt x1) ?_;have eC:(aI s.known x.pos).to.aZ=mB (aI s.known x.pos).c:=rfl;rw[eC];refine Te (q:=⟨(aI s.known x.pos).c,m⟩) (K:=K+2) (g:=x.g) hcp (tZ h hcl hq1 (by omega)) (by omega) (by omega) (by omega) (FT (f:=f) hS1 (h.co x hx')) (R:=fun N r5 r6=>(R N (aR.mk r5.n r6.known r6.steps r6.u r6.status r6.value r6.items r6.stack)).bind fun r7=>_) ?_;rw[iL (n:=(cO s ⟨(aI s.known x.pos).c,m⟩).to.n) (x:=(add (cO s ⟨(aI s.known x.pos).c,m⟩) ⟨s.known.length,x.g⟩).to) rfl];refine Tm.bind hrun1 fun r7 hr7=>aY (fun hk=>aL (hr7.up hk)) (fun hk=>?_);obtain⟨p1,hp1,rfl⟩:=hr7.ref hk;refine aT (rM (K:=K) (by omega) (by omega) hqx.1) (aT (n5 (by omega)) (aT (jT (by decide) (by decide)) (aT (mh (by rw[fV];omega) (bO jw (by omega))) ?_)));rw[show(vec (aI s.known x.pos).c.length fun j=>-vf (aI s.known x.pos).c j)=bT (aI s.known x.pos).c from rfl];refine aT (tI (q:=⟨bT (aI s.known x.pos).c,-m-1⟩) hcp) ?_;refine aT (rM (l:=x.g) (K:=8) (by omega) (by omega) (fun v hv=>bO (yi x2 (h.co x hx') (by omega) v hv) (by decide))) ?_;rw[show(vec x.g.length fun j=>-vf x.g j)=bT x.g from rfl];have e:aX.mk (iw ((List.length (cO s ⟨bT (aI s.known x.pos).c,-m-1⟩).to.known:Int)-1)) (mB (bT x.g))=AI.to ⟨s.known.length,bT x.g⟩:=by
    show aX.mk (iw ((((s.known++[_]).map AQ.to).length:Int)-1)) (mB _)=aX.mk (s.known.length:Int) (mB _);congr 1;rw[cP,cM,kq,bJ]<;>omega
  rw[e];refine aT (uS (K:=K+2) ((tZ h hcl2 hq2 (by omega)).mJ (bK _) (by omega) (by show(s.known++[_]).length<=_;rw[hkl1];omega) (by show s.items.length<=_;omega)) (FT (f:=f) hS2 hco2)) ?_;rw[iL (n:=(cO s ⟨bT (aI s.known x.pos).c,-m-1⟩).to.n) (x:=(add (cO s ⟨bT (aI s.known x.pos).c,-m-1⟩) ⟨s.known.length,bT x.g⟩).to) rfl];refine Tm.bind hrun2 fun r8 hr8=>aY (fun hk=>aL (hr8.up hk)) (fun hk=>?_);obtain⟨p2,hp2,rfl⟩:=hr8.ref hk;unfold p9;exact aT (aL rfl) (aL (.iN (.node s.steps (aI s.known x.pos).c m p1 p2) (.node h.jf hcl hp1 hp2)))
end
end Go.D
set_option maxHeartbeats 1000000
namespace Go.D
open Go Go.X
section
variable {sys base:List AQ} {f K:Nat} {s:St}
def Opp(s:St)(x:AI)(d:Int):Prop:=∃y∈s.items,y.g=bT x.g/\(aI s.known x.pos).b+(aI s.known y.pos).b<=d
def mN(sys:List AQ)(f:Nat)(R:Nat->aR->Option bX):Prop:=∀(base:List AQ) (K:Nat) (s:St) (x:AI),Good sys base (f+1) K s->x∈s.items->Opp s x 0->s.items.length<=iB (f+1)+1->s.known.length+iB (f+1)+280+lB f<=1073741824->K+560+dB f<=536870912->Tm (fun N=>R N s.to) (fE sys base s.n s.stack)
theorem mN.shift{R:Nat->aR->Option bX}(h:mN sys f R):mN sys f fun N=>R (N+1):=fun base K s x h1 h2 h3 h4 h5 h6=>Tm.shift (f:=fun N=>R N s.to) (h base K s x h1 h2 h3 h4 h5 h6)
theorem MK{q:AQ}{g:List Int}(h:s.known.length+1<=1073741824):aX.mk (iw ((List.length (cO s q).to.known:Int)-1)) (mB g)=AI.to ⟨s.known.length,g⟩:=by
 show aX.mk (iw ((((s.known++[q]).map AQ.to).length:Int)-1)) (mB g)=aX.mk (s.known.length:Int) (mB g);congr 1;rw[cP,cM,kq,bJ]<;>omega
theorem IN{q:AQ}(h:s.known.length+1<=1073741824):iw ((List.length (cO s q).to.known:Int)-1)=(s.known.length:Int):=by
 show iw ((((s.known++[q]).map AQ.to).length:Int)-1)=_;rw[cP,cM,kq,bJ]<;>omega
theorem Mc(hI:Inv s){x:AI}(hx:x∈s.items):x.g≠bT x.g:=fun e=>by
 obtain⟨w,hw,h1,_⟩:=xg hI hx;have:=congrArg (fun l=>vf l w) e;simp only[ir]at this;omega
theorem Jd{x:AI}{b:Int}{K':Nat}(h:Good sys base f K s)(hx:x∈s.items)(hb:dl b<=K')(hK:K<=K'):
 Good sys (s.known++[⟨bT (aI s.known x.pos).c,b⟩]) f K' (add (cO s ⟨bT (aI s.known x.pos).c,b⟩) ⟨s.known.length,bT x.g⟩)/\
 x∈(add (cO s ⟨bT (aI s.known x.pos).c,b⟩) ⟨s.known.length,bT x.g⟩).items/\
 Opp (add (cO s ⟨bT (aI s.known x.pos).c,b⟩) ⟨s.known.length,bT x.g⟩) x ((aI s.known x.pos).b+b)/\
 pH (cO s ⟨bT (aI s.known x.pos).c,b⟩) ⟨s.known.length,bT x.g⟩:=by
 obtain⟨x1,x2⟩:=h.inv.it x hx;have hqx:=h.q _ (eL x1);have hcl:(bT (aI s.known x.pos).c).length=s.n:=(iX _).trans (h.inv.kl _ (eL x1));have hq:fD K' ⟨bT (aI s.known x.pos).c,b⟩:=⟨BG fun v hv=>bO (hqx.1 v hv) hK,hb⟩;have hS:=He (b:=b) h hx;have hco:∀j,j<s.n->(vf (bT x.g) j).natAbs<=cB f:=fun j hj=>by rw[ir,Cm];exact h.co x hx j hj
 obtain⟨g1,g2,g3⟩:=FU h hS hq hcl hK hco;refine⟨g1,LR (show x∈(cO s _).items from hx) (Mc h.inv hx),?_,FT (f:=f) hS hco⟩;obtain⟨y,hy,y1,y2⟩:=C9 (kn:=s.known++[⟨bT (aI s.known x.pos).c,b⟩]) (x:=⟨s.known.length,bT x.g⟩) (l:=s.items);refine⟨y,hy,y1,?_⟩;have:=g3 y hy y1;show(aI (s.known++[_]) x.pos).b+_<=_;rw[iF x1];have h2:(aI (s.known++[⟨bT (aI s.known x.pos).c,b⟩]) y.pos).b<=b:=this;show(aI s.known x.pos).b+(aI (s.known++[⟨bT (aI s.known x.pos).c,b⟩]) y.pos).b<=_;omega
theorem UR{p p':Nat}{z:AI}(hz:z∈s.items)(h:z.pos≠p):z∈(mX s p p').items:=BZ.2 ⟨z,hz,if_neg h⟩
theorem HV{x:AI}{b:Int}{K':Nat}(h:Good sys base f K s)(hx:x∈s.items)(hb:dl b<=K')(hK:K<=K')(hle:b<=(aI s.known x.pos).b):
 Good sys (s.known++[⟨(aI s.known x.pos).c,b⟩]) f K' (mX (cO s ⟨(aI s.known x.pos).c,b⟩) x.pos s.known.length)/\
 (⟨s.known.length,x.g⟩:AI)∈(mX (cO s ⟨(aI s.known x.pos).c,b⟩) x.pos s.known.length).items/\
 (∀z∈s.items,z.g≠x.g->z∈(mX (cO s ⟨(aI s.known x.pos).c,b⟩) x.pos s.known.length).items):=by
 obtain⟨x1,x2⟩:=h.inv.it x hx;have hqx:=h.q _ (eL x1);have hcl:(aI s.known x.pos).c.length=s.n:=h.inv.kl _ (eL x1);have hq:fD K' ⟨(aI s.known x.pos).c,b⟩:=⟨fun v hv=>bO (hqx.1 v hv) hK,hb⟩;have hA:=tZ (q:=⟨(aI s.known x.pos).c,b⟩) h hcl hq hK;have e1:aI (cO s ⟨(aI s.known x.pos).c,b⟩).known s.known.length=⟨(aI s.known x.pos).c,b⟩:=oL;have e2:aI (cO s ⟨(aI s.known x.pos).c,b⟩).known x.pos=aI s.known x.pos:=iF x1;refine⟨UL hA (by show _<(s.known++[_]).length;simp) (by rw[e1,e2]) (by rw[e1,e2];exact hle),BZ.2 ⟨x,hx,if_pos rfl⟩,fun z hz hne=>UR (s:=cO s _) hz fun e=>hne ?_⟩;rw[KN h.inv hz hx e]
theorem Kt{p p':Nat}:(mX s p p').items.length=s.items.length:=cP ..
theorem U0(hf:f+1<=4):∀(d:Nat) (base:List AQ) (K:Nat) (s:St) (x:AI) (kk:Int) (R:Nat->aR->Option bX),mN sys f R->Good sys base (f+1) K s->x∈s.items->Opp s x d->s.items.length<=iB (f+1)+1->
 s.known.length+d+iB (f+1)+282+lB f<=1073741824->K+d+562+dB f<=536870912->0<K->0<=kk->kk+d<=4294967295->Tm (fun N=>qH N (R N) s.to x.to (B kk) (B (kk+d))) (fE sys base s.n s.stack):=by
 have hL:cZ=1099511627776:=rfl;have hC:=mc (f+1);have hmB:=oh (f+1);intro d
 induction d with
 |zero=>
  intro base K s x kk R hR h hx' ho hil hkl hK hK0 hk0 hk1;refine Tm.succ ?_;show Tm (fun N=>rI N (R (N+1)) (qH N (R (N+1))) s.to x.to (B kk) (B (kk+(0:Nat)))) _;unfold rI;have dk:dl kk<=1:=jP (by omega);rw[show kk+((0:Nat):Int)=kk by omega];refine aT (j8 (by omega) (by omega)) (db (by unfold bM;rw[if_neg (by omega),if_neg (by omega)]) (aT (Ap (h.inv.cp h.n (by omega) (by omega))) ?_));exact Tm.bind (hR.shift base K s x h hx' (by simpa using ho) hil (by omega) (by omega)) fun r hr=>aL hr
 |succ d ih=>
  intro base K s x kk R hR h hx' ho hil hkl hK hK0 hk0 hk1;obtain⟨y,hy,hyg,hys⟩:=ho;obtain⟨x1,x2⟩:=h.inv.it x hx';have hqx:=h.q _ (eL x1);have hcl:(aI s.known x.pos).c.length=s.n:=h.inv.kl _ (eL x1);have dbx:=hqx.2;have dk:dl kk<=1:=jP (by omega);have dk2:dl (kk+((d+1:Nat):Int))<=1:=jP (by omega);have d1:=jw;have hcp:oZ s:=h.inv.cp h.n (by omega) (by omega);have hn:=h.n;obtain⟨n1,n2,n3,n4⟩:=Jd (b:=-(aI s.known x.pos).b) (K':=K) h hx' (by rw[fV];exact dbx) (bK _);have nl:(add (cO s ⟨bT (aI s.known x.pos).c,-(aI s.known x.pos).b⟩) ⟨s.known.length,bT x.g⟩).items.length<=iB (f+1)+1:=by
   show(eh _ _ s.items).length<=_;rw[zY (x:=⟨s.known.length,bT x.g⟩) ⟨y,hy,hyg⟩];exact hil
  obtain⟨f1,f2,f3⟩:=HV (b:=(aI s.known x.pos).b-1) (K':=K+1) h hx' (jU dbx (by omega)) (by omega) (by omega);have hyx:y.g≠x.g:=fun e=>Mc h.inv hx' (by rw[<-hyg,e]);have hkl1:∀q:AQ,(s.known++[q]).length=s.known.length+1:=fun q=>by simp
  refine Tm.succ ?_;show Tm (fun N=>rI N (R (N+1)) (qH N (R (N+1))) s.to x.to (B kk) (B (kk+(d+1:Nat)))) _;unfold rI;refine aT (j8 (by omega) (by omega)) (cA (by unfold bM;(repeat' split)<;>omega) ?_);refine aN (nt x1) ?_;rw[show(aI s.known x.pos).to.aZ=mB (aI s.known x.pos).c from rfl];refine aT (rM (K:=K) (by omega) (by omega) hqx.1) (aT (n5 (by omega)) ?_);rw[show(vec (aI s.known x.pos).c.length fun j=>-vf (aI s.known x.pos).c j)=bT (aI s.known x.pos).c from rfl];refine aT (tI (q:=⟨bT (aI s.known x.pos).c,-(aI s.known x.pos).b⟩) hcp) ?_;refine aT (rM (l:=x.g) (K:=8) (by omega) (by omega) (fun v hv=>bO (yi x2 (h.co x hx') (by omega) v hv) (by decide))) ?_;rw[show(vec x.g.length fun j=>-vf x.g j)=bT x.g from rfl];rw[MK (by omega)];have hqn:fD K ⟨bT (aI s.known x.pos).c,-(aI s.known x.pos).b⟩:=⟨BG hqx.1,by show dl _<=_;rw[fV];exact dbx⟩;refine aT (uS (K:=K) ((tZ h ((iX _).trans hcl) hqn (bK _)).mJ (bK _) (by omega) (by show(s.known++[_]).length<=_;rw[hkl1];omega) (by show s.items.length<=_;omega)) n4) ?_;rw[iL (n:=(cO s ⟨bT (aI s.known x.pos).c,-(aI s.known x.pos).b⟩).to.n) (x:=(add (cO s ⟨bT (aI s.known x.pos).c,-(aI s.known x.pos).b⟩) ⟨s.known.length,bT x.g⟩).to) rfl];refine Tm.bind (hR.shift _ K _ x n1 n2 (by rw[show(aI s.known x.pos).b+-(aI s.known x.pos).b=0 by omega]at n3;exact n3) nl (by show(s.known++[_]).length+_+_+_<=_;rw[hkl1];omega) (by omega)) fun r7 hr7=>aY (fun hk=>aL (hr7.up hk)) (fun hk=>?_);obtain⟨p1,hp1,rfl⟩:=hr7.ref hk;refine aT (jT (by decide) (by decide)) (aT (mh (a:=(aI s.known x.pos).b) (by omega) (by omega)) ?_);refine aT (tI (q:=⟨(aI s.known x.pos).c,(aI s.known x.pos).b-1⟩) hcp) ?_;rw[IN (by omega)];refine aT (JQ (l:=s.items) (p:=x.pos) (p':=s.known.length) (by omega)) ?_;refine aT (jT (by decide) (by decide)) (aT (mG (by omega) (by omega)) ?_);have hrun:=ih _ (K+1) _ ⟨s.known.length,x.g⟩ (kk+1) _ hR.shift f1 f2 ⟨y,f3 y hy hyx,hyg,by
   show(aI (s.known++[_]) s.known.length).b+(aI (s.known++[_]) y.pos).b<=_;rw[oL,iF (h.inv.it y hy).1];dsimp only;omega⟩ (by rw[Kt];exact hil) (by show(s.known++[_]).length+_+_+_+_<=_;rw[hkl1];omega) (by omega) (by omega) (by omega) (by omega)
  rw[show kk+1+(d:Int)=kk+((d+1:Nat):Int) by omega]at hrun;refine Tm.bind (show Tm (fun N=>qH N (R (N+1)) (aR.mk (cO s ⟨(aI s.known x.pos).c,(aI s.known x.pos).b-1⟩).to.n (cO s ⟨(aI s.known x.pos).c,(aI s.known x.pos).b-1⟩).to.known (cO s ⟨(aI s.known x.pos).c,(aI s.known x.pos).b-1⟩).to.steps (cO s ⟨(aI s.known x.pos).c,(aI s.known x.pos).b-1⟩).to.u (cO s ⟨(aI s.known x.pos).c,(aI s.known x.pos).b-1⟩).to.status (cO s ⟨(aI s.known x.pos).c,(aI s.known x.pos).b-1⟩).to.value (mI (sH s.items x.pos s.known.length)) (cO s ⟨(aI s.known x.pos).c,(aI s.known x.pos).b-1⟩).to.stack) _ _ _) _ from hrun) fun r8 hr8=>aY (fun hk=>aL (hr8.up hk)) (fun hk=>?_);obtain⟨p2,hp2,rfl⟩:=hr8.ref hk;unfold p9;refine aT (aL rfl) (aL (.iN (.node s.steps (bT (aI s.known x.pos).c) (-(aI s.known x.pos).b) p1 p2) (.node h.jf ((iX _).trans hcl) hp1 ?_)));rw[Fp,show- -(aI s.known x.pos).b-1=(aI s.known x.pos).b-1 by omega];exact hp2
end
end Go.D
set_option maxHeartbeats 1000000
namespace Go.D
open Go Go.X
section
variable {sys base:List AQ} {f K:Nat} {s s0:St} {v:Nat}
structure SI (sys base:List AQ)(f K:Nat)(s0:St)(v:Nat)(l:List AI)(s:St):Prop where
 fL:Good sys base (f+1) K s
 kept:Kept s0 s
 bR:cx v s.items=cx v s0.items
 z:∀x∈s0.items,vf x.g v=0->x∈s.items
 il:s.items.length<=iB (f+1)
 lm:∀w∈l,w∈s.items/\w∈s0.items/\vf w.g v<0
 nd:l.Pairwise fun a b=>a.g≠b.g
 low:∀w∈dw v s0.items,w∈l\/∃w'∈dw v s.items,w'.g=w.g/\(aI s.known w'.pos).b+max (gK v w (cx v s0.items)+1) 0<=(aI s0.known w.pos).b
theorem RO{bR:List AI}{a b:AI}(h:a.g=b.g):gK v a bR=gK v b bR:=by unfold gK;rw[h]
theorem BW(h:Kept s0 s){p:Nat}(hp:p<s0.known.length):aI s.known p=aI s0.known p:=by
 obtain⟨e,he⟩:=h.kn;rw[he,iF hp]
theorem SI.skip{e:AI}{l:List AI}(h:SI sys base f K s0 v (e::l) s)(hI0:Inv s0)(hs:gK v e (cx v s0.items)<0):SI sys base f K s0 v l s where
 fL:=h.fL
 kept:=h.kept
 bR:=h.bR
 z:=h.z
 il:=h.il
 lm w hw:=h.lm w (cG _ hw)
 nd:=(yK.1 h.nd).2
 low w hw:=by
  rcases h.low w hw with h1|h1
  . rcases dT.1 h1 with rfl|h1
    . obtain⟨a,b,c⟩:=h.lm w cK;refine .inr ⟨w,im.2 ⟨a,c⟩,rfl,?_⟩;rw[BW h.kept (hI0.it w b).1,Nw (by omega)];omega
    . exact .inl h1
  . exact .inr h1
theorem SI.far{e:AI}{l:List AI}{k:Int}(h:SI sys base f K s0 v (e::l) s)(hI0:Inv s0)(hs:gK v e (cx v s0.items)=k)(hk:0<=k)(hk':k<4294967296):
 SI sys (s.known++[⟨(aI s.known e.pos).c,(aI s.known e.pos).b-k-1⟩]) f (K+3) s0 v l (mX (cO s ⟨(aI s.known e.pos).c,(aI s.known e.pos).b-k-1⟩) e.pos s.known.length):=by
 obtain⟨em,em0,ev⟩:=h.lm e cK;obtain⟨e1,e2⟩:=h.fL.inv.it e em;have hd:=(h.fL.q _ (eL e1)).2;have d1:dl ((aI s.known e.pos).b-k)<=K+2:=jU (K:=K+1) (by omega) (bO (jP (by omega)) (by omega));have d2:dl ((aI s.known e.pos).b-k-1)<=K+3:=jU (K:=K+2) d1 (bO jw (by omega));obtain⟨g1,g2,g3⟩:=HV (b:=(aI s.known e.pos).b-k-1) (K':=K+3) h.fL em d2 (by omega) (by omega);have hk2:Kept s (mX (cO s ⟨(aI s.known e.pos).c,(aI s.known e.pos).b-k-1⟩) e.pos s.known.length):=(Lr s _).trans (Ii _ _ _);have hun:∀x∈s.items,x.pos=e.pos->x=e:=fun x hx he=>KN h.fL.inv hx em he;refine⟨g1,h.kept.trans hk2,?_,fun x hx hx0=>g3 x (h.z x hx hx0) fun he=>?_,by rw[Kt];exact h.il,fun w hw=>?_,(yK.1 h.nd).2,fun w hw=>?_⟩
 . rw[<-h.bR];show(List.map _ s.items).filter _=s.items.filter _;rw[List.filter_map];have e3:(s.items.filter ((fun x:AI=>decide (0<vf x.g v))∘fun x=>if x.pos=e.pos then({x with pos:=s.known.length}:AI)else x))=cx v s.items:=by
    unfold cx;refine List.filter_congr fun x _=>?_;show decide (0<vf (if x.pos=e.pos then({x with pos:=s.known.length}:AI)else x).g v)=_;split<;>rfl
   rw[e3];have e4:∀x∈cx v s.items,(if x.pos=e.pos then({x with pos:=s.known.length}:AI)else x)=id x:=fun x hx=>if_neg fun he=>by
    obtain⟨x1,x2⟩:=j3.1 hx;rw[hun x x1 he]at x2;omega
   rw[Ci e4,List.map_id];rfl
 . rw[he]at hx0;omega
 . obtain⟨a,b,c⟩:=h.lm w (cG _ hw);exact⟨g3 w a fun he=>(yK.1 h.nd).1 w hw he.symm,b,c⟩
 . by_cases hwe:w.g=e.g
   . obtain rfl:w=e:=wV hI0 (im.1 hw).1 em0 hwe;refine .inr ⟨⟨s.known.length,w.g⟩,im.2 ⟨g2,ev⟩,rfl,?_⟩;show(aI (s.known++[_]) s.known.length).b+_<=_;rw[oL,hs,Int.max_eq_left (by omega)];dsimp only;rw[BW h.kept (hI0.it w em0).1];omega
   . rcases h.low w hw with h1|⟨w',hw',e3,e4⟩
     . rcases dT.1 h1 with rfl|h1
       . exact absurd rfl hwe
       . exact .inl h1
     . obtain⟨m1,m2⟩:=im.1 hw';refine .inr ⟨w',im.2 ⟨g3 w' m1 (by rw[e3];exact hwe),m2⟩,e3,?_⟩;show(aI (s.known++[_]) w'.pos).b+_<=_;rw[iF (h.fL.inv.it w' m1).1];exact e4
theorem SI.last(hf:f+1<=4)(h:SI sys base f K s0 v [] s)(hI0:Inv s0)(hr0:RF sys s0)(hv:v<s.n)(hst:vf s.status v=0)(hup:cx v s0.items≠[])(hkl:s.known.length+(iB (f+1)+1)*(iB (f+1)+1)/4<=1073741824)(hK:K+6<=536870912)(hil0:s0.items.length<=1073741824):
 Nxt sys base f (K+6) (s.known.length+(iB (f+1)+1)*(iB (f+1)+1)/4) s.n (s.stack++[⟨v,fe s0 v,false⟩]) ((bU (fu s v false (fe s0 v)) (cX s v)).1,(bU (fu s v false (fe s0 v)) (cX s v)).2.to):=by
 have hn0:s.n=s0.n:=h.kept.n;have hats0:=IG hI0 (v:=v) (by rw[<-hn0];exact hv);obtain⟨ke,hke⟩:=h.kept.kn;have hux:∀y i,ux s y i=ux s0 y i:=fun y i=>by unfold ux;rw[h.kept.u,h.kept.n]
 have hxs:∀y p,p<s0.known.length->(hx s (ux s y) p↔hx s0 (ux s0 y) p):=fun y p hp=>sc hn0 hke hp fun i _=>hux y i;have hih:∀y (x:AI),x.pos<s0.known.length->(IH s y x↔IH s0 y x):=fun y x hp=>yr hn0 hke hp;refine Iz hf h.fL hI0 hr0 h.kept hv hst (fun p hp=>?_) (bO Ij hil0) (fun y h1 h2 x hx'=>?_) (fun _ y hp=>?_) (bK _) (by have:=h.il;omega) hkl hK
 . obtain⟨a,b,c⟩:=hats0 p hp;refine⟨by rw[hke,cM];omega,fun j hj hs=>?_,?_⟩
   . rw[h.kept.u,hn0,BW h.kept a];exact b j (by rw[<-hn0];exact hj) (by rw[<-h.kept.status];exact hs)
   . rw[h.kept.u,hn0,BW h.kept a];exact c
 . by_cases h0:vf x.g v=0
   . exact(hih y x (hI0.it x hx').1).1 (h1 x (h.z x hx' h0) h0)
   . refine(u6 hI0 hx').2 ((hxs y _ (hI0.it x hx').1).1 (h2 _ (dL.2 ⟨x,fb.2 ?_,rfl⟩)));rcases tD h0 with g|g
     . exact .inr (im.2 ⟨hx',g⟩)
     . exact .inl (j3.2 ⟨hx',g⟩)
 . obtain⟨z,z1,z2⟩:=Mr (y:=y) hv (fun w=>(aI s.known w.pos).b+max (gK v w (cx v s0.items)+1) 0) (fun x hx' w hw=>by
    have h0:=hp x hx' w hw;have hne:cx v s.items≠[]:=GN hx';have h3:=GR (j3.1 hx').2 (JO x hx') (show 0< -vf w.g v by have:=(im.1 hw).2;omega) (Hh (low:=w) (EU hne));rw[h.bR]at h3;rw[tw];omega)
   refine⟨z,fun p hp'=>?_⟩;obtain⟨x,hx',rfl⟩:=dL.1 hp';rcases fb.1 hx' with hx'|hx'
   . rw[<-h.bR]at hx';exact(u6 h.fL.inv (j3.1 hx').1).1 (z1 x hx')
   . obtain⟨m1,m2⟩:=im.1 hx';rcases h.low x hx' with h1|⟨w',hw',e3,e4⟩
     . cases h1
     . have h5:=z2 w' hw';rw[RO e3,e3]at h5;refine(hxs _ _ (hI0.it x m1).1).2 ((u6 hI0 m1).1 ((E2 (by rw[<-hn0];exact hv)).2 ?_));rw[<-hn0];omega
theorem TM{low:AI}{bR:List AI}(h:0<dZ v bR)(hb:vf low.g v<0):gK v low bR≤-vf low.g v:=by
 have h1:=qz (a:=dZ v bR*-vf low.g v-dZ v bR- -vf low.g v) h;unfold gK;generalize(dZ v bR*-vf low.g v-dZ v bR- -vf low.g v).fdiv (dZ v bR)=q at*;refine GL (a:=dZ v bR) ?_ h;rw[fH (dZ v bR) q];omega
def ld(s:St)(t:List AE):St:={s with stack:=t}
theorem NS(s:St)(g:List Int)(us:List AU)(t:List AE):dst (ld s t) g us=ld (dst s g us) t:=by
 unfold dst;split<;>rfl
theorem RW(s:St)(g:List Int)(us:List AU)(t:List AE):put (ld s t) g us=((put s g us).1,ld (put s g us).2 t):=by
 unfold put mP;rw[NS];dsimp only;split<;>rfl
theorem Fj(t:List AE):∀(L:List Act) (s:St),bU (ld s t) L=((bU s L).1,ld (bU s L).2 t)
 |[],s=>rfl
 |.add x::r,s=>Fj t r (add s x)
 |.put g us::r,s=>by
  have e1:bU (ld s t) (.put g us::r)=if(put (ld s t) g us).1=true then bU (put (ld s t) g us).2 r else(false,(put (ld s t) g us).2):=rfl;have e2:bU s (.put g us::r)=if(put s g us).1=true then bU (put s g us).2 r else(false,(put s g us).2):=rfl;rw[e1,e2,RW];dsimp only;split
  . exact Fj t r _
  . rfl
theorem Rw(hf:f+1<=4)(hI0:Inv s0)(hr0:RF sys s0)(hv0:v<s0.n)(hst0:vf s0.status v=0)(hup:cx v s0.items≠[])(hil0:s0.items.length<=iB (f+1)):
 ∀(m:Nat) (l:List AI) (base:List AQ) (K:Nat) (s:St) (R:Nat->aR->Option bX),l.length<=m->mN sys f R->l9 sys f 260 R->SI sys base f K s0 v l s->
  s.known.length+m+cB (f+1)+(iB (f+1)+1)+(iB (f+1)+1)*(iB (f+1)+1)/4+283+lB f<=1073741824->K+3*m+cB (f+1)+570+dB f<=536870912->
  Tm (fun N=>mz N (R N) s.to (v:Int) (mI l) ((fe s0 v).map Int.ofNat)) (fE sys base s.n s.stack):=by
 have hL:cZ=1099511627776:=rfl;have hC:=mc (f+1);have hmB:=oh (f+1);intro m
 induction m with
 |zero=>
  intro l base K s R hl hE hP h hkl hK;obtain rfl:=mo.1 (Nat.le_zero.1 hl);have hn:=h.fL.n;have hn0:s.n=s0.n:=h.kept.n;have hil:=h.il;have hv:v<s.n:=by rw[hn0];exact hv0
  have hst:vf s.status v=0:=by rw[h.kept.status];exact hst0
  have hcp:oZ s:=h.fL.inv.cp hn (by omega) (by omega);have hlast:=h.last hf hI0 hr0 hv hst hup (by omega) (by omega) (by omega);refine Tm.succ ?_;show Tm (fun N=>oA N (R (N+1)) (mz N (R (N+1))) s.to (v:Int) (mI []) ((fe s0 v).map Int.ofNat)) _;unfold oA;refine aT (v7 (h.fL.yM (by omega)) hv) ?_;refine aT (a:=[]) (Tm.loop (fun t=>t=[]) (fun _=>0) rfl ?_) ?_
  . rintro _ rfl;dsimp only[uE];refine aT (a:=false) (cA (by simp) (aL rfl)) (cA (by simp) (aL rfl))
  refine db (by simp) (aT (Ap hcp) (aT (MD (m:=iB (f+1)+1) (t:=false) h.fL hv (bK _) (by omega) (by omega) (by omega)) ?_));have hsk:(bU (eI s v false) (cX s v)).2.stack=s.stack++[⟨v,fe s v,false⟩]:=(Bg (cX s v) (eI s v false)).dN;have est:∀x:AE,(bU (eI s v false) (cX s v)).2.to.stack=s.stack.map AE.to++[(⟨v,fe s v,false⟩:AE).to]:=fun _=>by
   show List.map AE.to (bU (eI s v false) (cX s v)).2.stack=_;rw[hsk,jJ];rfl
  have est:=est ⟨0,[],false⟩;have hsl:=EG h.fL.inv;dsimp only;rw[est];have hpos:iw (((s.stack.map AE.to++[(⟨v,fe s v,false⟩:AE).to]).length:Int)-1)=((s.stack.map AE.to).length:Int):=by
   rw[cM,kq,cP,bJ]<;>omega
  rw[hpos];refine aN (a:=(⟨v,fe s v,false⟩:AE).to) (by rw[dd (by simp)];simp) ?_;refine aN (dV (n:=(s.stack.map AE.to).length) rfl (by simp)) ?_;have eset:(s.stack.map AE.to++[(⟨v,fe s v,false⟩:AE).to]).set (s.stack.map AE.to).length (dJ.mk (⟨v,fe s v,false⟩:AE).to.v ((fe s0 v).map Int.ofNat) (⟨v,fe s v,false⟩:AE).to.dA)=(s.stack++[(⟨v,fe s0 v,false⟩:AE)]).map AE.to:=by
   rw[Gu _ _ (bK _),ox,jJ];rfl
  rw[eset];have ek:bU (fu s v false (fe s0 v)) (cX s v)=((bU (eI s v false) (cX s v)).1,ld (bU (eI s v false) (cX s v)).2 (s.stack++[⟨v,fe s0 v,false⟩])):=Fj _ (cX s v) (eI s v false);rw[ek]at hlast;dsimp only at hlast;have esS:aR.mk s.to.n (bU (eI s v false) (cX s v)).2.to.known (bU (eI s v false) (cX s v)).2.to.steps (bU (eI s v false) (cX s v)).2.to.u (bU (eI s v false) (cX s v)).2.to.status (bU (eI s v false) (cX s v)).2.to.value (bU (eI s v false) (cX s v)).2.to.items ((s.stack++[(⟨v,fe s0 v,false⟩:AE)]).map AE.to)=(ld (bU (eI s v false) (cX s v)).2 (s.stack++[⟨v,fe s0 v,false⟩])).to:=by
   have:(bU (eI s v false) (cX s v)).2.n=s.n:=(Bg (cX s v) (eI s v false)).n;unfold ld St.to;dsimp only;rw[this]
  rw[esS];obtain⟨s',hs',hn',hcase⟩:=hlast;dsimp only at hs' hcase;rw[hs'];rcases hcase with⟨hb,hg,hgi,hgl,hgs⟩|⟨hb,href⟩
  . refine cA (by rw[hb];simp) (Tm.bind (hP.shift base (K+6) s' hg (Bl hg.n) hgi (by omega) (by omega)) fun r hr=>aL ?_);rw[hn',hgs]at hr;cases hr with
    |solved x a b c=>exact .solved x a b c
    |iN p a=>exact .iN p a
    |failed e' a b=>
     rcases fb.1 a with a|a
     . exact .failed e' a b
     . rw[cI.1 a]at b;cases b
  . refine db (by rw[hb];rfl) ?_;unfold jB;exact aT (aL rfl) (aL (.iN (.leaf s'.steps) href))
 |succ m ih=>
  intro l base K s R hl hE hP h hkl hK;have hn:=h.fL.n;have hn0:s.n=s0.n:=h.kept.n;have hil:=h.il;have hv:v<s.n:=by rw[hn0];exact hv0
  have hst:vf s.status v=0:=by rw[h.kept.status];exact hst0
  have hcp:oZ s:=h.fL.inv.cp hn (by omega) (by omega);have hit:=h.fL.yM (by omega);have hups:=o9 (v:=v) hit;have hupn:cx v s.items≠[]:=by rw[h.bR];exact hup
  have hItm:∀w∈s.items,w.g.length=s.n/\dl (vf w.g v)<=8:=fun w hw=>⟨(hit.2 w hw).1,hit.vf hw v⟩;by_cases h0:l=[]
  . subst h0;have:=ih [] base K s R (fC _) hE hP h (by omega) (by omega);exact this
  refine Tm.succ ?_;show Tm (fun N=>oA N (R (N+1)) (mz N (R (N+1))) s.to (v:Int) (mI l) ((fe s0 v).map Int.ofNat)) _;unfold oA;refine aT (v7 hit hv) ?_;dsimp only;refine Tm.bind (Q:=fun r=>∃d:List AI,r=mI d/\d.length<=l.length/\SI sys base f K s0 v d s/\(d=[]\/∃e t,d=e::t/\0<=gK v e (cx v s0.items)))
   (Tm.uv (fun(d:List AI) t=>t=mI d/\d.length<=l.length/\SI sys base f K s0 v d s) (fun d=>d.length) l ⟨rfl,bK _,h⟩ ?_) ?_
  . rintro d _ ⟨rfl,hdl,hd⟩;dsimp only[uE];cases d with
    |nil=>exact aT (a:=false) (cA (by rw[fg];simp) (aL rfl)) (cA (by simp) (aL ⟨[],rfl,hdl,hd,.inl rfl⟩))
    |cons e t=>
     obtain⟨em,em0,ev⟩:=hd.lm e cK;have hsd:=xS (low:=e) hups hupn (hItm e em).2;refine aT (a:=decide (gK v e (cx v s.items)<0)) (db (by rw[fg,cz];omega) (aN (a:=e.to) rfl (aT (wN hups hupn (hItm e em).1 (hItm e em).2 hv) (aT (jk (by omega)) (aL (decide_eq_decide.2 nL)))))) ?_;refine aY (fun hs=>?_) (fun hs=>aL ⟨e::t,rfl,hdl,hd,.inr ⟨e,t,rfl,?_⟩⟩)
     . have hs:=of_decide_eq_true hs;rw[h.bR]at hs;refine aN (a:=mI t) ?_ (aL ⟨t,⟨rfl,by rw[cz]at hdl;omega,hd.skip hI0 hs⟩,by rw[cz];omega⟩);rw[ri (i:=1) (j:=((mI (e::t)).length:Int)) (m:=1) (n:=(mI (e::t)).length) rfl rfl (by rw[fg,cz];omega) (bK _),tA];rfl
     . have hs:¬gK v e (cx v s.items)<0:=fun e'=>hs (decide_eq_true e');rw[h.bR]at hs;omega
  rintro _ ⟨d,rfl,hdl,hd,hcase⟩;rcases hcase with rfl|⟨e,t,rfl,hk0⟩
  . 
    have hlast:=ih [] base K s R (fC _) hE hP hd (by omega) (by omega);obtain⟨a,N0,ha,hN0⟩:=Tm.shift (f:=fun N=>mz N (R N) s.to (v:Int) (mI []) ((fe s0 v).map Int.ofNat)) hlast;obtain⟨_,N1,rfl,hN1⟩:=v7 hit hv;have hloop:∀N r1,0<N->bH (uE N (R (N+1)) (mz N (R (N+1))) (v:Int) r1) N (mI [])=some (mI []):=fun N r1 hN=>by
     obtain⟨n,rfl⟩:∃n,N=n+1:=⟨N-1,by omega⟩;exact wb (by
      dsimp only[uE];rw[if_neg (by rw[fg];simp)];rfl)
    refine⟨a,max N0 N1+1,ha,fun N hN=>?_⟩;have h2:=hN0 N (by omega);have h2:oA N (R (N+1)) (mz N (R (N+1))) s.to (v:Int) (mI []) ((fe s0 v).map Int.ofNat)=some a:=h2;unfold oA at h2;rw[show q9 N s.to (v:Int)=some _ from hN1 N (by omega)]at h2;rw[F9,hloop N _ (by omega),F9]at h2;exact h2
  . obtain⟨em,em0,ev⟩:=hd.lm e cK;obtain⟨e1,e2⟩:=h.fL.inv.it e em;have hqe:=h.fL.q _ (eL e1);have hcl:(aI s.known e.pos).c.length=s.n:=h.fL.inv.kl _ (eL e1);have hsd:=xS (low:=e) hups hupn (hItm e em).2;have hsle:=TM (low:=e) (EU hupn) ev;rw[h.bR]at hsd hsle;have hco:=h.fL.co e em v hv;generalize hk:gK v e (cx v s0.items)=k at*;have dk:dl k<=1:=jP (by omega);have dq:=hqe.2;have d1:=jw;have da:dl ((aI s.known e.pos).b-k)<=K+2:=jU (K:=K+1) (by omega) (by omega);have dn:dl (k-(aI s.known e.pos).b)<=K+2:=jU (K:=K+1) (by omega) (by omega);have hkl1:∀q:AQ,(s.known++[q]).length=s.known.length+1:=fun q=>by simp
    rw[cz]at hdl;refine cA (by rw[fg,cz];omega) ?_;refine aN (a:=e.to) rfl (aN (a:=e.to) rfl (aT (wN hups hupn (hItm e em).1 (hItm e em).2 hv) (aN (nt e1) ?_)));rw[h.bR,hk];rw[show(aI s.known e.pos).to.aZ=mB (aI s.known e.pos).c from rfl];refine aT (rM (K:=K) (by omega) (by omega) hqe.1) ?_;rw[show(vec (aI s.known e.pos).c.length fun j=>-vf (aI s.known e.pos).c j)=bT (aI s.known e.pos).c from rfl];refine aT (mh (a:=(aI s.known e.pos).b) (by omega) (by omega)) (aT (jT (by decide) (by decide)) (aT (mh (by omega) (by omega)) ?_));refine aT (tI (q:=⟨(aI s.known e.pos).c,(aI s.known e.pos).b-k-1⟩) hcp) ?_;rw[IN (by omega)];refine aT (JQ (l:=s.items) (p:=e.pos) (p':=s.known.length) (by omega)) ?_;refine aN (a:=mI t) ?_ ?_
    . rw[ri (i:=1) (j:=((mI (e::t)).length:Int)) (m:=1) (n:=(mI (e::t)).length) rfl rfl (by rw[fg,cz];omega) (bK _),tA];rfl
    have hfar:=hd.far hI0 hk hk0 (by omega);have hself:=ih t _ (K+3) _ _ (by omega) hE.shift hP.shift hfar (by show(s.known++[_]).length+_+_+_+_+_+_<=_;rw[hkl1];omega) (by omega);refine Tm.bind (show Tm (fun N=>mz N (R (N+1)) (aR.mk (cO s ⟨(aI s.known e.pos).c,(aI s.known e.pos).b-k-1⟩).to.n (cO s ⟨(aI s.known e.pos).c,(aI s.known e.pos).b-k-1⟩).to.known (cO s ⟨(aI s.known e.pos).c,(aI s.known e.pos).b-k-1⟩).to.steps (cO s ⟨(aI s.known e.pos).c,(aI s.known e.pos).b-k-1⟩).to.u (cO s ⟨(aI s.known e.pos).c,(aI s.known e.pos).b-k-1⟩).to.status (cO s ⟨(aI s.known e.pos).c,(aI s.known e.pos).b-k-1⟩).to.value (mI (sH s.items e.pos s.known.length)) (cO s ⟨(aI s.known e.pos).c,(aI s.known e.pos).b-k-1⟩).to.stack) (v:Int) (mI t) ((fe s0 v).map Int.ofNat)) _ from hself) fun r1 hr1=>aY (fun hk=>aL (hr1.up hk)) (fun hkind=>?_);obtain⟨p2,hp2,rfl⟩:=hr1.ref hkind;obtain⟨n1,n2,n3,n4⟩:=Jd (b:=k-(aI s.known e.pos).b) (K':=K+2) h.fL em dn (by omega);have nl:(add (cO s ⟨bT (aI s.known e.pos).c,k-(aI s.known e.pos).b⟩) ⟨s.known.length,bT e.g⟩).items.length<=iB (f+1)+1:=by
     have:=vh (kn:=(cO s ⟨bT (aI s.known e.pos).c,k-(aI s.known e.pos).b⟩).known) (x:=⟨s.known.length,bT e.g⟩) (l:=s.items);show(eh _ _ s.items).length<=_;omega
    refine aT (mh (b:=(aI s.known e.pos).b) (by omega) (by omega)) (aT (tI (q:=⟨bT (aI s.known e.pos).c,k-(aI s.known e.pos).b⟩) hcp) ?_);refine aT (rM (l:=e.g) (K:=8) (by omega) (by omega) (hit.2 e em).2) ?_;rw[show(vec e.g.length fun j=>-vf e.g j)=bT e.g from rfl];rw[MK (by omega)];have hqn:fD (K+2) ⟨bT (aI s.known e.pos).c,k-(aI s.known e.pos).b⟩:=⟨BG fun w hw=>bO (hqe.1 w hw) (by omega),dn⟩;refine aT (uS (K:=K+2) ((tZ h.fL ((iX _).trans hcl) hqn (by omega)).mJ (bK _) (by omega) (by show(s.known++[_]).length<=_;rw[hkl1];omega) (by show s.items.length<=_;omega)) n4) ?_;rw[iL (n:=(cO s ⟨bT (aI s.known e.pos).c,k-(aI s.known e.pos).b⟩).to.n) (x:=(add (cO s ⟨bT (aI s.known e.pos).c,k-(aI s.known e.pos).b⟩) ⟨s.known.length,bT e.g⟩).to) rfl];have hch:=U0 hf k.toNat _ (K+2) _ e 0 (fun N=>R (N+1)) hE.shift n1 n2 (by
     obtain⟨y,y1,y2,y3⟩:=n3;exact⟨y,y1,y2,by omega⟩) nl (by show(s.known++[_]).length+_+_+_+_<=_;rw[hkl1];omega) (by omega) (by omega) (lK _) (by omega)
    rw[show(0:Int)+(k.toNat:Int)=k by omega,B0]at hch;refine Tm.bind hch fun r2 hr2=>aY (fun hk=>aL (hr2.up hk)) (fun hkind2=>?_);obtain⟨p1,hp1,rfl⟩:=hr2.ref hkind2;unfold p9;refine aT (aL rfl) (aL (.iN (.node s.steps (bT (aI s.known e.pos).c) (k-(aI s.known e.pos).b) p1 p2) (.node h.fL.jf ((iX _).trans hcl) hp1 ?_)));rw[Fp,show-(k-(aI s.known e.pos).b)-1=(aI s.known e.pos).b-k-1 by omega];exact hp2
end
end Go.D
set_option maxHeartbeats 1000000
namespace Go.D
open Go Go.X
section
variable {sys base:List AQ} {f K μ:Nat} {s:St} {v:Nat}
def A1(s:St):Prop:=∀x∈s.items,∀y∈s.items,(∀k,k<s.n->vf y.g k=-vf x.g k)->0<(aI s.known x.pos).b+(aI s.known y.pos).b
theorem OH(h:∀i j,i<s.items.length->j<s.items.length->(∀k,k<s.n->vf (bD s j).g k=-vf (bD s i).g k)->0<(aI s.known (bD s i).pos).b+(aI s.known (bD s j).pos).b):A1 s:=by
 intro x hx y hy hg;obtain⟨i,hi,rfl⟩:=nk hx;obtain⟨j,hj,rfl⟩:=nk hy;have:=h i j hi hj;rw[l6 hi,l6 hj]at this;exact this hg
theorem fE.less{n:Nat}{dN stk':List AE}{r:bX}(h:fE sys base n stk' r)(hs:∀e∈stk',e.dA=true->e∈dN):fE sys base n dN r:=by
 cases h with
 |solved x a b c=>exact .solved x a b c
 |iN p a=>exact .iN p a
 |failed e a b=>exact .failed e (hs e a b) b
theorem Pn{R:Nat->aR->Option bX}(hf:f+1<=4)(hR:l9 sys f 260 R)(hE:mN sys f R)(hH:∀μ',μ'<μ->l9 sys (f+1) μ' R)(h:Good sys base (f+1) K s)(hσ:uC μ s)(hil:s.items.length<=iB (f+1))(hkl:s.known.length+μ+lB (f+1)<=1073741824)(hK:K+2*μ+dB (f+1)<=536870912)
 (hv:v<s.n)(hst:vf s.status v=0)(hex:¬sG s v)(hp:A1 s):Tm (fun N=>uX N (R N) s.to (v:Int)) (fE sys base s.n s.stack):=by
 have hL:cZ=1099511627776:=rfl;have hC:=mc (f+1);have hmB:=oh (f+1);have hn:=h.n;have hlN:=xX (f:=f) (m:=iB (f+1)+1) hf (bK _);have hdN:=xk (f:=f) (m:=iB (f+1)+1) hf (bK _);have hit:=h.yM (by omega);have hup:cx v s.items≠[]:=fun e=>hex (.inl e);have hcp:oZ s:=h.inv.cp hn (by omega) (by omega);unfold uX;refine Tm.bind (QO h.inv hit (by omega) h.q (by omega)) ?_;rintro⟨c,ok⟩ hc;dsimp only at hc⊢;refine Tm.bind (Q:=fun r:Sum Unit bX=>r=.inl ()\/∃z,r=.inr z/\fE sys base s.n s.stack z) (aY (fun h1=>?_) (fun h1=>aL (.inl rfl))) ?_
 . obtain⟨x,hx',y,hy',w,hw,hxu,hyu,rfl⟩:=hc h1;have b1:=(h.q _ (eL (h.inv.it x hx').1)).2;have b2:=(h.q _ (eL (h.inv.it y hy').1)).2;have d1:=jU (a:=(aI s.known x.pos).b) (b:=-(aI s.known y.pos).b) b1 (by rw[fV];exact b2);have d64:dl (64:Int)<=1:=jP (by decide);have hpos:=hp x hx' y hy' fun k hk=>by rw[hxu k hk,hyu k hk];split<;>rfl
   refine aT (mh (by omega) (by rw[fV];omega)) ?_;refine Tm.bind (Q:=fun b=>b=true->(aI s.known x.pos).b- -(aI s.known y.pos).b<=64) (aT (jT (by decide) (by decide)) (aT (j8 (by omega) (by omega)) (aY (fun h2=>?_) (fun h2=>aL fun e=>(by cases e))))) ?_
   . refine Tm.bind (TA hit hv (.inl hup)) ?_;rintro _ ⟨tt,rfl,ht⟩;exact aT (j8 (by omega) ht) (aL fun _=>CL.1 h2)
   . intro b hb;refine aY (fun h2=>?_) (fun h2=>aL (.inl rfl));have:=hb h2;exact Tm.bind (P7 hf hH h hσ hil hkl hK hx' hy' hw hxu hyu hpos (by omega)) fun r hr=>aL (.inr ⟨r,rfl,hr⟩)
 . rintro _ (rfl|⟨z,rfl,hz⟩)
   . dsimp only;refine aT (Ap hcp) (Tm.bind (LQ (m:=iB (f+1)+1) (t:=true) hf h hv hst (fun e=>by cases e) (bK _) (by omega) (by omega) (by omega)) ?_);rintro⟨ok2,x⟩ ⟨s',hs',hn',hcase⟩;dsimp only at hs' hcase⊢;subst hs';rw[iL (n:=s.to.n) (x:=s'.to) (by show(s.n:Int)=s'.n;rw[hn'])];rcases hcase with⟨rfl,hg,hgi,hgl,hgs⟩|⟨rfl,href⟩
     . refine cA (by simp) (Tm.bind (hR base (K+6) s' hg (Bl hg.n) hgi (by omega) (by omega)) fun r hr=>?_);rw[hn',hgs]at hr;refine Tm.bind (Q:=fun b=>b=true->fE sys base s.n s.stack r) (aY (fun h2=>aL fun _=>?_) (fun h2=>aL fun h3=>?_)) ?_
       . cases hr with
         |solved x a b c=>exact .solved x a b c
         |iN p a=>exact .iN p a
         |failed e a b=>exact absurd rfl h2
       . cases hr with
         |solved x a b c=>exact .solved x a b c
         |iN p a=>exact .iN p a
         |failed e a b=>
          rcases fb.1 a with a|a
          . exact .failed e a b
          . have h3:=of_decide_eq_true h3;rw[cI.1 a]at h3;exact absurd rfl h3
       . intro b hb;refine aY (fun h2=>aL (hb h2)) (fun h2=>?_);refine aT (v7 hit hv) ?_;dsimp only;have hsl:=yp (v:=v) s.items;refine aT (GV (by omega) (by omega)) ?_;generalize hUW:cx v s.items++dw v s.items=UW;have hUWl:UW.length<=s.items.length:=by rw[<-hUW,cM];omega
         refine aT (a:=(UW.map AI.pos).map Int.ofNat) (eG UW.length (fun k t=>t=(((UW.take k).map AI.pos).map Int.ofNat,(k:Int))) rfl ?_) ?_
         . rintro k hk _ rfl;dsimp only[CQ];rw[fg];refine aY (fun hlt=>?_) (fun hge=>aL ?_)
           . have hlt:k<UW.length:=by omega
             refine aN (oC hlt) (aN (dP (by simp only[cP,e9,cz,dM];omega) (by decide)) (aL ⟨hlt,?_⟩));rw[dW (by omega),<-jt hlt];simp only[jJ];rfl
           . show _=_;rw[eV (by omega)]
         . have hats:(UW.map AI.pos)=fe s v:=by rw[<-hUW];rfl
           rw[hats];refine Tm.bind (Rw hf h.inv h.rf hv hst hup hil (dw v s.items).length (dw v s.items) base K s R (bK _) hE hR ⟨h,Kept.refl s,rfl,fun x hx _=>hx,hil,fun w hw=>⟨(im.1 hw).1,(im.1 hw).1,(im.1 hw).2⟩,List.Pairwise.filter _ h.inv.j2,fun w hw=>.inl hw⟩ (by omega) (by omega)) fun r hr=>aL hr
     . refine db rfl ?_;unfold jB;exact aT (aL rfl) (aL (.iN (.leaf s'.steps) href))
   . exact aL hz
def qb(sys base:List AQ)(n:Nat)(dN:List AE)(f:Nat):aK ((List bA)×(List Step)×(List (List aB))×(List Int)×(List aB)×(List aX)×(List dJ)) bX->Prop
 |.next t=>∃f' s' K',f'<f/\t=iE s'/\s'.n=n/\(∀e∈s'.stack,e.dA=true->e∈dN)/\Good sys base f' K' s'/\s'.items.length<=iB f'/\s'.known.length+260+lB f'<=1073741824/\K'+520+dB f'<=536870912
 |.done r=>fE sys base n dN r
theorem qb.less{n f':Nat}{dN stk':List AE}{r}(h:qb sys base n stk' f' r)(hs:∀e∈stk',e.dA=true->e∈dN)(hf:f'<=f):qb sys base n dN f r:=by
 cases r with
 |next t=>
  obtain⟨f1,s',K',h1,h2,h3,h4,h5⟩:=h;exact⟨f1,s',K',by omega,h2,h3,fun e he ht=>hs e (h4 e he ht) ht,h5⟩
 |done r=>exact fE.less h hs
def AT(N:Nat)(self:aR->Option bX)(x:aR):Option (aK ((List bA)×(List Step)×(List (List aB))×(List Int)×(List aB)×(List aX)×(List dJ)) bX):=(uT N x).bind fun d=>if(!d.2)=true then(rX N x).bind fun p=>some (aK.done p) else(vj N x d.1).bind fun q=>if(!q)=true then(uX N self x d.1).bind fun v=>some (aK.done v) else(nz N x d.1 false).bind fun c=>if(!c.1)=true then(jB N (aR.mk x.n c.2.known c.2.steps c.2.u c.2.status c.2.value c.2.items c.2.stack)).bind fun y=>some (aK.done y) else some (aK.next (c.2.known,c.2.steps,c.2.u,c.2.status,c.2.value,c.2.items,c.2.stack))
theorem run_eq{N:Nat}{self:aR->Option bX}{s0:St}(hn:s0.n=s.n):uY N self s0.to (iE s)=(uo N s.to).bind fun a=>
    if(!a.2.2.2.1)=true then(jB N (aR.mk s0.to.n a.2.2.2.2.known a.2.2.2.2.steps a.2.2.2.2.u a.2.2.2.2.status a.2.2.2.2.value a.2.2.2.2.items a.2.2.2.2.stack)).bind fun m=>some (aK.done m)
    else if a.2.2.1=true then(rG N (aR.mk s0.to.n a.2.2.2.2.known a.2.2.2.2.steps a.2.2.2.2.u a.2.2.2.2.status a.2.2.2.2.value a.2.2.2.2.items a.2.2.2.2.stack) a.1 a.2.1).bind fun b=>
        if(!b.1)=true then(jB N (aR.mk s0.to.n b.2.known b.2.steps b.2.u b.2.status b.2.value b.2.items b.2.stack)).bind fun o=>some (aK.done o)
        else some (aK.next (b.2.known,b.2.steps,b.2.u,b.2.status,b.2.value,b.2.items,b.2.stack))
    else AT N self (aR.mk s0.to.n a.2.2.2.2.known a.2.2.2.2.steps a.2.2.2.2.u a.2.2.2.2.status a.2.2.2.2.value a.2.2.2.2.items a.2.2.2.2.stack):=by
  have e:aR.mk s0.to.n s.to.known s.to.steps s.to.u s.to.status s.to.value s.to.items s.to.stack=s.to:=tR hn;rw[<-e];rfl
theorem CK{R:Nat->aR->Option bX}{s0:St}(hf:f<=4)(h:Good sys base f K s)(hn0:s0.n=s.n)(hil:s.items.length<=iB f+1)(hkl:s.known.length+1<=1073741824)(hK:K+6<=536870912)
 (hkl2:∀f',f=f'+1->s.known.length+iB f+1+260+lB f'<=1073741824/\K+526+dB f'<=536870912)
 (hnone:A1 s->Tm (fun N=>AT N (R N) s.to) (qb sys base s.n s.stack f)):
 Tm (fun N=>uY N (R N) s0.to (iE s)) (qb sys base s.n s.stack f):=by
 have hL:cZ=1099511627776:=rfl;have hmB:=oh f;have hCB:=mc f;have hn:=h.n;have hsteps:=h.steps;have hso:=h.mJ (K':=K+6) (by omega) (by omega) (by omega) (by omega);have e:(fun N=>uY N (R N) s0.to (iE s))=fun N=>_:=funext fun N=>run_eq hn0;rw[e];refine Tm.bind (O9 (K:=K+6) (Kk:=K) h.inv hso (bK _) h.q ⟨by omega,by omega,by omega⟩) ?_;intro a ha;cases ha with
 |none hno=>
  refine cA (by simp) (cA (by simp) ?_);dsimp only;rw[iL (n:=s0.to.n) (x:=s.to) (by show(s0.n:Int)=s.n;rw[hn0])];exact hnone (OH hno)
 |some i j he=>
  have hf0:0<f:=Js h.inv h.fr fun e=>by have:=he.il;rw[e]at this;cases this
  obtain⟨f',rfl⟩:∃f',f=f'+1:=⟨f-1,by omega⟩;obtain⟨q1,q2⟩:=hkl2 f' rfl;refine cA (by simp) (db rfl ?_);dsimp only;rw[iL (n:=s0.to.n) (x:=s.to) (by show(s0.n:Int)=s.n;rw[hn0])];refine Tm.bind (Pk (m:=iB (f'+1)+1) (by omega) h (bK _) (by omega) (by omega) (by omega) he) ?_;rintro⟨ok,x⟩ ⟨s',hs',hn',hcase⟩;dsimp only at hs' hcase⊢;subst hs';rcases hcase with⟨rfl,hg,hgi,hgl,hgs⟩|⟨rfl,href⟩
  . exact cA (by simp) (aL ⟨f',s',K+6,by omega,rfl,hn',fun e he _=>by rw[hgs]at he;exact he,hg,hgi,by omega,by omega⟩)
  . refine db rfl ?_;unfold jB;exact aT (aL rfl) (aL (show fE sys base s.n s.stack _ from .iN (.leaf s'.steps) href))
 |bad s' L hLs hO hB hl hb=>
  have hg0:∀z∈s.items,GB (cB f) z.g:=fun z hz w hw=>by
   obtain⟨j,hj,rfl⟩:=gm hw;exact h.co z hz j (by rw[(h.inv.it z hz).2]at hj;exact hj)
  have hA:=vJ (K:=K) (M:=cB f) L s h.inv hLs hg0 fun a ha=>by
   have:=hB a ha;cases a with
   |add x=>exact fun v hv=>bO (this v hv) (fC _)
   |put g us=>exact fun v hv=>bO (this v hv) (fC _)
  have hsok:=vn (Kk:=K) (K:=K+6) L s hso ⟨by omega,by omega,by omega⟩ hO (bK _);rw[hb]at hA hsok;refine db rfl ?_;unfold jB;have href:Ref s.n base (.leaf s'.steps):=BM hA.inv hA.kept.n (hA.jf base h.jf) (by have:=hA.kl;omega) (fun q hq=>(hsok.k q hq).1.mono (by omega)) (hA.bad rfl);exact aT (aL rfl) (aL (show fE sys base s.n s.stack _ from .iN (.leaf s'.steps) href))
theorem Rz(h:Good sys base f K s)(hK:K<=536870912)(hkl:s.known.length<=1073741824)(hi:s.items=[]):Tm (fun N=>rX N s.to) (fE sys base s.n s.stack):=by
 have hu:=ze f;refine(Sz (K:=K) (Ku:=uB f) ⟨h.n,hK,by omega,h.su,fun q hq=>⟨h.q q hq,h.inv.kl q hq⟩,hkl⟩ h.inv hi h.st h.rf.F).mono ?_;rintro r (⟨x,rfl,xl,xd,y,hy,hxy⟩|⟨e,he,ht,rfl⟩)
 . refine .solved x xl xd fun q hq=>?_;have:=h.rf.R y hy q hq;unfold lq;rw[eD (f:=vf q.c) (f':=vf q.c) (g:=vf x) (g':=ux s y) (fun _ _=>rfl) hxy];exact this
 . exact .failed e he ht
theorem I8{R:Nat->aR->Option bX}(hf:f<=4)(hR:∀f',f=f'+1->l9 sys f' 260 R/\mN sys f' R)(hH:∀μ',μ'<μ->l9 sys f μ' R)(h:Good sys base f K s)(hσ:uC μ s)(hil:s.items.length<=iB f)(hkl:s.known.length+μ+lB f<=1073741824)(hK:K+2*μ+dB f<=536870912)(hp:A1 s):
 Tm (fun N=>AT N (R N) s.to) (qb sys base s.n s.stack f):=by
 have hL:cZ=1099511627776:=rfl;have hmB:=oh f;have hn:=h.n;have hit:=h.yM (by omega);unfold AT;refine Tm.bind (Ul hit h.inv.fR (by omega)) ?_;rintro⟨v,ok⟩ (⟨h1,v,rfl,hv,hst,x,hx',hx0⟩|⟨h1,h2⟩)
 . dsimp only at h1⊢;subst h1;have hf0:0<f:=Js h.inv h.fr fun e=>by rw[e]at hx';cases hx'
   obtain⟨f',rfl⟩:∃f',f=f'+1:=⟨f-1,by omega⟩;obtain⟨hR1,hR2⟩:=hR f' rfl;have hlN:=xX (f:=f') (m:=iB (f'+1)+1) hf (bK _);have hdN:=xk (f:=f') (m:=iB (f'+1)+1) hf (bK _);refine cA (by simp) (Tm.bind (TZ hit hv) fun q hq=>aY (fun h3=>?_) (fun h3=>?_))
   . have hex:¬sG s v:=fun e=>by rw[hq.2 e]at h3;cases h3
     exact Tm.bind (Pn hf hR1 hR2 hH h hσ hil hkl hK hv hst hex hp) fun r hr=>aL hr
   . have hex:sG s v:=hq.1 (by simpa using h3);refine Tm.bind (LQ (m:=iB (f'+1)+1) (t:=false) hf h hv hst (fun _=>hex) (bK _) (by omega) (by omega) (by omega)) ?_;rintro⟨ok2,x⟩ ⟨s',hs',hn',hcase⟩;dsimp only at hs' hcase⊢;subst hs';rcases hcase with⟨rfl,hg,hgi,hgl,hgs⟩|⟨rfl,href⟩
     . refine cA (by simp) (aL ⟨f',s',K+6,by omega,rfl,hn',fun e he ht=>?_,hg,hgi,by omega,by omega⟩);rw[hgs]at he;rcases fb.1 he with he|he
       . exact he
       . rw[cI.1 he]at ht;cases ht
     . refine db rfl ?_;unfold jB;exact aT (aL rfl) (aL (show fE sys base s.n s.stack _ from .iN (.leaf s'.steps) href))
 . dsimp only at h1 h2⊢;subst h1;have hi:s.items=[]:=by
    cases hi:s.items with
    |nil=>rfl
    |cons x l=>
     obtain⟨w,w1,w2,w3⟩:=xg h.inv (x:=x) (by rw[hi];simp);exact absurd (h2 w w1 w3 x (by rw[hi];simp)) w2
   exact db rfl (Tm.bind (Rz h (by omega) (by omega) hi) fun r hr=>aL hr)
theorem JU(hf:f<=4)(hR:∀f',f'<f->∀μ,l9 sys f' μ fun N=>jN N)(hE:∀f',f'+1<f->mN sys f' fun N=>jN N)(h:Good sys base f K s)
 (hfst:Tm (fun N=>uY N (jN N) s.to (iE s)) (qb sys base s.n s.stack f)):Tm (fun N=>jN N s.to) (fE sys base s.n s.stack):=by
 refine Tm.succ ?_;show Tm (fun N=>wa N (jN N) s.to) _;unfold wa;refine Tm.bind (Q:=fE sys base s.n s.stack) (Tm.uv (fun(g:Nat×St) t=>t=iE g.2/\(g=(f,s)\/(g.1<f/\g.2.n=s.n/\(∀e∈g.2.stack,e.dA=true->e∈s.stack)/\∃K',Good sys base g.1 K' g.2/\g.2.items.length<=iB g.1/\g.2.known.length+260+lB g.1<=1073741824/\K'+520+dB g.1<=536870912))) (fun g=>g.1) (f,s) ⟨rfl,.inl rfl⟩ ?_) fun r hr=>aL hr;rintro⟨f1,s1⟩ _ ⟨rfl,hg⟩;have fin:∀{t},qb sys base s.n s.stack f1 t->f1<=f->(match t with|.next s'=>∃g':Nat×St,(s'=iE g'.2/\(g'=(f,s)\/(g'.1<f/\g'.2.n=s.n/\(∀e∈g'.2.stack,e.dA=true->e∈s.stack)/\∃K',Good sys base g'.1 K' g'.2/\g'.2.items.length<=iB g'.1/\g'.2.known.length+260+lB g'.1<=1073741824/\K'+520+dB g'.1<=536870912)))/\g'.1<((f1,s1):Nat×St).1|.done r=>fE sys base s.n s.stack r):=by
  intro t ht hle;cases t with
  |next t=>
   obtain⟨f2,s2,K2,h1,h2,h3,h4,h5,h6,h7,h8⟩:=ht;exact⟨(f2,s2),⟨h2,.inr ⟨by show f2<f;omega,h3,h4,K2,h5,h6,h7,h8⟩⟩,h1⟩
  |done r=>exact ht
 rcases hg with hg|⟨hlt,hn1,hst1,K1,hG,hi1,hl1,hk1⟩
 . obtain⟨rfl,rfl⟩:=Prod.mk.inj hg;refine hfst.mono fun t ht=>?_;have:=fin ht (bK _);cases t<;>exact this
 . dsimp only at hlt hn1 hst1 hG hi1 hl1 hk1;have hstep:=CK (R:=fun N=>jN N) (s0:=s) (by omega) hG hn1.symm (by omega) (by omega) (by omega)
    (fun f' e=>by
     subst e;have hlN:=xX (f:=f') (m:=iB (f'+1)+1) (by omega) (bK _);have hdN:=xk (f:=f') (m:=iB (f'+1)+1) (by omega) (bK _);have:=mc (f'+1);omega)
    fun hp=>I8 (μ:=260) (by omega) (fun f' e=>⟨hR f' (by omega) 260,hE f' (by omega)⟩) (fun μ' _=>hR f1 hlt μ') hG (Bl hG.n) hi1 hl1 (by omega) hp
   refine hstep.mono fun t ht=>?_;rw[hn1]at ht;have:=fin (ht.less hst1 (bK _)) (by omega);cases t<;>exact this
theorem On(sys:List AQ):∀f,f<=4->(∀μ,l9 sys f μ fun N=>jN N)/\∀f',f=f'+1->mN sys f' fun N=>jN N:=by
  intro f
  induction f using Nat.strongRecOn with
  |ind f ih=>
    intro hf;have hR:∀f',f'<f->∀μ,l9 sys f' μ fun N=>jN N:=fun f' hlt=>(ih f' hlt (by omega)).1;have hE0:∀f',f'+1<f->mN sys f' fun N=>jN N:=fun f' hlt=>(ih (f'+1) hlt (by omega)).2 f' rfl;have hE:∀f',f=f'+1->mN sys f' fun N=>jN N:=by
      rintro f' rfl base K s x hG hx' ho hil hkl hK;refine JU hf hR hE0 hG (CK hf hG rfl hil (by omega) (by omega) (fun f2 e=>by
        obtain rfl:f'=f2:=by omega
        omega) fun hp=>?_)
      obtain⟨y,hy,y1,y2⟩:=ho;have:=hp x hx' y hy fun k hk=>by rw[y1,ir]
      omega
    refine⟨fun μ=>?_,hE⟩
    induction μ using Nat.strongRecOn with
    |ind μ ihμ=>
      intro base K s hG hσ hil hkl hK;refine JU hf hR hE0 hG (CK hf hG rfl (by omega) (by
        match f with
        | 0 => have : lB 0 = 10 := rfl
               omega
        | f' + 1 => have hlN := xX (f := f') (m := iB (f' + 1) + 1) (by omega) (bK _)
                    omega) (by
        match f with
        | 0 => have : dB 0 = 10 := rfl
               omega
        | f' + 1 => have hdN := xk (f := f') (m := iB (f' + 1) + 1) (by omega) (bK _)
                    omega)
        (fun f' e=>by
          subst e;have hlN:=xX (f:=f') (m:=iB (f'+1)+1) (by omega) (bK _);have hdN:=xk (f:=f') (m:=iB (f'+1)+1) (by omega) (bK _);omega)
        fun hp=>I8 hf (fun f' e=>⟨hR f' (by omega) 260,hE f' e⟩) ihμ hG hσ hil hkl hK hp)
end
end Go.D
set_option maxHeartbeats 1000000
namespace Go.D
open Go Go.X
def qd(n i:Nat):List Int:=vec n fun j=>if i=j then 1 else 0
def nS(n:Nat)(sys:List AQ):St:=⟨n,sys,[],(List.range n).map (qd n),List.replicate n 0,List.replicate n 0,[],[]⟩
theorem tmNew{n:Nat}{sys:List AQ}(hn:n<=512)(hl:sys.length<=1073741824):Tm (fun N=>xE N (n:Int) (sys.map AQ.to)) (·=(nS n sys).to):=by
 unfold xE;refine aT (a:=sys.map AQ.to) ?_ ?_
 . unfold zr;exact aN (dP (by rw[cP];simp only[dM];omega) (by decide)) (aL (iQ _))
 refine aN (gN (n:=n) rfl (by omega) (by decide)) (aN (gN (n:=n) rfl (by omega) (by decide)) ?_);refine aT (a:=((List.range n).map (qd n)).map mB) (eG n (fun k t=>t=(((List.range k).map (qd n)).map mB,(k:Int))) rfl ?_) (aL ?_)
 . rintro k hk _ rfl;dsimp only[Ej];refine aY (fun hlt=>?_) (fun hge=>aL ?_)
   . have hlt:k<n:=by omega
     refine aN (gN (n:=n) rfl (by omega) (by decide)) ?_;rw[<-o8];refine aT (jT (by decide) (by decide)) (aN (ej (l:=List.replicate n 0) (by simpa using hlt)) (aN (dV (xs:=mB (List.replicate n 0)) rfl (by rw[dE];simpa using hlt)) (aN (dP (by simp only[cP,List.length_range,cz,dM];omega) (by decide)) (aL ⟨hlt,?_⟩))));rw[dW (by omega),List.range_succ,uz];simp only[jJ,jY,List.map_nil];have:(List.replicate n (0:Int)).set k 1=qd n k:=by
      refine l8 (by unfold qd;rw[iS,fh];simp) fun j hj=>?_;have hj:j<n:=by simpa using hj
      unfold qd;rw[jR (by simpa using hlt),dK hj,wQ,dK hj]
     rw[this]
   . have:k=n:=by omega
     subst this;rfl
 . show aR.mk _ _ _ _ _ _ _ _=(nS n sys).to;unfold nS St.to;dsimp only;rw[o8];rfl
section
variable {n:Nat} {sys:List AQ}
theorem zN{i j:Nat}(hi:i<n)(hj:j<n):mx (nS n sys).u i j=if i=j then 1 else 0:=by
 unfold mx nS;dsimp only;rw[cy,gM,Gh hi];exact dK hj
theorem nS_cu{c:List Int}{j:Nat}(hj:j<n):cu (nS n sys).u n c j=vf c j:=by
 unfold cu;rw[eD (f:=vf c) (f':=vf c) (g':=fun i=>if i=j then 1 else 0) (fun _ _=>rfl) fun i hi=>zN hi hj,oG hj]
theorem nS_ux{y:Nat->Int}{i:Nat}(hi:i<n):ux (nS n sys) y i=y i:=by
 unfold ux;show bE (mx (nS n sys).u i) y n=_;rw[eD (f':=fun j=>if i=j then 1 else 0) (g:=y) (g':=y) (fun j hj=>zN hi hj) fun _ _=>rfl,pC,Ja hi]
theorem CO{m j:Nat}:vf (List.replicate m (0:Int)) j=0:=by
 rcases cw j m with h|h
 . rw[wQ,dK h]
 . rw[mL (by simpa using h)]
theorem NA(hq:∀q∈sys,q.c.length=n):Inv (nS n sys)where
 ul:=⟨by simp[nS],fun r hr=>by
  obtain⟨i,_,rfl⟩:=dL.1 hr;exact fh⟩
 fR:=by simp[nS]
 vl:=by simp[nS]
 kl:=hq
 it x hx:=by cases hx
 dp x hx:=by cases hx
 nf x hx:=by cases hx
 gF x hx:=by cases hx
 j2:=List.Pairwise.nil
 kp:=by
  refine⟨fun i j=>if i=j then 1 else 0,fun i hi k hk=>?_,fun i hi k hk=>?_⟩
  . have hi:i<n:=hi;have hk:k<n:=hk;show bE (mx (nS n sys).u i) (fun j=>if j=k then 1 else 0) n=_;rw[oG hk];exact zN hi hk
  . have hi:i<n:=hi;have hk:k<n:=hk;show bE (fun j=>if i=j then 1 else 0) (fun j=>mx (nS n sys).u j k) n=_;rw[pC,Ja hi];exact zN hi hk
 stat j _:=.inl CO
 sv e he:=by cases he
 s2 j _ h:=by rw[show vf (nS n sys).status j=0 from CO]at h;omega
 sd:=List.Pairwise.nil
structure Dq (n:Nat)(sys:List AQ):Prop where
 hn:n<=4
 l:sys.length<=32
 q:∀q∈sys,q.c.length=n/\(∀v∈q.c,v.natAbs<=50)/\dl q.b<=100000000
theorem Tg{s:St}{a:Act}(h:a∈gu s):∃i,i<s.known.length/\a=.put (aI s.known i).c [⟨i,1⟩]:=by
 obtain⟨i,hi,rfl⟩:=dL.1 h;exact⟨i,pP.1 hi,rfl⟩
theorem My{p:Nat->Bool}:∀{n:Nat},ij p n<=n
 |0=>bK _
 |n+1=>by
  have:=My (p:=p) (n:=n);simp only[ij];split<;>omega
theorem QN(h:Dq n sys):Tm (fun N=>vm N (nS n sys).to) (Nxt sys sys n 100000006 64 n []):=by
 have hn:=h.hn;have hl:=h.l;have hI:=NA fun q hq=>(h.q q hq).1;have hfit:∀q∈sys,fD 100000000 q:=fun q hq=>⟨fun v hv=>bO (jP (by have:=(h.q q hq).2.1 v hv;omega)) (by decide),(h.q q hq).2.2⟩;have hso:gv 100000006 (nS n sys):=⟨by show n<=_;omega,by show sys.length<=_;omega,by show 0<=_;omega,by show 0<=_;omega,fun q hq=>⟨(hfit q hq).mono (by omega),(h.q q hq).1⟩,fun x hx=>(by cases hx),by decide⟩;have hroom:ji sys.length (nS n sys):=⟨by show sys.length+_<=_;omega,by show 0+_<=_;omega,by show 0+_<=_;omega⟩;have hact:∀a∈gu (nS n sys),(lh 100000000 (nS n sys) a/\wB 50 a)/\mY 100000000 (nS n sys) a:=by
  intro a ha;obtain⟨i,hi,rfl⟩:=Tg ha;have hi:i<sys.length:=hi;have hq:=eL hi;obtain⟨q1,q2,q3⟩:=h.q _ hq;have hd:∀v∈(aI sys i).c,dl v<=1:=fun v hv=>jP (by have:=q2 v hv;omega);have hP:gD 100000000 (nS n sys) (aI sys i).c [⟨i,1⟩]:=⟨q1,fun v hv=>bO (hd v hv) (by decide),by simp,by simp,fun u hu=>by
   rw[cI.1 hu];exact⟨hi,GI 1,bO jw (by decide),hfit _ hq,q1⟩⟩
  refine⟨⟨hP,q2⟩,hP,⟨fun j hj=>?_,fun j hj hs=>absurd (show vf (nS n sys).status j=0 from CO) hs⟩,?_⟩
  . have hj:j<n:=hj;show _=cu (nS n sys).u n (vec n (eb sys [⟨i,1⟩])) j;rw[nS_cu hj,dK hj];show _=1*vf (aI sys i).c j+0;show vf (aI sys i).c j=_;omega
  . unfold dv;split
    . exact bO jw (by decide)
    . exact bO (ur hd) (by decide)
 have hbl:(gu (nS n sys)).length=sys.length:=by simp[gu,nS]
 have hA:=vJ (K:=100000000) (M:=50) (gu (nS n sys)) (nS n sys) hI (fun a ha=>(hact a ha).2) (fun z hz=>by cases hz) fun a ha=>(hact a ha).1.2;have hsok:=vn (Kk:=100000000) (gu (nS n sys)) (nS n sys) hso (by rw[hbl];exact hroom) (fun a ha=>(hact a ha).1.1) (by decide);refine(Pq (K0:=100000000) hso hroom (by decide) fun q hq=>⟨hfit q hq,fun v hv=>bO (jP (by have:=(h.q q hq).2.1 v hv;omega)) (by decide)⟩).mono ?_;rintro _ rfl;have hnn:(bU (nS n sys) (gu (nS n sys))).2.n=n:=hA.kept.n;have hkl:(bU (nS n sys) (gu (nS n sys))).2.known.length<=64:=by
  have:=hA.kl;have e:(nS n sys).known.length=sys.length:=rfl;omega
 have hil:(bU (nS n sys) (gu (nS n sys))).2.items.length<=32:=by
  have:=hA.il;have e:(nS n sys).items.length=0:=rfl;omega
 have hder:gX n sys (bU (nS n sys) (gu (nS n sys))).2.steps (bU (nS n sys) (gu (nS n sys))).2.known:=hA.jf sys .nil;refine⟨_,rfl,hnn,?_⟩;cases hb:(bU (nS n sys) (gu (nS n sys))).1 with
 |false=>exact .inr ⟨rfl,BM hA.inv hnn hder (by omega) (fun q hq=>(hsok.k q hq).1.mono (by omega)) (hA.bad hb)⟩
 |true=>
  rw[hb]at hA;have hstk:(bU (nS n sys) (gu (nS n sys))).2.stack=[]:=hA.kept.dN;have hfr:ik (bU (nS n sys) (gu (nS n sys))).2<=n:=by unfold ik;rw[hnn];exact My
  have hu:=ze n;have hux:∀y i,i<n->ux (bU (nS n sys) (gu (nS n sys))).2 y i=y i:=fun y i hi=>by
   rw[<-nS_ux (sys:=sys) (y:=y) hi];unfold ux;rw[hA.kept.u,hA.kept.n]
  refine .inl ⟨rfl,⟨hA.inv,⟨fun y hy q hq=>?_,fun k e hk=>(by rw[hstk]at hk;cases hk)⟩,by rw[hnn];exact hn,hfr,?_,fun q hq=>(hsok.k q hq).1,?_,fun e he=>(by rw[hstk]at he;cases he),by rw[hnn];exact hder⟩,?_,hkl,hstk⟩
  . obtain⟨i,hi,rfl⟩:=nk hq;have:=(hA.imp rfl y hy.2.1).2 (.put (aI sys i).c [⟨i,1⟩]) (dL.2 ⟨i,pP.2 hi,rfl⟩);have this:bE (vf (aI sys i).c) y n<=1*(aI sys i).b+0:=this;rw[hnn,<-tP hi,eD (f:=vf (aI sys i).c) (f':=vf (aI sys i).c) (g':=y) (fun _ _=>rfl) fun j hj=>hux y j hj];omega
  . intro x hx j hj;have h1:(vf x.g j).natAbs<=50:=hA.gb x hx _ (fU (by rw[(hA.inv.it x hx).2];exact hj))
    match n,hfr with
    |0,hfr=>exact A7 hA.inv (by omega) x hx j hj
    |1,hfr=>exact A7 hA.inv hfr x hx j hj
    |2,_=>exact bO h1 (by decide)
    |3,_=>exact bO h1 (by decide)
    |m+4,_=>exact h1
  . refine⟨⟨by rw[hA.kept.u,hnn];simp[nS],fun r hr=>?_⟩,by rw[hA.kept.status,hnn];simp[nS],by rw[hA.kept.value,hnn];exact⟨by simp[nS],fun v hv=>by rw[(tv.1 (show v∈List.replicate n 0 from hv)).2,ie];omega⟩⟩;rw[hA.kept.u]at hr;obtain⟨i,hi,rfl⟩:=dL.1 hr;rw[hnn];refine⟨fh,fun v hv=>?_⟩;obtain⟨j,hj,rfl⟩:=gm hv;rw[show(qd n i).length=n from fh]at hj;unfold qd;rw[dK hj];refine bO (m:=1) (jP ?_) (by omega);split<;>decide
  . match n,hfr with
    |0,hfr=>rw[C0 hA.inv (by omega)];simp
    |1,hfr=>exact IF hA.inv hfr
    |2,_=>exact bO hil (by decide)
    |3,_=>exact bO hil (by decide)
    |m+4,_=>exact hil
theorem NU(h:Dq n sys):Tm (fun N=>qM N (n:Int) (sys.map AQ.to)) (fE sys sys n []):=by
 have hn:=h.hn;have hl:=h.l;unfold qM;refine aT (tmNew (by omega) (by omega)) (Tm.bind (QN h) ?_);rintro⟨ok,x⟩ ⟨s',hs',hn',hcase⟩;dsimp only at hs' hcase⊢;subst hs';rw[iL (n:=(nS n sys).to.n) (x:=s'.to) (by show(n:Int)=s'.n;rw[hn'])];rcases hcase with⟨rfl,hg,hgi,hgl,hgs⟩|⟨rfl,href⟩
 . refine cA (by simp) (Tm.bind ((On sys n hn).1 260 sys 100000006 s' hg (Bl hg.n) hgi ?_ ?_) fun r hr=>aL ?_)
   . have:lB n<=542800000:=by
      match n with
      |0=>decide
      |1=>decide
      |2=>decide
      |3=>decide
      |m+4=>exact bK _
     omega
   . have:dB n<=400400000:=by
      match n with
      |0=>decide
      |1=>decide
      |2=>decide
      |3=>decide
      |m+4=>exact bK _
     omega
   . rw[hn',hgs]at hr;exact hr
 . refine db rfl ?_;unfold jB;exact aT (aL rfl) (aL (.iN (.leaf s'.steps) href))
end
end Go.D
set_option maxHeartbeats 1000000
namespace Go.D
open Go Go.X
def cV(n:Nat)(c:Constraint):List Int:=fW c n c.Linear.aZ.length
def cQ(n:Nat)(c:Constraint):List AQ:=if c.iC=true then[⟨cV n c,-c.Linear.Const⟩,⟨bT (cV n c),c.Linear.Const⟩]else[⟨cV n c,-c.Linear.Const⟩]
def kD(n:Nat)(l:List Constraint):List AQ:=l.flatMap (cQ n)
theorem Cz{n:Nat}{c:Constraint}:(cV n c).length=n:=by unfold cV;rw[se];simp
theorem Ho{l:List Int}:eZ (mB l) l:=⟨dE l,fun j h h'=>by rw[Cr];exact mR _⟩
theorem Rk{l:List Int}:bT l=l.map fun v=>-v:=by
 apply pR (by rw[iX,cP]);intro i h1 h2;rw[<-kB h1,ir,kO,kB]
theorem SM{n:Nat}{c:Constraint}(h:fF c n):od c n ((cQ n c).map AQ.to):=by
 refine .inr ⟨h,(⟨cV n c,-c.Linear.Const⟩:AQ).to,⟨Ho,mR _⟩,?_⟩;unfold cQ;cases he:c.iC with
 |false=>exact .inl ⟨rfl,by simp⟩
 |true=>
  refine .inr ⟨rfl,(⟨bT (cV n c),c.Linear.Const⟩:AQ).to,⟨?_,mR _⟩,by simp⟩;show eZ (mB (bT (cV n c))) ((cV n c).map fun v=>-v);rw[Rk];exact Ho
theorem G1{n:Nat}:∀{l:List Constraint},(∀c∈l,fF c n)->kx n l ((kD n l).map AQ.to)
 |[],_=>rfl
 |c::l,h=>⟨_,_,SM (h c cK),G1 fun d hd=>h d (cG _ hd),by unfold kD;rw[Cj,jJ]⟩
theorem JB{n:Nat}{l:List Constraint}(h:∀c∈l,fF c n):qG l n ((kD n l).map AQ.to):=.inl ⟨h,G1 h⟩
structure je (n:Nat)(l:List Constraint):Prop where
 hn:n<=4
 len:l.length<=16
 right:∀c∈l,fF c n
 const:∀c∈l,eY c.Linear.Const
 lE:∀c∈l,∀k∈c.Linear.aZ,k.N.natAbs<=50
section
variable {n:Nat} {l:List Constraint}
theorem je.cl(h:je n l){c:Constraint}(hc:c∈l):c.Linear.aZ.length<=4:=by
 have:=UB (h.right c hc);have:=h.hn;omega
theorem je.okc(h:je n l):∀c∈l,nA c:=fun c hc=>⟨by have:=h.cl hc;omega,h.const c hc,fun k hk=>by have:=h.lE c hc k hk;unfold eY;omega⟩
theorem RA{P:Int->Prop}(h0:P 0){c:Constraint}{n:Int}(hc:∀k∈c.Linear.aZ,P k.N):∀k,∀v∈fW c n k,P v:=by
 intro k;unfold fW;have key:∀(cs:List gU) (v:List Int),(∀k∈cs,P k.N)->(∀x∈v,P x)->∀x∈cs.foldl qa v,P x:=by
  intro cs
  induction cs with
  |nil=>intro v _ hv;exact hv
  |cons a cs ih=>
   intro v ha hv;refine ih (qa v a) (fun k hk=>ha k (cG _ hk)) fun x hx=>?_;rcases pO hx with hx|rfl
   . exact hv x hx
   . exact ha a cK
 exact key _ _ (fun k hk=>hc k (tu hk)) fun x hx=>by rw[(tv.1 hx).2];exact h0
theorem T5{c:Constraint}:(cQ n c).length<=2:=by unfold cQ;split<;>simp
theorem H9:∀{l:List Constraint},(kD n l).length<=2*l.length
 |[]=>by simp[kD]
 |c::l=>by
  have:=H9 (l:=l);have:=T5 (n:=n) (c:=c);unfold kD at*;rw[Cj,cM,cz];omega
theorem je.sys(h:je n l):Dq n (kD n l):=by
 refine⟨h.hn,by have:=h.len;have:=H9 (n:=n) (l:=l);omega,fun q hq=>?_⟩;obtain⟨c,hc,hq⟩:=vW.1 hq;have hv:∀v∈cV n c,v.natAbs<=50:=RA (P:=fun v=>v.natAbs<=50) (by decide) (h.lE c hc) _;have hi:=h.const c hc;unfold eY at hi;have d1:dl c.Linear.Const<=2:=DB (by omega);have d2:dl (-c.Linear.Const)<=2:=DB (by omega);have hneg:∀v∈bT (cV n c),v.natAbs<=50:=fun v hv'=>by rw[<-Cm];exact hv _ (C7 hv')
 unfold cQ at hq;split at hq
 . rcases dT.1 hq with rfl|hq
   . exact⟨Cz,hv,bO d2 (by decide)⟩
   . rw[cI.1 hq];exact⟨(iX _).trans Cz,hneg,bO d1 (by decide)⟩
 . rw[cI.1 hq];exact⟨Cz,hv,bO d2 (by decide)⟩
def qK(c:Constraint)(x:List Int):Int:=c.Linear.Const+qJ c x c.Linear.aZ.length
def me(l:List Constraint)(x:List Int):Prop:=∀c∈l,qK c x<=0/\(c.iC=true->qK c x=0)
theorem IC{a b:List Int}:∀m,bE (vf a) (vf b) m=nC a b m
 |0=>rfl
 |m+1=>by show bE _ _ m+_=_;rw[IC m];rfl
theorem Ik{c:Constraint}{x:List Int}(hx:x.length=n)(h:fF c n):(∀q∈cQ n c,lq n (vf x) q)↔(qK c x<=0/\(c.iC=true->qK c x=0)):=by
 have h1:bE (vf (cV n c)) (vf x) n=qJ c x c.Linear.aZ.length:=by
  rw[IC];have:=Ur (c:=c) (x:=x) (by rw[hx];exact h) (k:=c.Linear.aZ.length) (bK _);rw[hx]at this;exact this
 have h2:bE (vf (bT (cV n c))) (vf x) n=-qJ c x c.Linear.aZ.length:=by rw[GU,h1]
 unfold cQ qK;cases he:c.iC with
 |false=>
  simp only[ml,if_false,cI,forall_eq,lq,h1,false_implies,and_true];omega
 |true=>
  simp only[if_true,dT,M4,or_false,forall_eq_or_imp,forall_eq,lq,h1,h2,true_implies];omega
theorem sat_iff{x:List Int}(hx:x.length=n)(h:∀c∈l,fF c n):(∀q∈kD n l,lq n (vf x) q)↔me l x:=by
 unfold me kD;constructor
 . exact fun hs c hc=>(Ik hx (h c hc)).1 fun q hq=>hs q (vW.2 ⟨c,hc,hq⟩)
 . intro hs q hq;obtain⟨c,hc,hq⟩:=vW.1 hq;exact(Ik hx (h c hc)).2 (hs c hc) q hq
theorem HA{c:Constraint}{x:List Int}:∀k,pg c.Linear (mB x) k=c.Linear.Const+qJ c x k
 |0=>by show c.Linear.Const=c.Linear.Const+0;omega
 |k+1=>by
  rw[pg,qJ,HA k,AN,gz];show _+_*vf x _=_+(_+_*vf x _);omega
theorem je.sum(h:je n l){x:List Int}(hx:x.length=n)(hd:∀v∈x,dl v<=137438953472):∀c∈l,ED c.Linear (mB x):=fun c hc=>by
 refine⟨by have:=h.cl hc;omega,h.const c hc,fun k hk=>?_,fun b hb=>?_⟩
 . obtain⟨i,hi,rfl⟩:=nk hk;have:=(h.right c hc).1 i hi;have h50:=h.lE c hc _ hk;exact⟨by unfold eY;omega,this.1,by rw[dE,hx];exact this.2.1⟩
 . obtain⟨v,hv,rfl⟩:=dL.1 hb;exact okB (hd v hv)
theorem Mn(h:je n l){x:List Int}(hx:x.length=n)(hd:∀v∈x,dl v<=137438953472):Tm (fun N=>ra N l (mB x)) (fun r=>r=true↔me l x):=by
 refine(QV (by have:=h.len;omega) (h.sum hx hd)).mono fun r hr=>?_;rw[hr,tp];unfold me;refine forall_congr' fun c=>forall_congr' fun hc=>?_;unfold qp;rw[HA];show(!(decide (0<qK c x)||(decide (qK c x<0)&&c.iC)))=true↔_;cases c.iC<;>simp<;>omega
theorem tmOwn(hl:l.length<=1073741824)(hc:∀c∈l,c.Linear.aZ.length<=1073741824):Tm (fun N=>yj N l) (·=l):=by
 unfold yj;refine aT (a:=l) (eG l.length (fun k t=>t=(l.take k,(k:Int))) rfl ?_) (aL rfl);rintro k hk _ rfl;dsimp only[FG];refine aY (fun hlt=>?_) (fun hge=>aL ?_)
 . have hlt:k<l.length:=by omega
   have:=hc _ (dt hlt);refine aN (dd hlt) (aN (dP (by simp only[dM];omega) (by decide)) (aN (dP (by rw[e9];simp only[cz,dM];omega) (by decide)) (aL ⟨hlt,?_⟩)));rw[dW (by omega),<-jt hlt];rfl
 . show _=_;rw[eV (by omega)]
def EW(n:Nat)(l:List Constraint):Prop:=∃x:List Int,x.length=n/\me l x
theorem Ua(h:je n l):Tm (fun N=>pS N (n:Int) l) (fun r=>(∃x:List Int,r=(mB x,rF,true)/\x.length=n/\(∀v∈x,dl v<=137438953472)/\me l x)\/(∃p:kW,r=([],p.to,false)/\Ref n (kD n l) p)):=by
 unfold pS;refine aT (a:=(kD n l).map AQ.to) ((Q1 h.okc (by have:=h.len;omega)).mono fun r hr=>hr.uniq (JB h.right)) (Tm.bind (NU h.sys) ?_);intro r hr;cases hr with
 |solved x xl xd xs=>exact db rfl (aL (.inl ⟨x,rfl,xl,xd,(sat_iff xl h.right).1 xs⟩))
 |iN p hp=>exact cA (by show¬(1:Int)=0;decide) (aL (.inr ⟨p,rfl,hp⟩))
 |failed e he ht=>cases he
theorem ON{p:kW}(hr:∀c∈l,fF c n)(h:Ref n (kD n l) p):¬EW n l:=by
 rintro⟨x,hx,hs⟩;exact h.sound (vf x) ((sat_iff hx hr).2 hs)
theorem QK(h:je n l){p:kW}(hp:Ref n (kD n l) p):Tm (fun N=>si N (n:Int) l p.to) (·=true):=by
 unfold si;refine aT (a:=(kD n l).map AQ.to) ((Ps h.okc (by have:=h.len;omega)).mono fun r hr=>hr.uniq (JB h.right)) ?_;refine aT (OU (by have:=h.hn;omega) hp fun e=>?_) (aL rfl);rw[e]at hp;exact hp.sound (fun _=>0) fun q hq=>by cases hq
theorem Q6(h:je n l):Tm (fun N=>xj N (n:Int) l) (fun r=>r.2=true/\(r.1=true↔EW n l)):=by
 unfold xj;refine aT (tmOwn (by have:=h.len;omega) fun c hc=>by have:=h.cl hc;omega) (Tm.bind (Ua h) ?_);rintro _ (⟨x,rfl,xl,xd,xs⟩|⟨p,rfl,hp⟩)
 . refine db rfl (db (by rw[dE];omega) (Tm.bind (Mn h xl xd) fun r hr=>aL ⟨hr.2 xs,fun _=>⟨x,xl,xs⟩,fun _=>rfl⟩))
 . refine cA (by simp) (db rfl (aT (QK h hp) (aL ⟨rfl,fun e=>(by cases e),fun e=>absurd e (ON h.right hp)⟩)))
structure Ay (n:Int)(l:List Constraint)(most:Int):Prop where
 const:∀c∈l,-1000000<=c.Linear.Const/\c.Linear.Const<=1000000
 lE:∀c∈l,∀k∈c.Linear.aZ,-most<=k.N/\k.N<=most
 hn:n<=4
 len:l.length<=6
 right:D5 l n
theorem Qz{n:Int}{l:List Constraint}{most:Int}(hl:l.length<=9223372036854775807)(hc:∀c∈l,c.Linear.aZ.length<=9223372036854775807)(hm:0<=most/\most<=100):Tm (fun N=>xA N n l most) (fun r=>r=true->Ay n l most):=by
 unfold xA;refine Tm.bind (Tm.each (body:=fun N=>xV N l most) l (fun c=>(-1000000<=c.Linear.Const/\c.Linear.Const<=1000000)/\∀k∈c.Linear.aZ,-most<=k.N/\k.N<=most) (Q:=fun r=>r=.inr false\/(r=.inl ()/\∀c∈l,(-1000000<=c.Linear.Const/\c.Linear.Const<=1000000)/\∀k∈c.Linear.aZ,-most<=k.N/\k.N<=most)) hl ?_ ?_) ?_
 . intro k hk _;dsimp only[xV];have hcl:=hc _ (dt hk);refine db (by omega) (aN (dd hk) (Tm.bind (Q:=fun b=>b=false->(-1000000<=l[k].Linear.Const/\l[k].Linear.Const<=1000000)) (aY (fun h=>aL fun e=>(by cases e)) (fun h=>aL fun e=>?_)) ?_))
   . have:=of_decide_eq_false e;omega
   . intro b hb;refine aY (fun h=>aL (.inr ⟨_,rfl,.inl rfl⟩)) (fun h=>?_);have hcb:=hb (by simpa using h);refine Tm.bind (Tm.each (body:=fun N=>vZ N most l[k]) l[k].Linear.aZ (fun q=>-most<=q.N/\q.N<=most) (Q:=fun r=>r=.inr false\/(r=.inl ()/\∀q∈l[k].Linear.aZ,-most<=q.N/\q.N<=most)) hcl ?_ ?_) ?_
     . intro j hj _;dsimp only[vZ];refine db (by omega) (Tm.bind (Q:=fun b=>b=false→-most<=(l[k].Linear.aZ[j]).N/\(l[k].Linear.aZ[j]).N<=most) (aN (dd hj) (aY (fun h=>aL fun e=>(by cases e)) (fun h=>aN (dd hj) (aL fun e=>?_)))) ?_)
       . have:=of_decide_eq_false e;rw[bJ (by omega) (by omega)]at this;omega
       . intro b hb;exact aY (fun h=>aL (.inr ⟨_,rfl,.inl rfl⟩)) (fun h=>aL (.inl ⟨rfl,hb (by simpa using h)⟩))
     . intro h;dsimp only[vZ];exact cA (by omega) (aL ⟨_,rfl,.inr ⟨rfl,h⟩⟩)
     . rintro _ (rfl|⟨rfl,h2⟩)
       . exact aL (.inr ⟨_,rfl,.inl rfl⟩)
       . exact aL (.inl ⟨rfl,hcb,h2⟩)
 . intro h;dsimp only[xV];exact cA (by omega) (aL ⟨_,rfl,.inr ⟨rfl,h⟩⟩)
 . rintro _ (rfl|⟨rfl,h⟩)
   . exact aL fun e=>(by cases e)
   . refine aY (fun h1=>aY (fun h2=>?_) (fun h2=>aL fun e=>(by cases e))) (fun h1=>aL fun e=>(by cases e));exact Tm.bind (OM hl hc) fun r hr=>aL fun e=>⟨fun c hc'=>(h c hc').1,fun c hc'=>(h c hc').2,h1,by omega,hr.1 e⟩
theorem Ay.lok{n:Int}{l:List Constraint}{most:Int}(h:Ay n l most)(hm:most<=50):∃m:Nat,n=m/\je m l:=by
 obtain⟨h1,h2,h3⟩:=h.right;refine⟨n.toNat,by omega,by have:=h.hn;omega,by have:=h.len;omega,fun c hc=>?_,fun c hc=>by have:=h.const c hc;unfold eY;omega,fun c hc k hk=>by have:=h.lE c hc k hk;omega⟩;rw[show((n.toNat:Nat):Int)=n by omega];exact h1 c hc
end
end Go.D
set_option maxHeartbeats 1000000
namespace Go.D
open Go Go.X
theorem je.sub{n:Nat}{l l':List Constraint}(h:je n l)(hl:l'.length<=l.length)(hs:∀c∈l',c∈l):je n l':=
 ⟨h.hn,by have:=h.len;omega,fun c hc=>h.right c (hs c hc),fun c hc=>h.const c (hs c hc),fun c hc=>h.lE c (hs c hc)⟩
end Go.D
set_option maxHeartbeats 1000000
namespace Go.D
open Go Go.X
def nZ(i:Nat)(k c:Int)(e:Bool):Constraint:=⟨⟨c,[⟨i,k⟩]⟩,e⟩
theorem Lx{n i:Nat}{k c:Int}{e:Bool}(hi:i<n)(hn:n<=512):fF (nZ i k c e) n:=by
 refine⟨fun j hj=>?_,by omega,by omega⟩;have:j=0:=by have:j<1:=hj;omega
 subst this;exact⟨by show(0:Int)<=i;omega,by show(i:Int)<n;omega,fun h=>by omega⟩
theorem DE{i:Nat}{k c:Int}{e:Bool}{x:List Int}:qK (nZ i k c e) x=c+k*vf x i:=by
 show c+(0+k*x.getD ((i:Int)).toNat 0)=_;rw[lJ];show _=c+k*x.getD i 0;omega
def mT(m:Int)(n:Nat):List Constraint:=(List.range n).flatMap fun i=>[nZ i (-1) 0 false,nZ i 1 (-m) false]
theorem J5{m:Int}{n:Nat}:mT m (n+1)=mT m n++[nZ n (-1) 0 false,nZ n 1 (-m) false]:=by
 unfold mT;rw[List.range_succ,List.flatMap_append];simp
theorem Fl{m:Int}:∀{n:Nat},(mT m n).length=2*n
 |0=>rfl
 |n+1=>by rw[J5,cM,Fl (n:=n)];simp;omega
theorem u5{m:Int}{n:Nat}{c:Constraint}:c∈mT m n↔∃i,i<n/\(c=nZ i (-1) 0 false\/c=nZ i 1 (-m) false):=by
 unfold mT;rw[vW];constructor
 . rintro⟨i,hi,h⟩;exact⟨i,pP.1 hi,by simpa using h⟩
 . rintro⟨i,hi,h⟩;exact⟨i,pP.2 hi,by simpa using h⟩
theorem P6{n:Nat}{l:List Constraint}{m:Int}(hn:n<=4)(hl:l.length<=1000)(hm:0<=m/\m<=100):Tm (fun N=>wA N (n:Int) l m) (·=l++mT m n):=by
 unfold wA;refine aN (dP (by simp only[dM];omega) (by decide)) ?_;rw[iQ];refine aT (a:=l++mT m n) (eG n (fun k t=>t=(l++mT m k,(k:Int))) (by show(l,(0:Int))=(l++[],0);rw[lG]) ?_) (aL rfl);rintro k hk _ rfl;dsimp only[CN];refine aY (fun hlt=>?_) (fun hge=>aL ?_)
 . have hlt:k<n:=by omega
   unfold Ag Bc;refine aN rfl (aN rfl (aN (dP (by rw[cM,Fl];simp only[cz,dM];omega) (by decide)) (aL ⟨hlt,?_⟩)));rw[dW (by omega),bJ (by omega) (by omega),J5,iq,show(0:Int)-m=-m by omega];rfl
 . have:k=n:=by omega
   subst this;rfl
section
variable {m:Int}
def inc(m:Int):List Int->Option (List Int)
 |[]=>none
 |a::r=>if a=m then(inc m r).map (0::·)else some ((a+1)::r)
def nv(m:Int):List Int->Int
 |[]=>0
 |a::r=>a+(m+1)*nv m r
def j5(m:Int)(x:List Int):Prop:=∀v∈x,0<=v/\v<=m
theorem j5.cons{a:Int}{r:List Int}(h:j5 m (a::r)):(0<=a/\a<=m)/\j5 m r:=⟨h a cK,fun v hv=>h v (cG _ hv)⟩
theorem KJ(hm:0<=m):∀{x:List Int},j5 m x->0<=nv m x
 |[],_=>lK 0
 |a::r,h=>by
  have:=eH (show 0<=m+1 by omega) (KJ hm h.cons.2);show 0<=a+_;have:=h.cons.1;omega
theorem Cp(hm:0<=m):∀{x y:List Int},x.length=y.length->j5 m x->j5 m y->nv m x=nv m y->x=y
 |[],[],_,_,_,_=>rfl
 |a::r,b::t,hl,hx,hy,h=>by
  have h:a+(m+1)*nv m r=b+(m+1)*nv m t:=h;obtain⟨a1,a2⟩:=hx.cons.1;obtain⟨b1,b2⟩:=hy.cons.1;have e1:(a+(m+1)*nv m r)%(m+1)=a:=by rw[yC,vS a1 (by omega)]
  have e2:(b+(m+1)*nv m t)%(m+1)=b:=by rw[yC,vS b1 (by omega)]
  have e3:a=b:=by rw[<-e1,<-e2,h]
  subst e3;have e4:nv m r=nv m t:=Gn (a:=m+1) (by omega) (by omega);rw[Cp hm (by simpa using hl) hx.cons.2 hy.cons.2 e4]
theorem K9(hm:0<=m):∀{x y:List Int},j5 m x->inc m x=some y->j5 m y/\y.length=x.length/\nv m y=nv m x+1
 |a::r,y,hx,h=>by
  obtain⟨a1,a2⟩:=hx.cons.1;rw[inc]at h;split at h
  . rename_i e;cases hr:inc m r with
    |none=>rw[hr]at h;cases h
    |some z=>
     rw[hr]at h;obtain rfl:=gY h;obtain⟨h1,h2,h3⟩:=K9 hm hx.cons.2 hr;refine⟨fun v hv=>(dT.1 hv).elim (fun e=>by subst e;omega) (h1 v),by simp[h2],?_⟩;show 0+(m+1)*nv m z=a+(m+1)*nv m r+1;rw[h3,e,tw];omega
  . rename_i e;obtain rfl:=gY h;refine⟨fun v hv=>(dT.1 hv).elim (fun e=>by subst e;omega) (hx.cons.2 v),rfl,?_⟩;show a+1+_=a+_+1;omega
theorem D6(hm:0<=m):∀{x y:List Int},j5 m x->inc m x=none->j5 m y->y.length=x.length->nv m y<=nv m x
 |[],[],_,_,_,_=>lK _
 |a::r,b::t,hx,h,hy,hl=>by
  rw[inc]at h;split at h
  . rename_i e;have hr:inc m r=none:=by
     cases hr:inc m r with
     |none=>rfl
     |some z=>rw[hr]at h;cases h
    have:=D6 hm hx.cons.2 hr hy.cons.2 (by simpa using hl);have:=fZ this (show 0<=m+1 by omega);have:=hy.cons.1;show b+_<=a+_;omega
  . cases h
theorem Mm{a:Int}{r:List Int}(h:a≠m):∀i,inc m (List.replicate i m++a::r)=some (List.replicate i 0++(a+1)::r)
 |0=>by show inc m (a::r)=_;rw[inc,if_neg h];rfl
 |i+1=>by
  rw[qU,yx,inc,if_pos rfl,Mm h i];rfl
theorem Ep:∀i,inc m (List.replicate i m)=none
 |0=>rfl
 |i+1=>by rw[qU,inc,if_pos rfl,Ep i];rfl
end
theorem OQ{l:List Int}(hl:l.length<=1073741824)(h:∀v∈l,eY v):Tm (fun N=>yu N l) (·=mB l):=by
 unfold yu;refine aT (a:=mB l) (eG l.length (fun k t=>t=(mB (l.take k),(k:Int))) rfl ?_) (aL rfl);rintro k hk _ rfl;dsimp only[Fi];refine aY (fun hlt=>?_) (fun hge=>aL ?_)
 . have hlt:k<l.length:=by omega
   have hv:=h _ (dt hlt);refine aN (dd hlt) (Tm.bind (sD hv.1 hv.2) ?_);rintro b ⟨hb,hbl⟩;obtain rfl:=pf hb;refine aN (dP (by rw[dE,e9];simp only[cz,dM];omega) (by decide)) (aL ⟨hlt,?_⟩);rw[dW (by omega),<-jt hlt];show(mB (l.take k)++[B l[k]],_)=(mB (l.take k++[l[k]]),_);unfold mB;rw[jJ];rfl
 . show _=_;rw[eV (by omega)]
theorem Uv{n:Nat}{l:List Constraint}{m:Int}(h:je n l)(hm:0<=m/\m<=100):Tm (fun N=>xF N (n:Int) l m) (fun r=>r=true↔∃x:List Int,x.length=n/\j5 m x/\me l x):=by
 have hn:=h.hn;unfold xF;refine aN (gN (n:=n) rfl (by omega) (by decide)) ?_;refine Tm.bind (Q:=fun r=>r=true↔∃x:List Int,x.length=n/\j5 m x/\me l x) (Tm.uv (fun(g:Unit×List Int) (x:List Int)=>x=g.2/\x.length=n/\j5 m x/\∀y:List Int,y.length=n->j5 m y->nv m y<nv m x->¬me l y) (fun g=>(nv m (List.replicate n m)-nv m g.2).toNat) ((),List.replicate n 0) ⟨rfl,by simp,fun v hv=>by rw[(tv.1 hv).2];omega,fun y hy hb hlt=>?_⟩ ?_) fun r hr=>aL hr
 . have h0:∀k,nv m (List.replicate k (0:Int))=0:=fun k=>by
    induction k with
    |zero=>rfl
    |succ k ih=>rw[qU];show 0+(m+1)*_=0;rw[ih];simp
   rw[h0]at hlt;have:=KJ hm.1 hb;omega
 . rintro⟨u0,x⟩ x' ⟨hxx,hxl,hxb,hno⟩;obtain rfl:x=x':=hxx.symm;dsimp only[FD];have hx64:∀v∈x,eY v:=fun v hv=>by have:=hxb v hv;unfold eY;omega
   refine aT (OQ (by omega) hx64) (Tm.bind (Mn h hxl fun v hv=>bO (jP (by have:=hxb v hv;omega)) (by decide)) ?_);intro r hr;refine aY (fun h1=>aL ⟨fun _=>⟨x,hxl,hxb,hr.1 h1⟩,fun _=>rfl⟩) (fun h1=>?_);have hns:¬me l x:=fun e=>h1 (hr.2 e);refine Tm.bind (Q:=fun t:List Int×Int=>∃i:Nat,t=(List.replicate i 0++x.drop i,(i:Int))/\i<=n/\x.take i=List.replicate i m/\(i<n->vf x i≠m)) (eG n (fun k t=>t=(List.replicate k 0++x.drop k,(k:Int))/\x.take k=List.replicate k m) ⟨rfl,rfl⟩ ?_) ?_
   . rintro k hk _ ⟨rfl,htk⟩;dsimp only[Fw];have hget:∀hlt:k<n,idx (List.replicate k (0:Int)++x.drop k) (k:Int)=some (vf x k):=fun hlt=>by
      rw[dd (by rw[cM,gZ,oz];omega),Ve (by simp)];simp only[gZ,ox,yD,nj];rw[kB (by omega)]
     refine aT (a:=decide (k<n/\vf x k=m)) (aY (fun h2=>?_) (fun h2=>aL ?_)) (aY (fun h2=>?_) (fun h2=>aL ⟨k,rfl,hk,htk,fun hlt e=>h2 (decide_eq_true ⟨hlt,e⟩)⟩))
     . have hlt:k<n:=by omega
       exact aN (hget hlt) (aL (decide_eq_decide.2 ⟨fun e=>⟨hlt,e⟩,fun e=>e.2⟩))
     . rw[decide_eq_false];omega
     . obtain⟨hlt,hv⟩:=of_decide_eq_true h2;refine aN (hget hlt) (aN (dV rfl (by rw[cM,gZ,oz];omega)) (aL ⟨hlt,?_,?_⟩))
       . rw[dW (by omega)];congr 1;rw[Gu _ _ (by simp),gZ,ox,eU (by omega),List.set_cons_zero,Gv,iq];rfl
       . have hkx:k<x.length:=by omega
         rw[<-jt hkx,htk,<-kB hkx,hv,Gv]
   . rintro _ ⟨i,rfl,hin,hti,hvi⟩;dsimp only;have hsplit:∀hlt:i<n,x=List.replicate i m++vf x i::x.drop (i+1):=fun hlt=>by
      have hix:i<x.length:=by omega
      rw[kB hix,<-hti,<-eU hix,mn]
     refine aY (fun h2=>aL ?_) (fun h2=>?_)
     . have hin2:i=n:=by omega
       subst hin2;have hx:x=List.replicate i m:=by rw[<-hti,eV (by omega)]
       have hinc:inc m x=none:=by rw[hx];exact Ep i
       refine⟨fun e=>(by cases e),?_⟩;rintro⟨y,yl,yb,ys⟩;have hle:=D6 hm.1 hxb hinc yb (yl.trans hxl.symm);rcases Int.lt_or_eq_of_le hle with h3|h3
       . exact absurd ys (hno y yl yb h3)
       . rw[Cp hm.1 (yl.trans hxl.symm) yb hxb h3]at ys;exact absurd ys hns
     . have hlt:i<n:=by omega
       have hinc:inc m x=some (List.replicate i 0++(vf x i+1)::x.drop (i+1)):=by
        conv=>lhs;rw[hsplit hlt]
        exact Mm (hvi hlt) i
       obtain⟨s1,s2,s3⟩:=K9 hm.1 hxb hinc;have hix:i<x.length:=by omega
       have hget:idx (List.replicate i (0:Int)++x.drop i) (i:Int)=some (vf x i):=by
        rw[dd (by rw[cM,gZ,oz];omega),Ve (by simp)];simp only[gZ,ox,yD,nj];rw[kB (by omega)]
       have hvb:=hxb _ (fU hix);refine aN hget (aN hget (aN (dV rfl (by rw[cM,gZ,oz];omega)) (aL ?_)));have e1:(List.replicate i (0:Int)++x.drop i).set i (iw (vf x i+1))=List.replicate i 0++(vf x i+1)::x.drop (i+1):=by
        rw[bJ (by omega) (by omega),Gu _ _ (by simp),gZ,ox,eU hix,List.set_cons_zero]
       rw[e1];refine⟨((),_),⟨rfl,by rw[s2];exact hxl,s1,fun y yl yb hy=>?_⟩,?_⟩
       . rw[s3]at hy;rcases Int.lt_or_eq_of_le (show nv m y<=nv m x by omega)with h3|h3
         . exact hno y yl yb h3
         . rw[Cp hm.1 (yl.trans hxl.symm) yb hxb h3];exact hns
       . have hmax:=D6 hm.1 (x:=List.replicate n m) (y:=List.replicate i 0++(vf x i+1)::x.drop (i+1)) (fun v hv=>by rw[(tv.1 hv).2];omega) (Ep n) s1 (by rw[s2,hxl];simp);show(nv m (List.replicate n m)-nv m (List.replicate i 0++(vf x i+1)::x.drop (i+1))).toNat<(nv m (List.replicate n m)-nv m x).toNat;omega
theorem QP{n:Nat}{l:List Constraint}{m:Int}(h:je n l)(hn:n<=3)(hl:l.length<=6)(hm:0<=m/\m<=100):je n (l++mT m n):=by
 refine⟨h.hn,by rw[cM,Fl];omega,fun c hc=>?_,fun c hc=>?_,fun c hc=>?_⟩
 . rcases fb.1 hc with hc|hc
   . exact h.right c hc
   . obtain⟨i,hi,rfl|rfl⟩:=u5.1 hc
     . exact Lx hi (by omega)
     . exact Lx hi (by omega)
 . rcases fb.1 hc with hc|hc
   . exact h.const c hc
   . obtain⟨i,hi,rfl|rfl⟩:=u5.1 hc
     . show eY 0;unfold eY;omega
     . show eY (-m);unfold eY;omega
 . rcases fb.1 hc with hc|hc
   . exact h.lE c hc
   . obtain⟨i,hi,rfl|rfl⟩:=u5.1 hc
     . intro k hk;rw[cI.1 (show k∈[(⟨i,-1⟩:gU)] from hk)];show(-1:Int).natAbs<=50;decide
     . intro k hk;rw[cI.1 (show k∈[(⟨i,1⟩:gU)] from hk)];show(1:Int).natAbs<=50;decide
theorem KD{n:Nat}{l:List Constraint}{m:Int}{x:List Int}(hx:x.length=n):me (l++mT m n) x↔j5 m x/\me l x:=by
 constructor
 . intro h;refine⟨fun v hv=>?_,fun c hc=>h c (yA _ hc)⟩;obtain⟨i,hi,rfl⟩:=gm hv;have h1:=(h (nZ i (-1) 0 false) (qW _ (u5.2 ⟨i,by omega,.inl rfl⟩))).1;have h2:=(h (nZ i 1 (-m) false) (qW _ (u5.2 ⟨i,by omega,.inr rfl⟩))).1;rw[DE]at h1 h2;omega
 . rintro⟨hb,hs⟩ c hc;rcases fb.1 hc with hc|hc
   . exact hs c hc
   . obtain⟨i,hi,h⟩:=u5.1 hc;have:=hb _ (fU (l:=x) (j:=i) (by omega));rcases h with rfl|rfl
     . exact⟨by rw[DE];omega,fun e=>by cases e⟩
     . exact⟨by rw[DE];omega,fun e=>by cases e⟩
theorem Pc{n:Int}{l:List Constraint}{most:Int}(hl:l.length<=9223372036854775807)
 (hc:∀c∈l,c.Linear.aZ.length<=9223372036854775807/\eY c.Linear.Const/\∀k∈c.Linear.aZ,eY k.N)(hv:0<=most/\most<=255):Tm (fun N=>Bw N n l most) (·=true):=by
 unfold Bw;refine Tm.bind (Q:=fun r=>r=false->Ay n l 7/\n<=3) ?_ ?_
 . refine Tm.bind IP ?_;rintro _ rfl;refine cA (by simp) (aY (fun h=>aL fun e=>(by cases e)) (fun h=>Tm.bind (Qz hl (fun c h=>(hc c h).1) (by decide)) fun r hr=>aL fun e=>⟨hr (by simpa using e),by omega⟩))
 . intro r hr;refine aY (fun h=>Tm.bind IP fun r hr=>aL hr) (fun h=>?_);obtain⟨hS,h3⟩:=hr (by simpa using h);have h6:=hS.len;obtain⟨k,rfl,hL⟩:=hS.lok (by decide);rw[bJ (by omega) (by omega),M9 hv.1];have m0:=lM most (show(7:Int)≠0 by decide);have m1:=lO most (show(0:Int)<7 by decide);generalize most%7=m at*;refine aT (P6 (by omega) (by omega) (by omega)) (Tm.bind (Q6 (QP hL (by omega) h6 (by omega))) ?_);rintro⟨ok,right⟩ ⟨g1,g2⟩;dsimp only at g1 g2;subst g1;refine db rfl (Tm.bind (Uv hL (by omega)) fun r hr=>aL ?_);have:ok=true↔r=true:=by
    rw[g2,hr];unfold EW;exact⟨fun⟨x,h1,h2⟩=>⟨x,h1,(KD h1).1 h2⟩,fun⟨x,h1,h2⟩=>⟨x,h1,(KD h1).2 h2⟩⟩
   cases ok<;>cases r<;>simp_all
end Go.D
namespace Go.Proofs
open Go.Shelf
def Tryz.IY:Go.Shelf.Ren:=⟨fun|156=>122|165=>153|166=>154|169=>155|240=>176|241=>177|276=>185|277=>186|n=>n,fun|31=>158|9=>9|3=>3|4=>4|0=>0|20=>20|72=>196|76=>199|70=>193|37=>194|75=>198|127=>219|164=>230|5=>5|80=>201|n=>n,fun|n=>n⟩
theorem Tryz.KS:Go.Proofs.Lays.n156 Tryz.prog Tryz.IY:={
 mixed:=by kernel_rfl
 f156:=Tryz.func122.trans (congrArg some (by kernel_rfl))
 f165:=Tryz.func153.trans (congrArg some (by kernel_rfl))
 f166:=Tryz.func154.trans (congrArg some (by kernel_rfl))
 f169:=Tryz.func155.trans (congrArg some (by kernel_rfl))
 f240:=Tryz.func176.trans (congrArg some (by kernel_rfl))
 f241:=Tryz.func177.trans (congrArg some (by kernel_rfl))
 f276:=Tryz.func185.trans (congrArg some (by kernel_rfl))
 f277:=Tryz.func186.trans (congrArg some (by kernel_rfl))
 t0:=Tryz.underlying0
 a0:=Tryz.isAgg0
 z0:=Tryz.sizeOf0
 v0:=Tryz.zeroValue0
 t3:=Tryz.underlying3
 a3:=Tryz.isAgg3
 z3:=Tryz.sizeOf3
 v3:=Tryz.zeroValue3
 t4:=Tryz.underlying4
 a4:=Tryz.isAgg4
 z4:=Tryz.sizeOf4
 v4:=Tryz.zeroValue4
 t9:=Tryz.underlying9
 a9:=Tryz.isAgg9
 z9:=Tryz.sizeOf9
 v9:=Tryz.zeroValue9
 t20:=Tryz.underlying20
 a20:=Tryz.isAgg20
 z20:=Tryz.sizeOf20
 v20:=Tryz.zeroValue20
 t31:=Tryz.underlying158
 a31:=Tryz.isAgg158
 z31:=Tryz.sizeOf158
 v31:=Tryz.zeroValue158
 t37:=Tryz.underlying194
 a37:=Tryz.isAgg194
 z37:=Tryz.sizeOf194
 v37:=Tryz.zeroValue194
 t70:=Tryz.underlying193
 a70:=Tryz.isAgg193
 z70:=Tryz.sizeOf193
 v70:=Tryz.zeroValue193
 t72:=Tryz.underlying196
 a72:=Tryz.isAgg196
 z72:=Tryz.sizeOf196
 v72:=Tryz.zeroValue196
 t75:=Tryz.underlying198
 a75:=Tryz.isAgg198
 z75:=Tryz.sizeOf198
 v75:=Tryz.zeroValue198
 t76:=Tryz.underlying199
 a76:=Tryz.isAgg199
 z76:=Tryz.sizeOf199
 v76:=Tryz.zeroValue199
 t127:=Tryz.underlying219
 a127:=Tryz.isAgg219
 z127:=Tryz.sizeOf219
 v127:=Tryz.zeroValue219
 t164:=Tryz.underlying230
 a164:=Tryz.isAgg230
 z164:=Tryz.sizeOf230
 v164:=Tryz.zeroValue230}
theorem Tryz.Lq:Builder.Extra Tryz.prog Tryz.IY:={
 sizeBuilder:=by kernel_rfl
 liesBuilder:=by kernel_rfl
 t5:=Tryz.underlying5
 a5:=Tryz.isAgg5
 z5:=Tryz.sizeOf5
 v5:=Tryz.zeroValue5
 infoByte:=by kernel_rfl
 cellsByte:=by kernel_rfl
 sizeByte:=by kernel_rfl
 neB5:=by decide}
open Go.RowKit in
theorem Tryz.strings_Join_none(a:Option Addr)(c:Nat)(sep:ByteArray)(w:World):
 Calls Tryz.prog 122 #[.slice a 0 c,.string sep] w fun e w'=>e=.returned (.string ⟨#[]⟩)/\w'=w:=Any.strings_Join_none Tryz.KS Tryz.Lq a c sep w
open Go.RowKit in
theorem Tryz.strings_Join(bk o c:Nat)(xs:List ByteArray)(sep:ByteArray)(w:World)(hcells:∀(j:Nat) x,xs[j]?=some x->w.cell? ⟨bk,o+j,none⟩=some (.string x))(hbk:bk<w.heap.size)(hN:xs.length<=140737488355328)(hcap:xs.length<=c)(hlen:(Lib.join (xs.map (·.data.toList)) sep.data.toList).length<=140737488355328):
 Calls Tryz.prog 122 #[.slice (some ⟨bk,o,none⟩) xs.length c,.string sep] w fun e w'=>e=.returned (.string ⟨(Lib.join (xs.map (·.data.toList)) sep.data.toList).toArray⟩)/\Below w.heap.size w w':=Any.strings_Join Tryz.KS Tryz.Lq bk o c xs sep w hcells hbk hN hcap hlen
def Tryz.Rc:Go.Shelf.Ren:=⟨fun|283=>178|n=>n,fun|3=>3|9=>9|4=>4|n=>n,fun|n=>n⟩
theorem Tryz.Pu:Go.Proofs.Lays.n283 Tryz.prog Tryz.Rc:={
 mixed:=by kernel_rfl
 f283:=Tryz.func178.trans (congrArg some (by kernel_rfl))
 t3:=Tryz.underlying3
 a3:=Tryz.isAgg3
 z3:=Tryz.sizeOf3
 v3:=Tryz.zeroValue3
 t4:=Tryz.underlying4
 a4:=Tryz.isAgg4
 z4:=Tryz.sizeOf4
 v4:=Tryz.zeroValue4
 t9:=Tryz.underlying9
 a9:=Tryz.isAgg9
 z9:=Tryz.sizeOf9
 v9:=Tryz.zeroValue9}
open Go.Lib in
theorem Tryz.internal_strconv_small(i:Nat)(h:i<100)(w:World):
 Calls Tryz.prog 178 #[.int .i64 i] w fun e w'=>e=.returned (.string ⟨(Lib.decDigits i).toArray⟩)/\w'=w:=Any.internal_strconv_small Tryz.Pu i h w
def Tryz.Qd:Go.Shelf.Ren:=⟨fun|284=>179|129=>188|317=>187|318=>189|n=>n,fun|53=>87|3=>3|212=>234|0=>0|4=>4|46=>112|5=>5|9=>9|n=>n,fun|17=>0|n=>n⟩
theorem Tryz.Ug:Go.Proofs.LaysM.n284 Tryz.prog Tryz.Qd:={
 mixed:=by kernel_rfl
 f129:=Tryz.func188.trans (congrArg some (by kernel_rfl))
 f284:=Tryz.func179.trans (congrArg some (by kernel_rfl))
 f317:=Tryz.func187.trans (congrArg some (by kernel_rfl))
 f318:=Tryz.func189.trans (congrArg some (by kernel_rfl))
 t0:=Tryz.underlying0
 a0:=Tryz.isAgg0
 z0:=Tryz.sizeOf0
 v0:=Tryz.zeroValue0
 t3:=Tryz.underlying3
 a3:=Tryz.isAgg3
 z3:=Tryz.sizeOf3
 v3:=Tryz.zeroValue3
 t4:=Tryz.underlying4
 a4:=Tryz.isAgg4
 z4:=Tryz.sizeOf4
 v4:=Tryz.zeroValue4
 t5:=Tryz.underlying5
 a5:=Tryz.isAgg5
 z5:=Tryz.sizeOf5
 v5:=Tryz.zeroValue5
 t9:=Tryz.underlying9
 a9:=Tryz.isAgg9
 z9:=Tryz.sizeOf9
 v9:=Tryz.zeroValue9
 t46:=Tryz.underlying112
 a46:=Tryz.isAgg112
 z46:=Tryz.sizeOf112
 v46:=Tryz.zeroValue112
 t53:=Tryz.underlying87
 a53:=Tryz.isAgg87
 z53:=Tryz.sizeOf87
 v53:=Tryz.zeroValue87
 t212:=Tryz.underlying234
 a212:=Tryz.isAgg234
 z212:=Tryz.sizeOf234
 v212:=Tryz.zeroValue234
 g17:=by kernel_rfl
 i0:=by kernel_rfl
 i3:=by kernel_rfl
 i4:=by kernel_rfl
 i5:=by kernel_rfl
 i9:=by kernel_rfl
 i46:=by kernel_rfl
 i53:=by kernel_rfl
 i212:=by kernel_rfl
 m17:=by kernel_rfl}
open Go.Lib in
theorem Tryz.internal_strconv_numDigits(u:Nat)(h1:1<=u)(h2:u<18446744073709551616)(w:World)(htab:Lib.TabIs Tryz.prog w "internal/strconv.uint64pow10" .u64 Lib.pow10Tab):
 Calls Tryz.prog 179 #[.int .u64 u] w fun e w'=>e=.returned (.int .i64 (Lib.nDigits u))/\w'=w:=Any.internal_strconv_numDigits Tryz.Ug u h1 h2 w htab
def Tryz.Q9:Go.Shelf.Ren:=⟨fun|285=>180|n=>n,fun|37=>194|53=>87|3=>3|4=>4|51=>86|9=>9|5=>5|0=>0|n=>n,fun|n=>n⟩
theorem Tryz.Sd:Go.Proofs.Lays.n285 Tryz.prog Tryz.Q9:={
 mixed:=by kernel_rfl
 f285:=Tryz.func180.trans (congrArg some (by kernel_rfl))
 t0:=Tryz.underlying0
 a0:=Tryz.isAgg0
 z0:=Tryz.sizeOf0
 v0:=Tryz.zeroValue0
 t3:=Tryz.underlying3
 a3:=Tryz.isAgg3
 z3:=Tryz.sizeOf3
 v3:=Tryz.zeroValue3
 t4:=Tryz.underlying4
 a4:=Tryz.isAgg4
 z4:=Tryz.sizeOf4
 v4:=Tryz.zeroValue4
 t5:=Tryz.underlying5
 a5:=Tryz.isAgg5
 z5:=Tryz.sizeOf5
 v5:=Tryz.zeroValue5
 t9:=Tryz.underlying9
 a9:=Tryz.isAgg9
 z9:=Tryz.sizeOf9
 v9:=Tryz.zeroValue9
 t37:=Tryz.underlying194
 a37:=Tryz.isAgg194
 z37:=Tryz.sizeOf194
 v37:=Tryz.zeroValue194
 t51:=Tryz.underlying86
 a51:=Tryz.isAgg86
 z51:=Tryz.sizeOf86
 v51:=Tryz.zeroValue86
 t53:=Tryz.underlying87
 a53:=Tryz.isAgg87
 z53:=Tryz.sizeOf87
 v53:=Tryz.zeroValue87}
open Go.RowKit Go.Sort Go.Lib in
theorem Tryz.internal_strconv_formatBase10(du off cap:Nat)(u:Nat)(d:Array UInt8)(w:World)(hH:Holds (fun(b:UInt8)=>Value.int .u8 (b.toNat:Int)) w du off d)(hu:u<10^d.size)(hu64:u<18446744073709551616)(hsz:d.size<4611686018427387904):
 Calls Tryz.prog 180 #[.slice (some ⟨du,off,none⟩) d.size cap,.int .u64 u] w fun e w'=>
  e=.returned (.tuple #[])/\∃(n v':Nat) (dk:Array UInt8),w'=(putRow (fun(b:UInt8)=>Value.int .u8 (b.toNat:Int)) w du off dk).drewN n/\FmtInv d.size u 0 v' dk:=Any.internal_strconv_formatBase10 Tryz.Sd du off cap u d w hH hu hu64 hsz
def Tryz.JA:Go.Shelf.Ren:=⟨fun|105=>151|212=>173|99=>174|165=>153|166=>154|170=>175|169=>155|263=>182|264=>183|206=>184|240=>176|241=>177|276=>185|277=>186|n=>n,fun|9=>9|3=>3|4=>4|20=>20|0=>0|46=>112|109=>215|5=>5|72=>196|76=>199|51=>86|146=>226|53=>87|148=>228|70=>193|37=>194|75=>198|127=>219|164=>230|80=>201|n=>n,fun|n=>n⟩
theorem Tryz.Q3:Go.Proofs.Lays.n105 Tryz.prog Tryz.JA:={
 mixed:=by kernel_rfl
 f99:=Tryz.func174.trans (congrArg some (by kernel_rfl))
 f105:=Tryz.func151.trans (congrArg some (by kernel_rfl))
 f165:=Tryz.func153.trans (congrArg some (by kernel_rfl))
 f166:=Tryz.func154.trans (congrArg some (by kernel_rfl))
 f169:=Tryz.func155.trans (congrArg some (by kernel_rfl))
 f170:=Tryz.func175.trans (congrArg some (by kernel_rfl))
 f206:=Tryz.func184.trans (congrArg some (by kernel_rfl))
 f212:=Tryz.func173.trans (congrArg some (by kernel_rfl))
 f240:=Tryz.func176.trans (congrArg some (by kernel_rfl))
 f241:=Tryz.func177.trans (congrArg some (by kernel_rfl))
 f263:=Tryz.func182.trans (congrArg some (by kernel_rfl))
 f264:=Tryz.func183.trans (congrArg some (by kernel_rfl))
 f276:=Tryz.func185.trans (congrArg some (by kernel_rfl))
 f277:=Tryz.func186.trans (congrArg some (by kernel_rfl))
 t0:=Tryz.underlying0
 a0:=Tryz.isAgg0
 z0:=Tryz.sizeOf0
 v0:=Tryz.zeroValue0
 t3:=Tryz.underlying3
 a3:=Tryz.isAgg3
 z3:=Tryz.sizeOf3
 v3:=Tryz.zeroValue3
 t4:=Tryz.underlying4
 a4:=Tryz.isAgg4
 z4:=Tryz.sizeOf4
 v4:=Tryz.zeroValue4
 t5:=Tryz.underlying5
 a5:=Tryz.isAgg5
 z5:=Tryz.sizeOf5
 v5:=Tryz.zeroValue5
 t9:=Tryz.underlying9
 a9:=Tryz.isAgg9
 z9:=Tryz.sizeOf9
 v9:=Tryz.zeroValue9
 t20:=Tryz.underlying20
 a20:=Tryz.isAgg20
 z20:=Tryz.sizeOf20
 v20:=Tryz.zeroValue20
 t37:=Tryz.underlying194
 a37:=Tryz.isAgg194
 z37:=Tryz.sizeOf194
 v37:=Tryz.zeroValue194
 t46:=Tryz.underlying112
 a46:=Tryz.isAgg112
 z46:=Tryz.sizeOf112
 v46:=Tryz.zeroValue112
 t51:=Tryz.underlying86
 a51:=Tryz.isAgg86
 z51:=Tryz.sizeOf86
 v51:=Tryz.zeroValue86
 t53:=Tryz.underlying87
 a53:=Tryz.isAgg87
 z53:=Tryz.sizeOf87
 v53:=Tryz.zeroValue87
 t70:=Tryz.underlying193
 a70:=Tryz.isAgg193
 z70:=Tryz.sizeOf193
 v70:=Tryz.zeroValue193
 t72:=Tryz.underlying196
 a72:=Tryz.isAgg196
 z72:=Tryz.sizeOf196
 v72:=Tryz.zeroValue196
 t75:=Tryz.underlying198
 a75:=Tryz.isAgg198
 z75:=Tryz.sizeOf198
 v75:=Tryz.zeroValue198
 t76:=Tryz.underlying199
 a76:=Tryz.isAgg199
 z76:=Tryz.sizeOf199
 v76:=Tryz.zeroValue199
 t109:=Tryz.underlying215
 a109:=Tryz.isAgg215
 z109:=Tryz.sizeOf215
 v109:=Tryz.zeroValue215
 t127:=Tryz.underlying219
 a127:=Tryz.isAgg219
 z127:=Tryz.sizeOf219
 v127:=Tryz.zeroValue219
 t146:=Tryz.underlying226
 a146:=Tryz.isAgg226
 z146:=Tryz.sizeOf226
 v146:=Tryz.zeroValue226
 t148:=Tryz.underlying228
 a148:=Tryz.isAgg228
 z148:=Tryz.sizeOf228
 v148:=Tryz.zeroValue228
 t164:=Tryz.underlying230
 a164:=Tryz.isAgg230
 z164:=Tryz.sizeOf230
 v164:=Tryz.zeroValue230}
theorem Tryz.TH:Builder.Extra Tryz.prog Tryz.JA:={
 sizeBuilder:=by kernel_rfl
 liesBuilder:=by kernel_rfl
 t5:=Tryz.underlying5
 a5:=Tryz.isAgg5
 z5:=Tryz.sizeOf5
 v5:=Tryz.zeroValue5
 infoByte:=by kernel_rfl
 cellsByte:=by kernel_rfl
 sizeByte:=by kernel_rfl
 neB5:=by decide}
open Go.RowKit Go.Lib in
theorem Tryz.strings_Repeat(s:ByteArray)(c:Nat)(w:World)(hc:c<=9223372036854775807)(hlen:s.size*c<=140737488355328):
 Calls Tryz.prog 151 #[.string s,.int .i64 c] w fun e w'=>e=.returned (.string ⟨(Lib.repeatL s.data.toList c).toArray⟩)/\Below w.heap.size w w':=Any.strings_Repeat Tryz.Q3 Tryz.TH s c w hc hlen
def Tryz.Rg:Go.Shelf.Ren:=⟨fun|17=>152|n=>n,fun|24=>158|9=>9|3=>3|4=>4|0=>0|n=>n,fun|n=>n⟩
theorem Tryz.LO:Go.Proofs.Lays2.n17 Tryz.prog Tryz.Rg:={
 mixed:=by kernel_rfl
 f17:=Tryz.func152.trans (congrArg some (by kernel_rfl))
 t0:=Tryz.underlying0
 a0:=Tryz.isAgg0
 z0:=Tryz.sizeOf0
 v0:=Tryz.zeroValue0
 t3:=Tryz.underlying3
 a3:=Tryz.isAgg3
 z3:=Tryz.sizeOf3
 v3:=Tryz.zeroValue3
 t4:=Tryz.underlying4
 a4:=Tryz.isAgg4
 z4:=Tryz.sizeOf4
 v4:=Tryz.zeroValue4
 t9:=Tryz.underlying9
 a9:=Tryz.isAgg9
 z9:=Tryz.sizeOf9
 v9:=Tryz.zeroValue9
 t24:=Tryz.underlying158
 a24:=Tryz.isAgg158
 z24:=Tryz.sizeOf158
 v24:=Tryz.zeroValue158}
open Go.RowKit Go.Lib Go.Sort in
theorem Tryz.slices_Reverse_string(du off cap:Nat)(zs:List (List UInt8))(w:World)(hH:Holds encStr w du off zs.toArray)(hsz:zs.length<=9223372036854775807):
 Calls Tryz.prog 152 #[.slice (some ⟨du,off,none⟩) zs.length cap] w fun e w'=>e=.returned (.tuple #[])/\∃n,w'=putRow encStr (Sort.ahead w n) du off zs.reverse.toArray:=Any.slices_Reverse_string Tryz.LO du off cap zs w hH hsz
open Go.RowKit Go.Lib Go.Sort in
theorem Tryz.slices_Reverse_string_empty(a:Option Addr)(cap:Nat)(w:World):
 Calls Tryz.prog 152 #[.slice a 0 cap] w fun e w'=>e=.returned (.tuple #[])/\w'=w:=Any.slices_Reverse_string_empty Tryz.LO a cap w
end Go.Proofs
namespace Go.Proofs.YtipdkfmhfakbnaaGreatDoor.F
open Go Go.Shelf Go.RowKit Go.Sort Go.Lib Go.Proofs
set_option maxHeartbeats 6400000 in
set_option maxRecDepth 100000 in
theorem fmtU(u:Nat)(hu64:u<18446744073709551616)(w:World)
 (htab:Lib.TabIs Tryz.prog w "internal/strconv.uint64pow10" .u64 Lib.pow10Tab):
 Calls Tryz.prog 172 #[.int .u64 u,.int .i64 10] w fun e w'=>e=.returned (.string ⟨(Lib.decDigits u).toArray⟩)/\∃k os,w'=grow (w.drewN k) os:=by
 by_cases hs:u<100
 . go_enter Tryz.func172,Tryz.ntmps172
   go_wp2_with (refine(Tryz.internal_strconv_small u hs _).mono ?_;rintro e w' ⟨rfl,rfl⟩)
   go_ret
   exact⟨rfl,0,#[],by simp[World.drewN_zero]⟩
 . have hu1:1<=u:=by omega
   have hnd20:Lib.nDigits u<=20:=by have:=Lib.numDigits_eq u hu1 hu64;split at this<;>omega
   have hal:Tryz.prog.arrayLen 221=24:=by simp[Program.arrayLen,Tryz.underlying221]
   have hsl1:∀W,(Instr.sliceAt 221 (.pointer (some ⟨w.heap.size,0,none⟩)) none (some (.int .i64 (Lib.nDigits u:Int))) none).run Tryz.prog W=.ok (.slice (some ⟨w.heap.size,0,none⟩) (Lib.nDigits u) 24) W:=fun W=>by
    rw[run_sliceAt_array_h W 221 ⟨w.heap.size,0,none⟩ (by simp[Program.arrayLen,Program.elem,Tryz.underlying221]) .i64 (Lib.nDigits u:Int) (by omega) (by rw[hal];omega)]
    go_simp
   have hH0:=Lib.holds_zero0 w 221 (Lib.nDigits u) (by omega);have hfmt:=Tryz.internal_strconv_formatBase10 w.heap.size 0 24 u (Array.replicate (Lib.nDigits u) 0) (w.alloc (.cells Lib.zeros24 221)) hH0 (by rw[GO];exact Lib.lt_pow_nDigits u) hu64 (by rw[GO];omega);rw[GO]at hfmt;have HH0:=Lib.hid hH0;clear hH0 hal
   go_enter Tryz.func172,Tryz.ntmps172
   go_wp2_with (first
    |(refine(Tryz.internal_strconv_numDigits u hu1 hu64 _ (Lib.tabIs_alloc htab _)).mono ?_;rintro e w' ⟨rfl,rfl⟩))
   refine hfmt.mono ?_;rintro e w' ⟨rfl,k,v',dk,rfl,hF⟩;have hcv:(convert 194 9 (.slice (some ⟨w.heap.size,0,none⟩) (Lib.nDigits u) 24)).run Tryz.prog ((putRow (fun(b:UInt8)=>Value.int .u8 (b.toNat:Int)) (w.alloc (.cells Lib.zeros24 221)) w.heap.size 0 dk).drewN k)=.ok (.string ⟨(Lib.decDigits u).toArray⟩) ((putRow (fun(b:UInt8)=>Value.int .u8 (b.toNat:Int)) (w.alloc (.cells Lib.zeros24 221)) w.heap.size 0 dk).drewN k):=by
    have h:=run_convert_bytes_back (P:=Tryz.prog) ((putRow (fun(b:UInt8)=>Value.int .u8 (b.toNat:Int)) (w.alloc (.cells Lib.zeros24 221)) w.heap.size 0 dk).drewN k) 194 9 5 ⟨w.heap.size,0,none⟩ 24 (Lib.decDigits u) Tryz.underlying194 Tryz.underlying5 Tryz.underlying9 (fun j hj=>by
     rw[Lib.row_is_numeral hF j hj,Lib.add_plain,World.cell?_drewN];exact cell?_putRow (fun(b:UInt8)=>Value.int .u8 (b.toNat:Int)) _ w.heap.size 0 _ dk HH0.out (by rw[hF.size,GO]) j (by rw[hF.size];rw[Lib.decDigits_length]at hj;exact hj))
    rw[Lib.decDigits_length]at h;exact h
   go_wp2
   go_ret
   obtain⟨os,eo⟩:=Lib.fin_at w (.cells Lib.zeros24 221) dk k 0;exact⟨rfl,k,os,eo⟩
theorem Sx(u:Nat)(hu64:u<18446744073709551616)(w:World)
 (htab:Lib.TabIs Tryz.prog w "internal/strconv.uint64pow10" .u64 Lib.pow10Tab):
 Calls Tryz.prog 150 #[.int .u64 u,.int .i64 10] w fun e w'=>e=.returned (.string ⟨(Lib.decDigits u).toArray⟩)/\∃k os,w'=grow (w.drewN k) os:=by
 go_enter Tryz.func150,Tryz.ntmps150
 go_wp2_with (refine(fmtU u hu64 _ htab).mono ?_;rintro e w' ⟨rfl,k,os,rfl⟩)
 go_ret
 exact⟨rfl,k,os,rfl⟩
end Go.Proofs.YtipdkfmhfakbnaaGreatDoor.F
set_option maxRecDepth 100000
namespace Go.X
open Go Go.RowKit Go.Sort Go.Lib Go.Proofs
theorem bS.strs{H:Hp}:∀{cs:List Value} {xs:List (List UInt8)},bS gH H cs xs->cs=xs.map (fun x=>Value.string (s8 x))
 |_,[],h=>h
 |_,x::xs,⟨a,b,h1,h2,h3⟩=>by rw[h1,show a=[.string (s8 x)] from h2,h3.strs];rfl
theorem bS.JX{H:Hp}:∀(xs:List (List UInt8)),bS gH H (xs.map (fun x=>Value.string (s8 x))) xs
 |[]=>rfl
 |x::xs=>⟨[.string (s8 x)],_,rfl,rfl,bS.JX xs⟩
theorem Ox(w:World)(k:Nat)(os:Array Obj):Ext w (grow (w.drewN k) os):=
 ⟨rfl,rfl,rfl,by simp[grow,World.drewN],fun g hg=>Lib.heap_grow_old w k os g hg⟩
theorem TQ{xs ys:List (List UInt8)}{sp:List Value}(hl:ys.length=xs.length):
 putCells encStr 0 ys.toArray ((xs.map (fun x=>Value.string (s8 x))++sp).toArray)=(ys.map (fun x=>Value.string (s8 x))++sp).toArray:=by
 apply Array.ext_getElem?;intro k;simp only[putCells,Array.getElem?_mapIdx,vO,fC,true_and,eK,Nat.sub_zero,List.size_toArray];rcases cw k ys.length with h|h
 . rw[jW (by simp;omega),jW (by simpa using h)];have h2:k<xs.length:=by omega
   simp only[gM,bV h2,bV h,oy,if_pos h,tx];rw[getElem!_pos _ k (by simpa using h)];simp[encStr,s8]
 . rw[ov (by simp;omega),ov (by simpa using h)];simp only[cP,hl];cases hs:sp[k-xs.length]?with
   |none=>rfl
   |some v=>simp only[oy];rw[if_neg (by omega)]
end Go.X
namespace Go.Proofs.YtipdkfmhfakbnaaGreatDoor.FS
open Go Go.RowKit Go.Sort Go.Lib Go.Proofs Go.X Go.D Go.Q Go.Proofs.YtipdkfmhfakbnaaGreatDoor.TB
theorem en150:Go.X.Enters Tryz.prog 150:=⟨Tryz.f150,Tryz.func150,by kernel_rfl,by kernel_rfl⟩
theorem en151:Go.X.Enters Tryz.prog 151:=⟨Tryz.f151,Tryz.func151,by kernel_rfl,by kernel_rfl⟩
theorem en122:Go.X.Enters Tryz.prog 122:=⟨Tryz.f122,Tryz.func122,by kernel_rfl,by kernel_rfl⟩
theorem en152:Go.X.Enters Tryz.prog 152:=⟨Tryz.f152,Tryz.func152,by kernel_rfl,by kernel_rfl⟩
theorem O8(N:Nat)(i b:Int)(r:List UInt8)(h:wg N i b=some r):Cn Tryz.prog 150 [sI .u64 i,sI .i64 b] [] [sT r]:=by
 refine UD en150 fun ν H w l ht hl=>?_;obtain⟨a,_,rfl,⟨h1,h2⟩,a2,_,rfl,⟨h3,h4⟩,rfl⟩:=hl;subst h1 h3;unfold wg at h;split at h
 . rename_i hc;obtain⟨h0,h1,rfl⟩:=hc;obtain⟨u,rfl⟩:=qZ h0;cases h;refine(F.Sx u (by omega) w (Qx ht)).mono ?_;rintro e w' ⟨rfl,k,os,rfl⟩;exact⟨[_],rfl,Ox w k os,fun ν' H'=>⟨_,[],rfl,⟨rfl,rfl⟩,rfl⟩⟩
 . cases h
theorem RH(N:Nat)(s:List UInt8)(c:Int)(r:List UInt8)(h:wh N s c=some r):Cn Tryz.prog 151 [sT s,sI .i64 c] [] [sT r]:=by
 refine RU en151 fun ν H w l hl=>?_;obtain⟨a,_,rfl,⟨h1,h2⟩,a2,_,rfl,⟨h3,h4⟩,rfl⟩:=hl;subst h1 h3;unfold wh at h;split at h
 . rename_i hc;obtain⟨h0,h1,h2⟩:=hc;obtain⟨u,rfl⟩:=qZ h0;cases h;refine(Tryz.strings_Repeat (s8 s) u w (by omega) (by rw[wU];exact Int.ofNat_le.1 (by rw[Gi];exact h2))).mono ?_;rintro e w' ⟨rfl,hB⟩;exact⟨[_],rfl,hB,fun ν' H'=>⟨_,[],rfl,⟨rfl,rfl⟩,rfl⟩⟩
 . cases h
theorem JC(N:Nat)(xs:List (List UInt8))(s r:List UInt8)(h:pW N xs s=some r):Cn Tryz.prog 122 [sR gH false xs,sT s] [] [sT r]:=by
 refine PJ en122 fun ν H w l hv hl=>?_;obtain⟨v,_,rfl,hs,a2,_,rfl,⟨h3,h4⟩,rfl⟩:=hl;subst h3;unfold pW at h;split at h
 . rename_i hc;obtain⟨h0,h1⟩:=hc;cases h;have hx:∀l:List (List UInt8),(l.map s8).map (·.data.toList)=l:=fun l=>by rw[mq];exact(Ci fun x _=>by simp[s8]).trans (List.map_id l)
   have hj0:Calls Tryz.prog 122 #[v,.string (s8 s)] w fun e w'=>e=.returned (.string (s8 (Lib.join xs s)))/\Ext w w':=by
    have hs:Rs gH (H false) v xs:=hs;rcases hs with⟨⟨oa,rfl⟩,rfl⟩|⟨b,o,cap,rfl,hcap,hxs⟩
    . refine(Tryz.strings_Join_none oa 0 (s8 s) w).mono ?_;rintro e w' ⟨rfl,rfl⟩;exact⟨by simp[Lib.join,s8],Ext.refl _⟩
    . have hcell:∀(j:Nat) x,(xs.map s8)[j]?=some x->w.cell? ⟨b,o+j,none⟩=some (.string x):=by
       intro j x hj;rw[gM]at hj;cases hx1:xs[j]?with
       |none=>rw[hx1]at hj;cases hj
       |some y=>
        rw[hx1]at hj;cases hj;obtain⟨vs,-,hA,hv'⟩:=hxs j y hx1;have hv':vs=[.string (s8 y)]:=hv';have h3:=hA.get 0 (v:=.string (s8 y)) (by rw[hv'];rfl);have h4:=xL (A:=[]) (xH (hv false) h3);rw[show o+j*gH.sz+0=o+j from by show o+j*1+0=o+j;omega]at h4;exact h4
      cases xs with
      |nil=>
       refine(Tryz.strings_Join_none (some ⟨b,o,none⟩) cap (s8 s) w).mono ?_;rintro e w' ⟨rfl,rfl⟩;exact⟨by simp[Lib.join,s8],Ext.refl _⟩
      |cons y ys=>
       have hb:b<w.heap.size:=by
        have h5:=hcell 0 (s8 y) rfl;rcases cw b w.heap.size with h6|h6
        . exact h6
        . simp[World.cell?,B4 h6]at h5
       have h7:=Tryz.strings_Join b o cap ((y::ys).map s8) (s8 s) w hcell hb (by simpa using h0) (by simpa using hcap) (by rw[hx];exact h1);rw[hx,cP]at h7;exact h7
   exact hj0.mono fun e w' ⟨he,hE⟩=>⟨[_],he,hE,fun ν' H'=>⟨_,[],rfl,⟨rfl,rfl⟩,rfl⟩⟩
 . cases h
theorem Qf(N:Nat)(xs r:List (List UInt8))(h:xt N xs=some r):Cx Tryz.prog 152 [sO 0] [.row gH true xs] [(0,some (.row gH true r))] []:=by
  obtain⟨hs,rfl⟩:=Tl h;refine⟨en152,fun X w H ν l hν hS hl=>?_⟩;obtain⟨v,_,rfl,⟨b,c,n,p1,rfl⟩,rfl⟩:=hl;obtain⟨b',c',n',k,q1,q2,q3⟩:=hS.cS 0 _ rfl;rw[p1]at q1;cases q1;obtain⟨rfl,e0,cs,sp,rfl,e3,e4⟩:=q3;have hcs:=e3.strs;have fin:∀w',Go.X.Loc [b] [] w w' [b] [.cells ([]++(xs.reverse.map (fun x=>Value.string (s8 x))++sp))]->vY X w H ν 1 [(0,some (.row gH true xs.reverse))] [] [] w':=by
    intro w' hL;obtain⟨g1,g2⟩:=hS.mod (ob:=.row gH true xs.reverse) rfl rfl p1 hL (fun H' hH=>⟨by simp,e0,xs.reverse.map (fun x=>Value.string (s8 x)),sp,rfl,bS.JX _,by rw[<-e4,hcs];simp⟩);refine⟨ν,fun _ _=>rfl,?_,rfl⟩;have:aQ [(0,some (Ob.row gH true xs.reverse))]=bG [(0,some (Ob.row gH true xs.reverse))] (aQ (ei 0 [Ob.row gH true xs])):=by
      funext t;show(bif Nat.beq t 0 then _ else none)=(bif Nat.beq t 0 then _ else(bif Nat.beq t 0 then _ else none));cases Nat.beq t 0<;>rfl
    rw[this];exact g1
  cases b with
  |none=>
    have h0:[]++(cs++sp)=[]:=q2;have hcs0:cs=[]:=by simp at h0;exact h0.1
    have hx0:xs=[]:=by rw[hcs0]at hcs;cases xs with|nil=>rfl|cons _ _=>cases hcs
    subst hx0;refine(Tryz.slices_Reverse_string_empty none 0 w).mono ?_;rintro e w' ⟨rfl,rfl⟩;refine⟨[],rfl,fin _ ?_⟩;have:=jq q2;rw[hcs0]at this;exact this
  |some b=>
    have hH:Holds encStr w b 0 xs.toArray:=by
      intro j hj;have hj':j<xs.length:=by simpa using hj
      have hcell:([]++(cs++sp))[0+j]?=some (Value.string (s8 xs[j])):=by
        rw[iQ,hcs,eK,jW (by simpa using hj'),gM,bV hj'];rfl
      refine⟨?_,?_⟩
      . rw[rH q2 hcell,getElem!_pos _ j hj];rfl
      . obtain⟨t,lo,hi,h1,h2,h3⟩:=q2
        have := h3 (0 + j) (by rcases cw (0 + j) ([] ++ (cs ++ sp)).length with h | h; · exact h
                               . rw[fP h]at hcell;cases hcell)
        simp[World.frozen?,h1];omega
    refine(Tryz.slices_Reverse_string b 0 c xs w hH hs).mono ?_;rintro e w' ⟨rfl,n,rfl⟩;refine⟨[],rfl,fin _ ?_⟩;have hL:=jq q2;obtain⟨t,lo,hi,h1,h2,h3⟩:=q2;have hlen:(xs.reverse.map (fun x=>Value.string (s8 x))++sp).length=(cs++sp).length:=by rw[hcs];simp
    exact(hL.put (w':=putRow encStr (Sort.ahead w n) b 0 xs.reverse.toArray) 0 rfl (c':=.cells ([]++(xs.reverse.map (fun x=>Value.string (s8 x))++sp)))
      ⟨t,lo,hi,by
        simp only[putRow,mapBlock,Sort.ahead,MP,if_true,h1,oy,onCells,iQ];rw[hcs,TQ (by simp)],h2,fun j hj=>h3 j (by rw[iQ]at hj⊢;rw[<-hlen];exact hj)⟩
      (fun k hk=>by simp[putRow,mapBlock,Sort.ahead,MP,Ne.symm hk]) (by simp[putRow,mapBlock,Sort.ahead]) rfl rfl rfl).1
end Go.Proofs.YtipdkfmhfakbnaaGreatDoor.FS

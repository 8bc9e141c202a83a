/- Plain theorems and definitions of this seat, several texts in one. -/
import Derived.Test.YtipdkfmhfakbnaaGreatDoorAb
import Derived.Test.YtipdkfmhfakbnaaGreatDoorAa
import Derived.Lib.AppendZeros
set_option linter.unusedVariables false
set_option linter.unusedSimpArgs false
set_option linter.unusedSectionVars false
namespace Go.X
open Go Go.RowKit
theorem LS(zc:List Value)(n:Nat):(Builtin.zeroCells zc.toArray n).toList=(List.replicate n zc).flatten:=by
 have h:∀n:Nat,(List.range (n*zc.length)).map (λi=>zc[i%zc.length]!)=(List.replicate n zc).flatten:=by
  intro n
  induction n with
  |zero=>simp
  |succ n ih=>
   rw[List.replicate_succ',List.flatten_append,Hg,List.range_add,jP,ih];congr 1;simp only[NH,List.flatten_nil,mT,mV];apply qv (by simp);intro i h1 h2;simp only[lG,List.getElem_range,Function.comp];have:(n*zc.length+i)%zc.length=i:=by rw[Nat.mul_comm,Nat.mul_add_mod,zp h2]
   rw[this,getElem!_pos zc i h2]
 rw[<-h n];simp[Builtin.zeroCells]
section
variable {P:Program} {ty:TypeId} {ρ:Operand->Value} {w w0:World} {R:Value->World->Prop} {X:List (Option Nat)} {O:List (Option Nat)} {C:List df} {H:Hp} {α:Type} {r:bZ α}
theorem aG.Tp{t el:TypeId}{x:Operand}{b l h' cap by':Nat}{z:Value}{zc cs sp:List Value}{xs:List α}{a:α}(hu:P.underlying t=some (.slice el))(ti:TI P el r.sz by' z)(hzc:z.cells=zc.toArray)(hR:r.R H zc a)
 (hx:ρ x=.slice (some ⟨b,l*r.sz,none⟩) (h'-l) cap)(hl:l<h')(hh:h'<=xs.length)
 (hL:Loc X [] w0 w O C)(i:Nat)(hO:O[i]?=some (some b))(hC:C[i]?=some (.cells ([]++(cs++sp))))(hE:ct r H cs xs)
 (h:∀w' cs',Loc X [] w0 w' O (C.set i (.cells ([]++(cs'++sp))))->Step O O w w'->ct r H cs' (qO xs l h' a)->cs'.length=cs.length->R (.tuple #[]) w'):
 aG P (.call {callee:=.builtin .clear,args:=#[x],argTypes:=#[t]}) ty ρ w R:=by
 obtain⟨inf,hi,hs,hby,hz⟩:=ti;have hlen:=hE.length;have hzl:=r.len _ _ _ hR;have hsplit:xs=xs.take l++((xs.drop l).take (h'-l)++xs.drop h'):=by
  have e1:(xs.drop l).take (h'-l)++xs.drop h'=xs.drop l:=by
   have:xs.drop h'=(xs.drop l).drop (h'-l):=by rw[rN];congr 1;omega
   rw[this,nT]
  rw[e1,nT]
 rw[hsplit]at hE;obtain⟨A,B0,rfl,hA,hB0⟩:=hE.split;obtain⟨B,D,rfl,hB,hD⟩:=hB0.split;have lA:=hA.length;have lB:=hB.length;have lD:=hD.length;have eA:A.length=l*r.sz:=by rw[lA,fA,kx (by omega)]
 have eB:B.length=(h'-l)*r.sz:=by rw[lB,fA,wL,kx (by omega)]
 have hZ:=ct.replicate (r:=r) hR (h'-l);have lZ:=hZ.length;rw[lE]at lZ;obtain⟨tt,lo,hhh,g1,g0,g2⟩:=hL.at i hO hC;have hin:l*r.sz+(List.replicate (h'-l) zc).flatten.length<=([]++((A++(B++D))++sp)).length:=by
  simp only[jz,di];omega
 obtain⟨w',r1,r2,r3,r4,r5,r6,r7⟩:=CK (P:=P) (List.replicate (h'-l) zc).flatten 0 (l*r.sz) _ w g1 g2 (by simpa using hin) (Dq hZ.fH);have hput:putAt ([]++((A++(B++D))++sp)) (l*r.sz+0) (List.replicate (h'-l) zc).flatten=[]++((A++((List.replicate (h'-l) zc).flatten++D))++sp):=by
  rw[jz,jz,jy,qs,<-eA,Dv _ _ _ (by rw[lZ];simp[eB]),lZ,jy B D sp,<-eB,NT];simp[jy]
 rw[hput]at r2;have hp:=hL.put (w':=w') i hO (c':=.cells ([]++((A++((List.replicate (h'-l) zc).flatten++D))++sp))) ⟨tt,lo,hhh,r2,g0,λj hj=>g2 j (by
  have:([]++((A++((List.replicate (h'-l) zc).flatten++D))++sp)).length=([]++((A++(B++D))++sp)).length:=by simp only[jz,di];omega
  rw[<-this];exact hj)⟩ r3 r4 r5 r6 r7
 have hzv:∀w:World,(zeroValue el).run P w=.ok z w:=λw=>by simp[zeroValue,typeInfo,hi,hz]
 obtain⟨m,hm⟩:∃m,h'-l=m+1:=⟨h'-l-1,by omega⟩;have hr:∀ty,(Builtin.clear_ #[t] ty #[.slice (some ⟨b,l*r.sz,none⟩) (h'-l) cap]).run P w=.ok (.tuple #[]) w':=by
  intro ty;rw[hm];simp[Builtin.clear_,run_underlying hu,hzv,hzc];have:=LS zc (m+1);rw[hm]at r1;rw[<-this]at r1;simp[r1]
 simp only[aG,dw,execOp,resolve,invoke,builtin];simp[hx,hr,upon];refine h w' _ hp.1 hp.2 ?_ ?_
 . have:=hA.append (hZ.append hD);simpa[qO]using this
 . simp only[di];omega
end
end Go.X
namespace Go.Q
open Go Go.RowKit Go.X
section
variable [fq] {P:Program} {tb:List (dU P)} {L:SS} {o:Oper} {K:Ef->Option Sv->Prop} {res β:Type} {t el:TypeId} {T E:dU P} {x:Operand}
theorem segf{α β:Type}{xs:List α}{lo h':Int}{f:Unit->Option β}{res:β}(h:(ov xs lo h').bind f=some res):lo<h'/\h'<=xs.length:=by
 obtain⟨u,q1,-⟩:=bind_some h;obtain⟨m,n,rfl,rfl,q5,q6⟩:=IT q1;exact⟨by omega,by omega⟩
theorem clG{α:Type}{rp:bZ α}[aM rp]{κ:Bool}{xs:List α}{lo h':Int}{sz j:Nat}(z:α)(hlt:lo<h'/\h'<=xs.length)(nx:K ⟨0,[(j,some (.row rp κ (qO xs lo h' z)))],[]⟩ none)
 (ho:o.op=.call {callee:=.builtin .clear,args:=#[x],argTypes:=#[t]}:=by rfl) (hx:bW L x=some (.s (.lf (.sg j sz lo h'))):=by rfl) (hj:aT L.bI j=some (.row rp κ xs):=by rfl) (hT:cP tb t=some T:=by rfl) (hd:T.d=.slice el:=by rfl) (hE:cP tb el=some E:=by rfl) (hz:E.sz=rp.sz:=by rfl) (hs:rp.sz=sz:=by rfl)
 (h1:fH E.z.cells.toList=true:=by rfl) (hw:pM (E.z.cells.toList.map .v) (aM.cl rp κ z)=some (aM.cl rp κ z):=by rfl):cA tb o L K:=by
 refine cA.of (LT.md hj λν H e w b c n0 k0 hv ht hO hS p1 p2 p3=>?_) nx;rw[ho];have hv':dd ν H (aM.cl rp κ z) E.z.cells.toList:=tE (ν:=ν) ht hw (qL h1);obtain⟨e1,g7,cs,sp,rfl,g5,g6⟩:=p3;obtain⟨b',c',m,k,cp,m1,m2,m3,m4,m5⟩:(Lf.sg j sz lo h').R ν H (ev e x):=du hS hx;rw[p1]at m1;cases m1;subst hs m2 m3;have hmk:m<k:=by omega
 have hk:k<=xs.length:=by omega
 refine aG.Tp (H:=H κ) (zc:=E.z.cells.toList) (gD hT hd) (iT hE hz) (by simp) (aM.co hv') m5 hmk hk (jD p2) 0 rfl rfl g5 ?_;intro w' cs' hL' hst hE' hlen;refine⟨_,hL',λH' hH=>⟨by rw[e1,JX m4 hk],g7,cs',sp,rfl,hE'.mono (hH κ),by rw[di]at g6⊢;rw[hlen];exact g6⟩⟩
theorem mvs{α:Type}(t j:Nat){rp:bZ α}{κ:Bool}{xs:List α}(ht:aT L.bX t=some (.s (.lf (.own j))):=by rfl)(hj:aT L.bI j=some (.row rp κ xs):=by rfl):
 Vw L ⟨1,[(L.nx,some (.row rp κ xs)),(j,none)],[(t,some (.s (.lf (.own L.nx))))]⟩:=by
 refine⟨λX w0 H0 ν oF e w ho hn hS hs=>?_⟩;have hx:=hn L.nx (bO _) (by show L.nx<L.nx+1;omega);obtain⟨b,c,n,k,p1,p2,p3⟩:=hS.de j _ (ho j _ hj);obtain⟨g1,g2⟩:=hS.dH (ob:=.row rp κ xs) (c':=c) (n':=n) rfl (ho j _ hj) p1 hx (jD p2) (λH' hH=>by
  obtain⟨e1,e0,cs,sp,e2,e3,e4⟩:=p3;exact⟨e1,e0,cs,sp,e2,e3.mono (hH κ),e4⟩)
 refine⟨_,pv,g1,λκ'=>g2 κ',?_⟩;intro t' sv h;simp only[aT]at h;cases hb:Nat.beq t' t with
 |false=>rw[hb]at h;cases h
 |true=>
  rw[hb]at h;cases h;obtain rfl:=dV hb;obtain⟨b',c',n',m1,m2⟩:(Lf.own j).R ν (HF X w0 H0 ν oF w) (e t'):=hs _ _ ht;rw[p1]at m1;cases m1;exact⟨b,c,n,mg,m2⟩
end
open Go Go.RowKit Go.X
section
variable [fq] {P:Program} {tb:List (dU P)} {L:SS} {o:Oper} {K:Ef->Option Sv->Prop} {res β:Type} {r0:β} {t tn el:TypeId} {T TN E:dU P} {x y:Operand}
theorem capN(nx:K .z (eM (.int .i64 0)))(ho:o.op=.call {callee:=.builtin .cap,args:=#[x],argTypes:=#[t]}:=by rfl) (hx:bW L x=some (.s (.lf (.v (.slice none 0 0)))):=by rfl) (hT:cP tb t=some T:=by rfl) (hd:T.d=.slice el:=by rfl):cA tb o L K:=by
 refine cA.of (LT.look λν H e w hv ht hO hS=>?_) nx;rw[ho];have hx':=(eY hS (show lv (bW L x)=some (.slice none 0 0) by rw[hx];rfl)).1;simp only[aG,dw,execOp,resolve,invoke,builtin];simp[hx',Builtin.cap_,run_underlying (gD hT hd),upon];exact⟨rfl,rfl⟩
theorem slN{q:IntKind}(nx:K .z (eM (.slice none 0 0)))(ho:o.op=.slice t x none (some y) none:=by rfl)(hx:bW L x=some (.s (.lf (.v (.slice none 0 0)))):=by rfl)(hy:lv (bW L y)=some (.int q 0):=by rfl)(hT:cP tb t=some T:=by rfl)(hd:T.d=.slice el:=by rfl)(hE:cP tb el=some E:=by rfl):cA tb o L K:=by
 refine cA.of (LT.look λν H e w hv ht hO hS=>?_) nx;rw[ho];have hx':=(eY hS (show lv (bW L x)=some (.slice none 0 0) by rw[hx];rfl)).1;have hy':=(eY hS hy).1;obtain⟨inf,hi,hs,hby,hz⟩:=gu hE;have hr:=An (P:=P) (w:=w) (gD hT hd) hi none 0 0 0 0 none (some (.int q 0)) (.inl ⟨rfl,rfl⟩) (.inr ⟨q,rfl⟩) (bO _) (bO _);simp only[aG,dw,execOp];simp[hx',hy',hr,upon];exact⟨rfl,rfl⟩
theorem apZ{α:Type}{rp:bZ α}[aM rp]{z:α}{n:Int}{q kn:IntKind}{bs:Nat}{f:List α->Option β}(h:(cZ bs [] (List.replicate n.toNat z)).bind f=some r0)(h0:n>0)
    (nx:∀Y,f Y=some r0->K ⟨1,[(L.nx,some (.row rp true Y))],[]⟩ (some (.s (.lf (.own L.nx)))))
    (ho:o.op=.call {callee:=.builtin .append,args:=#[x,y],argTypes:=#[t,tn]}:=by rfl) (hx:bW L x=some (.s (.lf (.v (.slice none 0 0)))):=by rfl) (hy:lv (bW L y)=some (.int q n):=by rfl) (hT:cP tb t=some T:=by rfl) (hd:T.d=.slice el:=by rfl) (hE:cP tb el=some E:=by rfl) (hTN:cP tb tn=some TN:=by rfl) (hdn:TN.d=.int kn:=by rfl) (hz:E.sz=rp.sz:=by rfl) (hb:E.qV=bs:=by rfl)
    (h1:fH E.z.cells.toList=true:=by rfl) (hw:pM (E.z.cells.toList.map .v) (aM.cl rp true z)=some (aM.cl rp true z):=by rfl) (hr:(rp.sz==0)=false:=by rfl):cA tb o L K:=by
  obtain⟨Y,q1,q2⟩:=bind_some h;obtain⟨q3,q4,q5⟩:=BL q1;refine cA.of (LT.nw λν H e w hv ht hO hS=>?_) (nx Y q2);rw[ho];subst hb;have hv':dd ν H (aM.cl rp true z) E.z.cells.toList:=tE (ν:=ν) ht hw (qL h1);have hx':=(eY hS (show lv (bW L x)=some (.slice none 0 0) by rw[hx];rfl)).1;have hy':=(eY hS hy).1;obtain⟨inf,hi,hs,hby,hzz⟩:=iT hE hz;obtain⟨m,rfl⟩:∃m:Nat,n=(m:Int):=⟨n.toNat,by omega⟩;simp only[mh,lE,dZ,fb]at q3 q4 q5;have hm:0<m:=by omega
  have hzl:=rp.len _ _ _ (aM.co hv');have hsz:0<inf.size:=by
    rw[hs];have:¬rp.sz=0:=by simpa using hr
    omega
  have hrun:=λty=>Lib.run_append_nil_zeros (P:=P) w t tn ty el inf E.z q kn (gD hT hd) (gD hTN hdn) hi hzz m hm hsz (by omega) (by rw[hby];omega);have hge:=grownCap_ge w m 0 el;have hEL:=Ext.drawn w (w.drawn+1);have hL1:Go.X.Loc [] [] w w.drew [] []:=(oc (w:=w)).ext hEL;have hfl:∀k,(Builtin.zeroCells E.z.cells k).toList=(List.replicate k E.z.cells.toList).flatten:=λk=>by
    have:=LS E.z.cells.toList k;simpa using this
  have hal:=hL1.alloc (o:=.cells (Builtin.zeroCells E.z.cells m++Builtin.zeroCells E.z.cells (grownCap w m 0 el-m)) el) (c:=.cells ([]++((Builtin.zeroCells E.z.cells m).toList++(Builtin.zeroCells E.z.cells (grownCap w m 0 el-m)).toList)))
    (by have:=oV w.drew (Builtin.zeroCells E.z.cells m++Builtin.zeroCells E.z.cells (grownCap w m 0 el-m)) el
        simpa using this)
  have hEls:ct rp (H true) (Builtin.zeroCells E.z.cells m).toList Y:=by rw[hfl,q5];exact ct.replicate (aM.co hv') m
  have hgo:(execOp (ev e) (dw (.call {callee:=.builtin .append,args:=#[x,y],argTypes:=#[t,tn]}) o.type)).run P w=.ok (.value (.slice (some ⟨w.heap.size,0,none⟩) m (grownCap w m 0 el))) (w.drew.alloc (.cells (Builtin.zeroCells E.z.cells m++Builtin.zeroCells E.z.cells (grownCap w m 0 el-m)) el)):=by
    simp only[dw,execOp,resolve,invoke,builtin];simp[hx',hy',hrun]
  unfold aG;rw[hgo];refine⟨some w.heap.size,grownCap w m 0 el,Y.length,_,hal.1,λν' H' hν hH=>⟨rfl,hr,_,_,rfl,hEls.mono (hH true),?_⟩,λν' H' hν hH hn=>⟨some w.heap.size,grownCap w m 0 el,Y.length,hn,by rw[q5];simp[fE]⟩⟩;rw[hfl,hfl];simp only[di,List.length_flatten,List.map_replicate,List.sum_replicate_nat,hzl,<-ig];congr 1;omega
end
end Go.Q

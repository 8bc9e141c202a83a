/- Plain theorems and definitions of this seat, several texts in one. -/
import Derived.Test.YtipdkfmhfakbnaaGreatDoorAb
import Derived.Lib.AppendZeros
set_option linter.unusedVariables false
set_option linter.unusedSimpArgs false
set_option linter.unusedSectionVars false
namespace Go.X
open Go Go.RowKit
theorem LK(zc:List Value)(n:Nat):(Builtin.zeroCells zc.toArray n).toList=(List.replicate n zc).flatten:=by
 have h:∀n:Nat,(List.range (n*zc.length)).map (λi=>zc[i%zc.length]!)=(List.replicate n zc).flatten:=by
  intro n
  induction n with
  |zero=>simp
  |succ n ih=>
   rw[List.replicate_succ',List.flatten_append,IA,List.range_add,iC,ih];congr 1;simp only[PG,List.flatten_nil,lH,nF];apply oD (by simp);intro i h1 h2;simp only[k6,PU,Function.comp];have:(n*zc.length+i)%zc.length=i:=by rw[IQ,Nat.mul_add_mod,Ai h2]
   rw[this,getElem!_pos zc i h2]
 rw[<-h n];simp[Builtin.zeroCells]
section
variable {P:Program} {ty:TypeId} {ρ:Operand->Value} {w w0:World} {R:Value->World->Prop} {X:List (Option Nat)} {O:List (Option Nat)} {C:List dE} {H:Hp} {α:Type} {r:cx α}
theorem aF.Rc{t el:TypeId}{x:Operand}{b l h' cap by':Nat}{z:Value}{zc cs sp:List Value}{xs:List α}{a:α}(hu:P.underlying t=some (.slice el))(ti:TI P el r.sz by' z)(hzc:z.cells=zc.toArray)(hR:r.R H zc a)
 (hx:ρ x=.slice (some ⟨b,l*r.sz,none⟩) (h'-l) cap)(hl:l<h')(hh:h'<=xs.length)
 (hL:Loc X [] w0 w O C)(i:Nat)(hO:O[i]?=some (some b))(hC:C[i]?=some (.cells ([]++(cs++sp))))(hE:cz r H cs xs)
 (h:∀w' cs',Loc X [] w0 w' O (C.set i (.cells ([]++(cs'++sp))))->Step O O w w'->cz r H cs' (nJ xs l h' a)->cs'.length=cs.length->R (.tuple #[]) w'):
 aF P (.call {callee:=.builtin .clear,args:=#[x],argTypes:=#[t]}) ty ρ w R:=by
 obtain⟨inf,hi,hs,hby,hz⟩:=ti;have hlen:=hE.length;have hzl:=r.len _ _ _ hR;have hsplit:xs=xs.take l++((xs.drop l).take (h'-l)++xs.drop h'):=by
  have e1:(xs.drop l).take (h'-l)++xs.drop h'=xs.drop l:=by
   have:xs.drop h'=(xs.drop l).drop (h'-l):=by rw[nC];congr 1;omega
   rw[this,oC]
  rw[e1,oC]
 rw[hsplit]at hE;obtain⟨A,B0,rfl,hA,hB0⟩:=hE.split;obtain⟨B,D,rfl,hB,hD⟩:=hB0.split;have lA:=hA.length;have lB:=hB.length;have lD:=hD.length;have eA:A.length=l*r.sz:=by rw[lA,fm,kX (by omega)]
 have eB:B.length=(h'-l)*r.sz:=by rw[lB,fm,xq,kX (by omega)]
 have hZ:=cz.replicate (r:=r) hR (h'-l);have lZ:=hZ.length;rw[mg]at lZ;obtain⟨tt,lo,hhh,g1,g0,g2⟩:=hL.at i hO hC;have hin:l*r.sz+(List.replicate (h'-l) zc).flatten.length<=([]++((A++(B++D))++sp)).length:=by
  simp only[jC,dL];omega
 obtain⟨w',r1,r2,r3,r4,r5,r6,r7⟩:=B5 (P:=P) (List.replicate (h'-l) zc).flatten 0 (l*r.sz) _ w g1 g2 (by simpa using hin) (FP hZ.fK);have hput:putAt ([]++((A++(B++D))++sp)) (l*r.sz+0) (List.replicate (h'-l) zc).flatten=[]++((A++((List.replicate (h'-l) zc).flatten++D))++sp):=by
  rw[jC,jC,jS,pK,<-eA,Ii _ _ _ (by rw[lZ];simp[eB]),lZ,jS B D sp,<-eB,PS];simp[jS]
 rw[hput]at r2;have hp:=hL.put (w':=w') i hO (c':=.cells ([]++((A++((List.replicate (h'-l) zc).flatten++D))++sp))) ⟨tt,lo,hhh,r2,g0,λj hj=>g2 j (by
  have:([]++((A++((List.replicate (h'-l) zc).flatten++D))++sp)).length=([]++((A++(B++D))++sp)).length:=by simp only[jC,dL];omega
  rw[<-this];exact hj)⟩ r3 r4 r5 r6 r7
 have hzv:∀w:World,(zeroValue el).run P w=.ok z w:=λw=>by simp[zeroValue,typeInfo,hi,hz]
 obtain⟨m,hm⟩:∃m,h'-l=m+1:=⟨h'-l-1,by omega⟩;have hr:∀ty,(Builtin.clear_ #[t] ty #[.slice (some ⟨b,l*r.sz,none⟩) (h'-l) cap]).run P w=.ok (.tuple #[]) w':=by
  intro ty;rw[hm];simp[Builtin.clear_,run_underlying hu,hzv,hzc];have:=LK zc (m+1);rw[hm]at r1;rw[<-this]at r1;simp[r1]
 simp only[aF,dI,execOp,resolve,invoke,builtin];simp[hx,hr,upon];refine h w' _ hp.1 hp.2 ?_ ?_
 . have:=hA.append (hZ.append hD);simpa[nJ]using this
 . simp only[dL];omega
end
end Go.X
namespace Go.Q
open Go Go.RowKit Go.X
section
variable [fy] {P:Program} {tb:List (dZ P)} {L:SS} {o:Oper} {K:Ef->Option Sv->Prop} {res β:Type} {t el:TypeId} {T E:dZ P} {x:Operand}
theorem segf{α β:Type}{xs:List α}{lo h':Int}{f:Unit->Option β}{res:β}(h:(og xs lo h').bind f=some res):lo<h'/\h'<=xs.length:=by
 obtain⟨u,q1,-⟩:=bind_some h;obtain⟨m,n,rfl,rfl,q5,q6⟩:=JX q1;exact⟨by omega,by omega⟩
theorem clG{α:Type}{rp:cx α}[aO rp]{κ:Bool}{xs:List α}{lo h':Int}{sz j:Nat}(z:α)(hlt:lo<h'/\h'<=xs.length)(nx:K ⟨0,[(j,some (.row rp κ (nJ xs lo h' z)))],[]⟩ none)
 (ho:o.op=.call {callee:=.builtin .clear,args:=#[x],argTypes:=#[t]}:=by rfl) (hx:cr L x=some (.s (.lf (.sg j sz lo h'))):=by rfl) (hj:aW L.bL j=some (.row rp κ xs):=by rfl) (hT:cZ tb t=some T:=by rfl) (hd:T.d=.slice el:=by rfl) (hE:cZ tb el=some E:=by rfl) (hz:E.sz=rp.sz:=by rfl) (hs:rp.sz=sz:=by rfl)
 (h1:fK E.z.cells.toList=true:=by rfl) (hw:qI (E.z.cells.toList.map .v) (aO.cl rp κ z)=some (aO.cl rp κ z):=by rfl):cJ tb o L K:=by
 refine cJ.of (LT.md hj λν H e w b c n0 k0 hv ht hO hS p1 p2 p3=>?_) nx;rw[ho];have hv':dz ν H (aO.cl rp κ z) E.z.cells.toList:=tV (ν:=ν) ht hw (se h1);obtain⟨e1,g7,cs,sp,rfl,g5,g6⟩:=p3;obtain⟨b',c',m,k,cp,m1,m2,m3,m4,m5⟩:(Lf.sg j sz lo h').R ν H (ev e x):=dH hS hx;rw[p1]at m1;cases m1;subst hs m2 m3;have hmk:m<k:=by omega
 have hk:k<=xs.length:=by omega
 refine aF.Rc (H:=H κ) (zc:=E.z.cells.toList) (gQ hT hd) (jk hE hz) (by simp) (aO.co hv') m5 hmk hk (jT p2) 0 rfl rfl g5 ?_;intro w' cs' hL' hst hE' hlen;refine⟨_,hL',λH' hH=>⟨by rw[e1,Hh m4 hk],g7,cs',sp,rfl,hE'.mono (hH κ),by rw[dL]at g6⊢;rw[hlen];exact g6⟩⟩
theorem mvs{α:Type}(t j:Nat){rp:cx α}{κ:Bool}{xs:List α}(ht:aW L.cv t=some (.s (.lf (.own j))):=by rfl)(hj:aW L.bL j=some (.row rp κ xs):=by rfl):
 Vw L ⟨1,[(L.nx,some (.row rp κ xs)),(j,none)],[(t,some (.s (.lf (.own L.nx))))]⟩:=by
 refine⟨λX w0 H0 ν oF e w ho hn hS hs=>?_⟩;have hx:=hn L.nx (bQ _) (by show L.nx<L.nx+1;omega);obtain⟨b,c,n,k,p1,p2,p3⟩:=hS.dD j _ (ho j _ hj);obtain⟨g1,g2⟩:=hS.dG (ob:=.row rp κ xs) (c':=c) (n':=n) rfl (ho j _ hj) p1 hx (jT p2) (λH' hH=>by
  obtain⟨e1,e0,cs,sp,e2,e3,e4⟩:=p3;exact⟨e1,e0,cs,sp,e2,e3.mono (hH κ),e4⟩)
 refine⟨_,ri,g1,λκ'=>g2 κ',?_⟩;intro t' sv h;simp only[aW]at h;cases hb:Nat.beq t' t with
 |false=>rw[hb]at h;cases h
 |true=>
  rw[hb]at h;cases h;obtain rfl:=ee hb;obtain⟨b',c',n',m1,m2⟩:(Lf.own j).R ν (HF X w0 H0 ν oF w) (e t'):=hs _ _ ht;rw[p1]at m1;cases m1;exact⟨b,c,n,ng,m2⟩
end
open Go Go.RowKit Go.X
section
variable [fy] {P:Program} {tb:List (dZ P)} {L:SS} {o:Oper} {K:Ef->Option Sv->Prop} {res β:Type} {r0:β} {t tn el:TypeId} {T TN E:dZ P} {x y:Operand}
theorem capN(nx:K .z (eX (.int .i64 0)))(ho:o.op=.call {callee:=.builtin .cap,args:=#[x],argTypes:=#[t]}:=by rfl) (hx:cr L x=some (.s (.lf (.v (.slice none 0 0)))):=by rfl) (hT:cZ tb t=some T:=by rfl) (hd:T.d=.slice el:=by rfl):cJ tb o L K:=by
 refine cJ.of (LT.look λν H e w hv ht hO hS=>?_) nx;rw[ho];have hx':=(fe hS (show lv (cr L x)=some (.slice none 0 0) by rw[hx];rfl)).1;simp only[aF,dI,execOp,resolve,invoke,builtin];simp[hx',Builtin.cap_,run_underlying (gQ hT hd),upon];exact⟨rfl,rfl⟩
theorem slN{q:IntKind}(nx:K .z (eX (.slice none 0 0)))(ho:o.op=.slice t x none (some y) none:=by rfl)(hx:cr L x=some (.s (.lf (.v (.slice none 0 0)))):=by rfl)(hy:lv (cr L y)=some (.int q 0):=by rfl)(hT:cZ tb t=some T:=by rfl)(hd:T.d=.slice el:=by rfl)(hE:cZ tb el=some E:=by rfl):cJ tb o L K:=by
 refine cJ.of (LT.look λν H e w hv ht hO hS=>?_) nx;rw[ho];have hx':=(fe hS (show lv (cr L x)=some (.slice none 0 0) by rw[hx];rfl)).1;have hy':=(fe hS hy).1;obtain⟨inf,hi,hs,hby,hz⟩:=gJ hE;have hr:=BA (P:=P) (w:=w) (gQ hT hd) hi none 0 0 0 0 none (some (.int q 0)) (.inl ⟨rfl,rfl⟩) (.inr ⟨q,rfl⟩) (bQ _) (bQ _);simp only[aF,dI,execOp];simp[hx',hy',hr,upon];exact⟨rfl,rfl⟩
theorem apZ{α:Type}{rp:cx α}[aO rp]{z:α}{n:Int}{q kn:IntKind}{bs:Nat}{f:List α->Option β}(h:(cY bs [] (List.replicate n.toNat z)).bind f=some r0)(h0:n>0)
    (nx:∀Y,f Y=some r0->K ⟨1,[(L.nx,some (.row rp true Y))],[]⟩ (some (.s (.lf (.own L.nx)))))
    (ho:o.op=.call {callee:=.builtin .append,args:=#[x,y],argTypes:=#[t,tn]}:=by rfl) (hx:cr L x=some (.s (.lf (.v (.slice none 0 0)))):=by rfl) (hy:lv (cr L y)=some (.int q n):=by rfl) (hT:cZ tb t=some T:=by rfl) (hd:T.d=.slice el:=by rfl) (hE:cZ tb el=some E:=by rfl) (hTN:cZ tb tn=some TN:=by rfl) (hdn:TN.d=.int kn:=by rfl) (hz:E.sz=rp.sz:=by rfl) (hb:E.qZ=bs:=by rfl)
    (h1:fK E.z.cells.toList=true:=by rfl) (hw:qI (E.z.cells.toList.map .v) (aO.cl rp true z)=some (aO.cl rp true z):=by rfl) (hr:(rp.sz==0)=false:=by rfl):cJ tb o L K:=by
  obtain⟨Y,q1,q2⟩:=bind_some h;obtain⟨q3,q4,q5⟩:=Dm q1;refine cJ.of (LT.nw λν H e w hv ht hO hS=>?_) (nx Y q2);rw[ho];subst hb;have hv':dz ν H (aO.cl rp true z) E.z.cells.toList:=tV (ν:=ν) ht hw (se h1);have hx':=(fe hS (show lv (cr L x)=some (.slice none 0 0) by rw[hx];rfl)).1;have hy':=(fe hS hy).1;obtain⟨inf,hi,hs,hby,hzz⟩:=jk hE hz;obtain⟨m,rfl⟩:∃m:Nat,n=(m:Int):=⟨n.toNat,by omega⟩;simp only[mQ,mg,dY,ff]at q3 q4 q5;have hm:0<m:=by omega
  have hzl:=rp.len _ _ _ (aO.co hv');have hsz:0<inf.size:=by
    rw[hs];have:¬rp.sz=0:=by simpa using hr
    omega
  have hrun:=λty=>Lib.run_append_nil_zeros (P:=P) w t tn ty el inf E.z q kn (gQ hT hd) (gQ hTN hdn) hi hzz m hm hsz (by omega) (by rw[hby];omega);have hge:=grownCap_ge w m 0 el;have hEL:=Ext.drawn w (w.drawn+1);have hL1:Go.X.Loc [] [] w w.drew [] []:=(oY (w:=w)).ext hEL;have hfl:∀k,(Builtin.zeroCells E.z.cells k).toList=(List.replicate k E.z.cells.toList).flatten:=λk=>by
    have:=LK E.z.cells.toList k;simpa using this
  have hal:=hL1.alloc (o:=.cells (Builtin.zeroCells E.z.cells m++Builtin.zeroCells E.z.cells (grownCap w m 0 el-m)) el) (c:=.cells ([]++((Builtin.zeroCells E.z.cells m).toList++(Builtin.zeroCells E.z.cells (grownCap w m 0 el-m)).toList)))
    (by have:=pt w.drew (Builtin.zeroCells E.z.cells m++Builtin.zeroCells E.z.cells (grownCap w m 0 el-m)) el
        simpa using this)
  have hEls:cz rp (H true) (Builtin.zeroCells E.z.cells m).toList Y:=by rw[hfl,q5];exact cz.replicate (aO.co hv') m
  have hgo:(execOp (ev e) (dI (.call {callee:=.builtin .append,args:=#[x,y],argTypes:=#[t,tn]}) o.type)).run P w=.ok (.value (.slice (some ⟨w.heap.size,0,none⟩) m (grownCap w m 0 el))) (w.drew.alloc (.cells (Builtin.zeroCells E.z.cells m++Builtin.zeroCells E.z.cells (grownCap w m 0 el-m)) el)):=by
    simp only[dI,execOp,resolve,invoke,builtin];simp[hx',hy',hrun]
  unfold aF;rw[hgo];refine⟨some w.heap.size,grownCap w m 0 el,Y.length,_,hal.1,λν' H' hν hH=>⟨rfl,hr,_,_,rfl,hEls.mono (hH true),?_⟩,λν' H' hν hH hn=>⟨some w.heap.size,grownCap w m 0 el,Y.length,hn,by rw[q5];simp[fJ]⟩⟩;rw[hfl,hfl];simp only[dL,List.length_flatten,List.map_replicate,List.sum_replicate_nat,hzl,<-iJ];congr 1;omega
end
end Go.Q

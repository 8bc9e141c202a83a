/- Plain theorems and definitions of this seat, several texts in one. -/
import Derived.Test.YtipdkfmhfakbnaaGreatDoorAb
import Derived.Test.YtipdkfmhfakbnaaGreatDoorAa
import Derived.Lib.AppendZeros
set_option linter.unusedVariables false
set_option linter.unusedSimpArgs false
set_option linter.unusedSectionVars false
namespace Go.X
open Go Go.RowKit
theorem JR(zc:List Value)(n:Nat):(Builtin.zeroCells zc.toArray n).toList=(List.replicate n zc).flatten:=by
 have h:∀n:Nat,(List.range (n*zc.length)).map (fun i=>zc[i%zc.length]!)=(List.replicate n zc).flatten:=by
  intro n
  induction n with
  |zero=>simp
  |succ n ih=>
   rw[List.replicate_succ',List.flatten_append,Gc,List.range_add,jg,ih];congr 1;simp only[MK,List.flatten_nil,lK,mq];apply pR (by simp);intro i h1 h2;simp only[ky,List.getElem_range,Function.comp];have:(n*zc.length+i)%zc.length=i:=by rw[Nat.mul_comm,Nat.mul_add_mod,yz h2]
   rw[this,getElem!_pos zc i h2]
 rw[<-h n];simp[Builtin.zeroCells]
section
variable {P:Program} {ty:TypeId} {ρ:Operand->Value} {w w0:World} {R:Value->World->Prop} {X:List (Option Nat)} {O:List (Option Nat)} {C:List cW} {H:Hp} {α:Type} {r:bQ α}
theorem aF.Qg{t el:TypeId}{x:Operand}{b l h' cap by':Nat}{z:Value}{zc cs sp:List Value}{xs:List α}{a:α}(hu:P.underlying t=some (.slice el))(ti:TI P el r.sz by' z)(hzc:z.cells=zc.toArray)(hR:r.R H zc a)
 (hx:ρ x=.slice (some ⟨b,l*r.sz,none⟩) (h'-l) cap)(hl:l<h')(hh:h'<=xs.length)
 (hL:Loc X [] w0 w O C)(i:Nat)(hO:O[i]?=some (some b))(hC:C[i]?=some (.cells ([]++(cs++sp))))(hE:bS r H cs xs)
 (h:∀w' cs',Loc X [] w0 w' O (C.set i (.cells ([]++(cs'++sp))))->Step O O w w'->bS r H cs' (qA xs l h' a)->cs'.length=cs.length->R (.tuple #[]) w'):
 aF P (.call {callee:=.builtin .clear,args:=#[x],argTypes:=#[t]}) ty ρ w R:=by
 obtain⟨inf,hi,hs,hby,hz⟩:=ti;have hlen:=hE.length;have hzl:=r.len _ _ _ hR;have hsplit:xs=xs.take l++((xs.drop l).take (h'-l)++xs.drop h'):=by
  have e1:(xs.drop l).take (h'-l)++xs.drop h'=xs.drop l:=by
   have:xs.drop h'=(xs.drop l).drop (h'-l):=by rw[qT];congr 1;omega
   rw[this,nj]
  rw[e1,nj]
 rw[hsplit]at hE;obtain⟨A,B0,rfl,hA,hB0⟩:=hE.split;obtain⟨B,D,rfl,hB,hD⟩:=hB0.split;have lA:=hA.length;have lB:=hB.length;have lD:=hD.length;have eA:A.length=l*r.sz:=by rw[lA,eQ,j1 (by omega)]
 have eB:B.length=(h'-l)*r.sz:=by rw[lB,eQ,vQ,j1 (by omega)]
 have hZ:=bS.replicate (r:=r) hR (h'-l);have lZ:=hZ.length;rw[kQ]at lZ;obtain⟨tt,lo,hhh,g1,g0,g2⟩:=hL.at i hO hC;have hin:l*r.sz+(List.replicate (h'-l) zc).flatten.length<=([]++((A++(B++D))++sp)).length:=by
  simp only[jf,dd];omega
 obtain⟨w',r1,r2,r3,r4,r5,r6,r7⟩:=zO (P:=P) (List.replicate (h'-l) zc).flatten 0 (l*r.sz) _ w g1 g2 (by simpa using hin) (Ds hZ.fb);have hput:putAt ([]++((A++(B++D))++sp)) (l*r.sz+0) (List.replicate (h'-l) zc).flatten=[]++((A++((List.replicate (h'-l) zc).flatten++D))++sp):=by
  rw[jf,jf,je,pO,<-eA,DX _ _ _ (by rw[lZ];simp[eB]),lZ,je B D sp,<-eB,MW];simp[je]
 rw[hput]at r2;have hp:=hL.put (w':=w') i hO (c':=.cells ([]++((A++((List.replicate (h'-l) zc).flatten++D))++sp))) ⟨tt,lo,hhh,r2,g0,fun j hj=>g2 j (by
  have:([]++((A++((List.replicate (h'-l) zc).flatten++D))++sp)).length=([]++((A++(B++D))++sp)).length:=by simp only[jf,dd];omega
  rw[<-this];exact hj)⟩ r3 r4 r5 r6 r7
 have hzv:∀w:World,(zeroValue el).run P w=.ok z w:=fun w=>by simp[zeroValue,typeInfo,hi,hz]
 obtain⟨m,hm⟩:∃m,h'-l=m+1:=⟨h'-l-1,by omega⟩;have hr:∀ty,(Builtin.clear_ #[t] ty #[.slice (some ⟨b,l*r.sz,none⟩) (h'-l) cap]).run P w=.ok (.tuple #[]) w':=by
  intro ty;rw[hm];simp[Builtin.clear_,run_underlying hu,hzv,hzc];have:=JR zc (m+1);rw[hm]at r1;rw[<-this]at r1;simp[r1]
 simp only[aF,cZ,execOp,resolve,invoke,builtin];simp[hx,hr,upon];refine h w' _ hp.1 hp.2 ?_ ?_
 . have:=hA.append (hZ.append hD);simpa[qA]using this
 . simp only[dd];omega
end
end Go.X
namespace Go.Q
open Go Go.RowKit Go.X
section
variable [eW] {P:Program} {tb:List (dF P)} {L:SS} {o:Oper} {K:Ef->Option Sv->Prop} {res β:Type} {t el:TypeId} {T E:dF P} {x:Operand}
theorem segf{α β:Type}{xs:List α}{lo h':Int}{f:Unit->Option β}{res:β}(h:(nt xs lo h').bind f=some res):lo<h'/\h'<=xs.length:=by
 obtain⟨u,q1,-⟩:=bind_some h;obtain⟨m,n,rfl,rfl,q5,q6⟩:=LV q1;exact⟨by omega,by omega⟩
theorem clG{α:Type}{rp:bQ α}[aO rp]{κ:Bool}{xs:List α}{lo h':Int}{sz j:Nat}(z:α)(hlt:lo<h'/\h'<=xs.length)(nx:K ⟨0,[(j,some (.row rp κ (qA xs lo h' z)))],[]⟩ none)
 (ho:o.op=.call {callee:=.builtin .clear,args:=#[x],argTypes:=#[t]}:=by rfl) (hx:bN L x=some (.s (.lf (.sg j sz lo h'))):=by rfl) (hj:aQ L.bC j=some (.row rp κ xs):=by rfl) (hT:cE tb t=some T:=by rfl) (hd:T.d=.slice el:=by rfl) (hE:cE tb el=some E:=by rfl) (hz:E.sz=rp.sz:=by rfl) (hs:rp.sz=sz:=by rfl)
 (h1:fb E.z.cells.toList=true:=by rfl) (hw:pB (E.z.cells.toList.map .v) (aO.cl rp κ z)=some (aO.cl rp κ z):=by rfl):bZ tb o L K:=by
 refine bZ.of (LT.md hj fun ν H e w b c n0 k0 hv ht hO hS p1 p2 p3=>?_) nx;rw[ho];have hv':cS ν H (aO.cl rp κ z) E.z.cells.toList:=sP (ν:=ν) ht hw (qu h1);obtain⟨e1,g7,cs,sp,rfl,g5,g6⟩:=p3;obtain⟨b',c',m,k,cp,m1,m2,m3,m4,m5⟩:(Lf.sg j sz lo h').R ν H (ev e x):=db hS hx;rw[p1]at m1;cases m1;subst hs m2 m3;have hmk:m<k:=by omega
 have hk:k<=xs.length:=by omega
 refine aF.Qg (H:=H κ) (zc:=E.z.cells.toList) (gm hT hd) (iP hE hz) (by simp) (aO.co hv') m5 hmk hk (jr p2) 0 rfl rfl g5 ?_;intro w' cs' hL' hst hE' hlen;refine⟨_,hL',fun H' hH=>⟨by rw[e1,Hw m4 hk],g7,cs',sp,rfl,hE'.mono (hH κ),by rw[dd]at g6⊢;rw[hlen];exact g6⟩⟩
theorem mvs{α:Type}(t j:Nat){rp:bQ α}{κ:Bool}{xs:List α}(ht:aQ L.bP t=some (.s (.lf (.own j))):=by rfl)(hj:aQ L.bC j=some (.row rp κ xs):=by rfl):
 Vw L ⟨1,[(L.nx,some (.row rp κ xs)),(j,none)],[(t,some (.s (.lf (.own L.nx))))]⟩:=by
 refine⟨fun X w0 H0 ν oF e w ho hn hS hs=>?_⟩;have hx:=hn L.nx (bK _) (by show L.nx<L.nx+1;omega);obtain⟨b,c,n,k,p1,p2,p3⟩:=hS.cT j _ (ho j _ hj);obtain⟨g1,g2⟩:=hS.dp (ob:=.row rp κ xs) (c':=c) (n':=n) rfl (ho j _ hj) p1 hx (jr p2) (fun H' hH=>by
  obtain⟨e1,e0,cs,sp,e2,e3,e4⟩:=p3;exact⟨e1,e0,cs,sp,e2,e3.mono (hH κ),e4⟩)
 refine⟨_,oS,g1,fun κ'=>g2 κ',?_⟩;intro t' sv h;simp only[aQ]at h;cases hb:Nat.beq t' t with
 |false=>rw[hb]at h;cases h
 |true=>
  rw[hb]at h;cases h;obtain rfl:=dI hb;obtain⟨b',c',n',m1,m2⟩:(Lf.own j).R ν (HF X w0 H0 ν oF w) (e t'):=hs _ _ ht;rw[p1]at m1;cases m1;exact⟨b,c,n,lh,m2⟩
end
open Go Go.RowKit Go.X
section
variable [eW] {P:Program} {tb:List (dF P)} {L:SS} {o:Oper} {K:Ef->Option Sv->Prop} {res β:Type} {r0:β} {t tn el:TypeId} {T TN E:dF P} {x y:Operand}
theorem capN(nx:K .z (eE (.int .i64 0)))(ho:o.op=.call {callee:=.builtin .cap,args:=#[x],argTypes:=#[t]}:=by rfl) (hx:bN L x=some (.s (.lf (.v (.slice none 0 0)))):=by rfl) (hT:cE tb t=some T:=by rfl) (hd:T.d=.slice el:=by rfl):bZ tb o L K:=by
 refine bZ.of (LT.look fun ν H e w hv ht hO hS=>?_) nx;rw[ho];have hx':=(eJ hS (show lv (bN L x)=some (.slice none 0 0) by rw[hx];rfl)).1;simp only[aF,cZ,execOp,resolve,invoke,builtin];simp[hx',Builtin.cap_,run_underlying (gm hT hd),upon];exact⟨rfl,rfl⟩
theorem slN{q:IntKind}(nx:K .z (eE (.slice none 0 0)))(ho:o.op=.slice t x none (some y) none:=by rfl)(hx:bN L x=some (.s (.lf (.v (.slice none 0 0)))):=by rfl)(hy:lv (bN L y)=some (.int q 0):=by rfl)(hT:cE tb t=some T:=by rfl)(hd:T.d=.slice el:=by rfl)(hE:cE tb el=some E:=by rfl):bZ tb o L K:=by
 refine bZ.of (LT.look fun ν H e w hv ht hO hS=>?_) nx;rw[ho];have hx':=(eJ hS (show lv (bN L x)=some (.slice none 0 0) by rw[hx];rfl)).1;have hy':=(eJ hS hy).1;obtain⟨inf,hi,hs,hby,hz⟩:=fV hE;have hr:=yW (P:=P) (w:=w) (gm hT hd) hi none 0 0 0 0 none (some (.int q 0)) (.inl ⟨rfl,rfl⟩) (.inr ⟨q,rfl⟩) (bK _) (bK _);simp only[aF,cZ,execOp];simp[hx',hy',hr,upon];exact⟨rfl,rfl⟩
theorem apZ{α:Type}{rp:bQ α}[aO rp]{z:α}{n:Int}{q kn:IntKind}{bs:Nat}{f:List α->Option β}(h:(cM bs [] (List.replicate n.toNat z)).bind f=some r0)(h0:n>0)
    (nx:∀Y,f Y=some r0->K ⟨1,[(L.nx,some (.row rp true Y))],[]⟩ (some (.s (.lf (.own L.nx)))))
    (ho:o.op=.call {callee:=.builtin .append,args:=#[x,y],argTypes:=#[t,tn]}:=by rfl) (hx:bN L x=some (.s (.lf (.v (.slice none 0 0)))):=by rfl) (hy:lv (bN L y)=some (.int q n):=by rfl) (hT:cE tb t=some T:=by rfl) (hd:T.d=.slice el:=by rfl) (hE:cE tb el=some E:=by rfl) (hTN:cE tb tn=some TN:=by rfl) (hdn:TN.d=.int kn:=by rfl) (hz:E.sz=rp.sz:=by rfl) (hb:E.pY=bs:=by rfl)
    (h1:fb E.z.cells.toList=true:=by rfl) (hw:pB (E.z.cells.toList.map .v) (aO.cl rp true z)=some (aO.cl rp true z):=by rfl) (hr:(rp.sz==0)=false:=by rfl):bZ tb o L K:=by
  obtain⟨Y,q1,q2⟩:=bind_some h;obtain⟨q3,q4,q5⟩:=zr q1;refine bZ.of (LT.nw fun ν H e w hv ht hO hS=>?_) (nx Y q2);rw[ho];subst hb;have hv':cS ν H (aO.cl rp true z) E.z.cells.toList:=sP (ν:=ν) ht hw (qu h1);have hx':=(eJ hS (show lv (bN L x)=some (.slice none 0 0) by rw[hx];rfl)).1;have hy':=(eJ hS hy).1;obtain⟨inf,hi,hs,hby,hzz⟩:=iP hE hz;obtain⟨m,rfl⟩:∃m:Nat,n=(m:Int):=⟨n.toNat,by omega⟩;simp only[mn,kQ,dM,eK]at q3 q4 q5;have hm:0<m:=by omega
  have hzl:=rp.len _ _ _ (aO.co hv');have hsz:0<inf.size:=by
    rw[hs];have:¬rp.sz=0:=by simpa using hr
    omega
  have hrun:=fun ty=>Lib.run_append_nil_zeros (P:=P) w t tn ty el inf E.z q kn (gm hT hd) (gm hTN hdn) hi hzz m hm hsz (by omega) (by rw[hby];omega);have hge:=grownCap_ge w m 0 el;have hEL:=Ext.drawn w (w.drawn+1);have hL1:Go.X.Loc [] [] w w.drew [] []:=(nI (w:=w)).ext hEL;have hfl:∀k,(Builtin.zeroCells E.z.cells k).toList=(List.replicate k E.z.cells.toList).flatten:=fun k=>by
    have:=JR E.z.cells.toList k;simpa using this
  have hal:=hL1.alloc (o:=.cells (Builtin.zeroCells E.z.cells m++Builtin.zeroCells E.z.cells (grownCap w m 0 el-m)) el) (c:=.cells ([]++((Builtin.zeroCells E.z.cells m).toList++(Builtin.zeroCells E.z.cells (grownCap w m 0 el-m)).toList)))
    (by have:=oe w.drew (Builtin.zeroCells E.z.cells m++Builtin.zeroCells E.z.cells (grownCap w m 0 el-m)) el
        simpa using this)
  have hEls:bS rp (H true) (Builtin.zeroCells E.z.cells m).toList Y:=by rw[hfl,q5];exact bS.replicate (aO.co hv') m
  have hgo:(execOp (ev e) (cZ (.call {callee:=.builtin .append,args:=#[x,y],argTypes:=#[t,tn]}) o.type)).run P w=.ok (.value (.slice (some ⟨w.heap.size,0,none⟩) m (grownCap w m 0 el))) (w.drew.alloc (.cells (Builtin.zeroCells E.z.cells m++Builtin.zeroCells E.z.cells (grownCap w m 0 el-m)) el)):=by
    simp only[cZ,execOp,resolve,invoke,builtin];simp[hx',hy',hrun]
  unfold aF;rw[hgo];refine⟨some w.heap.size,grownCap w m 0 el,Y.length,_,hal.1,fun ν' H' hν hH=>⟨rfl,hr,_,_,rfl,hEls.mono (hH true),?_⟩,fun ν' H' hν hH hn=>⟨some w.heap.size,grownCap w m 0 el,Y.length,hn,by rw[q5];simp[fk]⟩⟩;rw[hfl,hfl];simp only[dd,List.length_flatten,List.map_replicate,List.sum_replicate_nat,hzl,<-gL];congr 1;omega
end
end Go.Q

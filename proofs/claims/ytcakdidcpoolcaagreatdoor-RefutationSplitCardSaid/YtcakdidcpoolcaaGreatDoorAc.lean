/- Plain theorems and definitions of this seat, several texts in one. -/
import Derived.Test.YtcakdidcpoolcaaGreatDoorAb
set_option linter.unusedVariables false
set_option linter.unusedSimpArgs false
set_option linter.unusedSectionVars false
namespace Go.Q
open Go Go.RowKit Go.X
section
variable {P:Program} {tb:List (TyE P)} {L:SS} {o:Oper} {K:Ef→Option Sv→Prop} {β:Type} {res:β} {t u el:TypeId} {x y a c:Operand} {T E:TyE P} {α:Type}
theorem loc2{w:World}{b b':Option Nat}{k k':Cont}(h:OwnC w b k)(h':OwnC w b' k')(hd:∀q,b=some q→b'≠some q):Go.X.Loc [b,b'] [] w w [b,b'] [k,k']:=by
 refine Loc.begin ⟨h,h',trivial⟩ ?_
 cases b with
 |none=>cases b' with
  |none=>exact trivial
  |some q=>exact⟨by simp,trivial⟩
 |some q=>
  refine⟨fun hm=>hd q rfl (List.mem_singleton.1 hm).symm,?_⟩
  cases b' with
  |none=>exact trivial
  |some q=>exact⟨by simp,trivial⟩
theorem apX{rp:Rep α}{κ κs:Bool}{xs ys:List α}{bs:Nat}{f:List α→Option β}{j:Nat}{l:Lf}(h:(apnd bs xs ys).bind f=some res)
 (nx:∀Y,apnd bs xs ys=some Y→f Y=some res→K ⟨2,[(L.nx,some (.row rp κ Y)),(L.nx+1,some (.hd (L.nx+1) j L.nx rp κ xs)),(j,none)],[]⟩ (some (.s (.lf (.own L.nx)))))
 (ho:o.op=.call {callee:=.builtin .append,args:=#[a,c],argTypes:=#[t,t]}:=by rfl) (ha:opd L a=some (.s (.lf (.own j))):=by rfl) (hj:aget L.objs j=some (.row rp κ xs):=by rfl) (hc:opd L c=some (.s (.lf l)):=by rfl)
 (hs:SrcP L rp κs ys l:=by first|exact .ro|exact .own rfl) (hT:tyf tb t=some T:=by rfl) (hd:T.d=.slice el:=by rfl) (hE:tyf tb el=some E:=by rfl) (hz:E.sz=rp.sz:=by rfl) (hb:E.bts=bs:=by rfl) (hq:Nat.beq E.z.cells.size rp.sz=true:=by rfl) (hpos:Nat.blt 0 ys.length=true:=by rfl)
 (hks:rowK κs κ=true∨Free rp:=by first|exact .inl rfl|exact .inr fun _ _ _ _ h=>h):OpN tb o L K:=by
 obtain⟨Y,q1,q2⟩:=bind_some h
 obtain⟨q3,q4,q5⟩:=apnd_some q1
 refine OpN.of ⟨fun X w0 H0 ν oF e w hO hn hS hs'=>?_⟩ (nx Y q1 q2)
 rw[ho]
 have hx0:=hn L.nx (Nat.le_refl _) (by show L.nx<L.nx+2;omega)
 have hx1:=hn (L.nx+1) (by omega) (by show L.nx+1<L.nx+2;omega)
 obtain⟨ob,cp,n,k0,p1,p2,p3⟩:=hS.obs j _ (hO j _ hj)
 obtain⟨e1,g7,cs,sp,rfl,g5,g6⟩:=p3
 obtain⟨b',c',n',m1,m2⟩:(Lf.own j).R ν (HF X w0 H0 ν oF w) (ev e a):=opd_ok hs' ha
 rw[p1]at m1;cases m1
 obtain⟨ds,d1,d2⟩:=srcP_ok hS.view hS.tf (fun i ob hi=>hS.obs i ob (hO i ob hi)) hs hks (opd_ok hs' hc)
 have hpos':0<ys.length:=by rw[Nat.blt_eq]at hpos;exact hpos
 have hj0:j≠L.nx:=by rintro rfl;rw[p1]at hx0;cases hx0
 have hj1:j≠L.nx+1:=by rintro rfl;rw[p1]at hx1;cases hx1
 have hup:∀(ν1:Nu) (y1 y2:Option Nat×Nat×Nat),NuLe ν (updN (updN ν L.nx y1) (L.nx+1) y2):=fun ν1 y1 y2 i z hi=>by
  have h0:i≠L.nx:=by rintro rfl;rw[hx0]at hi;cases hi
  have h1:i≠L.nx+1:=by rintro rfl;rw[hx1]at hi;cases hi
  rw[updN_other h1,updN_other h0];exact hi
 have hn0:∀(y1 y2:Option Nat×Nat×Nat),(updN (updN ν L.nx y1) (L.nx+1) y2) L.nx=some y1:=fun y1 y2=>by rw[updN_other (by omega),updN_same]
 have hF:∀(o1 o2:Ob) (i:Nat) (ob:Ob),apF [(L.nx,some o1),(L.nx+1,some o2),(j,none)] oF i=some ob→(oF i=some ob∧i∉[j])∨(i,ob)=(L.nx,o1)∨(i,ob)=(L.nx+1,o2):=by
  intro o1 o2 i ob h
  rcases apF_some h with h|⟨h,h2⟩
  · simp only[List.mem_cons,Prod.mk.injEq,Option.some.injEq,List.not_mem_nil,or_false,reduceCtorEq,and_false]at h
    rcases h with⟨rfl,rfl⟩|⟨rfl,rfl⟩
    · exact .inr (.inl rfl)
    · exact .inr (.inr rfl)
  · refine .inl ⟨h,fun hm=>?_⟩
    simp only[List.mem_singleton]at hm;subst hm;simp[memN]at h2
 have hNx:∀(y1 y2:Option Nat×Nat×Nat),NuX L.nx 2 ν (updN (updN ν L.nx y1) (L.nx+1) y2):=fun y1 y2 k hk=>by rw[updN_other (by omega),updN_other (by omega)]
 by_cases hr:n+ys.length≤cp
 · refine OpY.apRoom (r:=rp) (H:=HF X w0 H0 ν oF w κ) (i:=0) (tyf_und' hT hd) (tyf_ti' hE hz) g7 m2 rfl (loc1 p2) rfl rfl g5 e1 g6 d1 d2 hpos' hr q5 ?_
   intro sp' ds' w' hE' hcap hL' hst
   have hL2:Go.X.Loc [ob] [] w w' [none,ob] [.cells [],.cells ([]++(ds'++sp'))]:=(hL'.addNil).1
   obtain⟨g1,g2⟩:=hS.go (T:=[j]) (O:=[ob]) (new:=[(L.nx+1,.hd (L.nx+1) j L.nx rp κ xs),(L.nx,.row rp κ Y)]) (ν':=updN (updN ν L.nx (ob,cp,Y.length)) (L.nx+1) (none,0,0)) (oF':=apF [(L.nx,some (.row rp κ Y)),(L.nx+1,some (.hd (L.nx+1) j L.nx rp κ xs)),(j,none)] oF)
    (fun q hq=>by simp only[List.mem_singleton]at hq;exact⟨j,by simp,_,hO j _ hj,by rw[blk_of p1,hq]⟩) hL2 (hup ν _ _) (by show[blk _ _,blk _ _]=_;rw[blk_of updN_same,blk_of (hn0 _ _)]) (by simp)
    (fun i o2 h=>by
     rcases hF _ _ i o2 h with h|h|h
     · exact .inl h
     · exact .inr (by rw[h];simp)
     · exact .inr (by rw[h];simp))
    (fun hle x hx=>by
     simp only[List.mem_cons,List.not_mem_nil,or_false]at hx
     rcases hx with rfl|rfl
     · exact⟨none,0,0,_,updN_same,hL2.own.1,ob,cp,by rw[←e1];exact hup ν _ _ _ _ p1,g7,.inr ⟨⟨_,updN_same⟩,Y.length,hn0 _ _⟩⟩
     · exact⟨ob,cp,Y.length,_,hn0 _ _,hL2.own.2.1,rfl,g7,ds',sp',rfl,hE'.mono (hle κ),hcap⟩)
    (fun x hx=>by simp only[List.mem_cons,List.not_mem_nil,or_false]at hx;rcases hx with rfl|rfl<;>rfl) ⟨rfl,rfl⟩
   exact⟨_,hNx _ _,g1,g2,sl0,ob,cp,Y.length,hn0 _ _,rfl⟩
 · subst hb
   refine OpY.apNew (r:=rp) (H:=HF X w0 H0 ν oF w κ) (i:=0) (tyf_und' hT hd) (tyf_ti' hE hz) (Nat.eq_of_beq_eq_true hq) g7 m2 rfl (loc1 p2) rfl rfl g5 e1 g6 d1 d2 hpos' hr q3 q4 q5 ?_
   intro b cap' sp' ds' w' hE' hcap hL' hst
   obtain⟨g1,g2⟩:=hS.go (T:=[j]) (O:=[ob]) (new:=[(L.nx,.row rp κ Y),(L.nx+1,.hd (L.nx+1) j L.nx rp κ xs)]) (ν':=updN (updN ν L.nx (some b,cap',Y.length)) (L.nx+1) (ob,cp,n)) (oF':=apF [(L.nx,some (.row rp κ Y)),(L.nx+1,some (.hd (L.nx+1) j L.nx rp κ xs)),(j,none)] oF)
    (fun q hq=>by simp only[List.mem_singleton]at hq;exact⟨j,by simp,_,hO j _ hj,by rw[blk_of p1,hq]⟩) hL' (hup ν _ _) (by show[blk _ _,blk _ _]=_;rw[blk_of (hn0 _ _),blk_of updN_same]) (by simp)
    (fun i o2 h=>by
     rcases hF _ _ i o2 h with h|h|h
     · exact .inl h
     · exact .inr (by rw[h];simp)
     · exact .inr (by rw[h];simp))
    (fun hle x hx=>by
     simp only[List.mem_cons,List.not_mem_nil,or_false]at hx
     rcases hx with rfl|rfl
     · exact⟨some b,cap',Y.length,_,hn0 _ _,hL'.own.1,rfl,g7,ds',sp',rfl,hE'.mono (hle κ),hcap⟩
     · exact⟨ob,cp,n,_,updN_same,hL'.own.2.1,ob,cp,by rw[←e1];exact hup ν _ _ _ _ p1,g7,.inl ⟨by rw[←e1];exact updN_same,cs,sp,rfl,g5.mono (hle κ),g6⟩⟩)
    (fun x hx=>by simp only[List.mem_cons,List.not_mem_nil,or_false]at hx;rcases hx with rfl|rfl<;>rfl) ⟨rfl,rfl⟩
   exact⟨_,hNx _ _,g1,g2,sl0,some b,cap',Y.length,hn0 _ _,rfl⟩
theorem shX(h j:Nat){i h' i' bs:Nat}{rp:Rep α}{κ:Bool}{xs ys Y:List α}(hX:apnd bs xs ys=some Y)(hh:aget L.objs h=some (.hd h' i i' rp κ xs):=by rfl)(hj:aget L.objs j=some (.row rp κ Y):=by rfl)(e1:h'=h:=by rfl)(e2:i'=j:=by rfl)(hne:Nat.beq h j=false:=by rfl):Vw L ⟨0,[(i,some (.row rp κ xs)),(j,none),(h,none)],[]⟩:=by
 subst e1;subst e2
 refine⟨fun X w0 H0 ν oF e w hO hn hS hs=>?_⟩
 obtain⟨_,_,q5⟩:=apnd_some hX
 obtain⟨bh,ch,nh,kh,r1,r2,b0,c0,r3,r4,r5⟩:=hS.obs h' _ (hO h' _ hh)
 obtain⟨bj,cj,nj,kj,s1,s2,s3,s4,cs,sp,s5,s6,s7⟩:=hS.obs i' _ (hO i' _ hj)
 have hhj:h'≠i':=fun h=>by rw[h,Nat.beq_refl]at hne;cases hne
 have hd:∀q,bh=some q→bj≠some q:=fun q hq hq'=>hhj (hS.dist h' i' _ _ q (hO h' _ hh) (hO i' _ hj) (.inl (by rw[blk_of r1,hq])) (.inl (by rw[blk_of s1,hq'])))
 have hL:=loc2 r2 s2 hd
 have main:∀(b:Option Nat) (k:Cont),Go.X.Loc [bh,bj] [] w w [b] [k]→b=b0→(∀H',(∀κ',Le (HF X w0 H0 ν oF w κ') (H' κ'))→(Ob.row rp κ xs).R ν H' c0 xs.length k)→∃ν',NuX L.nx 0 ν ν'∧StX X w0 H0 ν' (apF [(i,some (.row rp κ xs)),(i',none),(h',none)] oF) w∧(∀κ',Le (HF X w0 H0 ν oF w κ') (HF X w0 H0 ν' (apF [(i,some (.row rp κ xs)),(i',none),(h',none)] oF) w κ'))∧SlR ν' (HF X w0 H0 ν' (apF [(i,some (.row rp κ xs)),(i',none),(h',none)] oF) w) (aget []) e:=by
  intro b k hLb hb hR
  subst hb
  obtain⟨g1,g2⟩:=hS.go (T:=[i,h',i']) (O:=[bh,bj]) (new:=[(i,.row rp κ xs)]) (ν':=ν) (oF':=apF [(i,some (.row rp κ xs)),(i',none),(h',none)] oF)
   (fun q hq=>by
    rcases List.mem_cons.1 hq with g|g
    · exact⟨h',by simp,_,hO h' _ hh,by rw[blk_of r1,g]⟩
    · exact⟨i',by simp,_,hO i' _ hj,by rw[blk_of s1,List.mem_singleton.1 g]⟩) hLb (NuLe.refl ν) (by show[blk _ _]=_;rw[blk_of r3]) (by simp)
   (fun q ob h=>by
    rcases apF_some h with h|⟨h,h2⟩
    · simp only[List.mem_cons,Prod.mk.injEq,Option.some.injEq,List.not_mem_nil,or_false,reduceCtorEq,and_false]at h;obtain⟨rfl,rfl⟩:=h;exact .inr (by simp)
    · refine .inl ⟨h,fun hm=>?_⟩
      simp only[List.mem_cons,List.not_mem_nil,or_false]at hm
      rcases hm with rfl|rfl|rfl<;>simp[memN]at h2)
   (fun hle x hx=>by simp only[List.mem_singleton]at hx;subst hx;exact⟨b,c0,xs.length,k,r3,hLb.own.1,hR _ hle⟩) (fun x hx=>by simp only[List.mem_singleton]at hx;subst hx;rfl) ⟨rfl,rfl⟩
  exact⟨ν,NuX.refl,g1,g2,sl0⟩
 rcases r5 with⟨t1,cs0,sp0,t2,t3,t4⟩|⟨⟨c',t1⟩,n2,t2⟩
 · rw[r1]at t1;cases t1
   exact main bh kh (hL.drop 1).1 rfl fun H' hH=>⟨rfl,r4,cs0,sp0,t2,t3.mono (hH κ),t4⟩
 · rw[s1]at t2;cases t2
   refine main _ kj (hL.drop 0).1 rfl fun H' hH=>?_
   subst q5
   obtain⟨a1,a2,e3,e4⟩:=Els.shrink s6
   subst e3
   refine⟨rfl,r4,a1,a2++sp,by rw[s5,List.append_assoc],e4.mono (hH κ),?_⟩
   rw[←s7];simp[Nat.add_assoc]
theorem mvb(i off j:Nat){l:List Lf}{rp:Rep α}{κ:Bool}{xs:List α}(hi:aget L.objs i=some (.box l):=by rfl)(hj:aget L.objs j=some (.row rp κ xs):=by rfl)(hl:l[off]?=some (.own j):=by rfl)(hne:Nat.beq i L.nx=false:=by rfl)(hij:Nat.beq i j=false:=by rfl):
 Vw L ⟨1,[(i,some (.box (l.set off (.own L.nx)))),(L.nx,some (.row rp κ xs)),(j,none)],[]⟩:=by
 refine⟨fun X w0 H0 ν oF e w ho hn hS hs=>?_⟩
 have hx:=hn L.nx (Nat.le_refl _) (by show L.nx<L.nx+1;omega)
 obtain⟨b,c,n,k,p1,p2,p3⟩:=hS.obs j _ (ho j _ hj)
 obtain⟨g1,g2⟩:=hS.rep (ob:=.row rp κ xs) (c':=c) (n':=n) rfl (ho j _ hj) p1 hx (loc1 p2) (fun H' hH=>by
  obtain⟨e1,e0,cs,sp,e2,e3,e4⟩:=p3
  exact⟨e1,e0,cs,sp,e2,e3.mono (hH κ),e4⟩)
 have hoi:apF [(L.nx,some (Ob.row rp κ xs)),(j,none)] oF i=some (.box l):=by
  show(bif Nat.beq i L.nx then _ else bif Nat.beq i j then _ else oF i)=_
  rw[hne,hij];exact ho _ _ hi
 have hjn:j≠L.nx:=by rintro rfl;rw[p1]at hx;cases hx
 obtain⟨k1,k2⟩:=g1.review (up:=[(i,some (.box (l.set off (.own L.nx))))]) (fun q o hq=>by
  simp only[List.mem_singleton,Prod.mk.injEq]at hq
  obtain⟨rfl,rfl⟩:=hq
  refine⟨.box l,_,rfl,hoi,rfl,?_⟩
  rintro c' n' k' ⟨vs,q1,q2⟩
  obtain⟨y,q3,b',c2,n2,q4,q5⟩:=q2.get hl
  rw[updN_other hjn,p1]at q4;cases q4
  have:=q2.set (i:=off) (x:=.own L.nx) (y:=y) ⟨_,_,_,updN_same,q5⟩
  rw[set_self q3]at this
  exact⟨vs,q1,this⟩)
 refine⟨_,updN_x,k1,fun κ'=>?_,sl0⟩
 have:HF X w0 H0 (updN ν L.nx (b,c,n)) (apF [(i,some (Ob.box (l.set off (.own L.nx)))),(L.nx,some (.row rp κ xs)),(j,none)] oF) w=HF X w0 H0 (updN ν L.nx (b,c,n)) (apF [(L.nx,some (.row rp κ xs)),(j,none)] oF) w:=k2
 rw[this];exact g2 κ'
def numG:Nat→List (Option Ob)→List (Nat×Option Ob)
 |_,[]=>[]
 |i,x::r=>(i,x)::numG (i+1) r
def mkG(n:Nat)(obs:List (Option Ob))(slots:List (Nat×Option Sv)):SS:=⟨n,numG 0 obs,slots⟩
theorem alV(t:Nat){md:Option Bool}{is:List Nat}{nx:Nat}{b:Bool}{x y:S1}(hb:b=true)(ht:aget L.slots t=some (.s (shS md is nx (bif b then x else y))):=by rfl):Vw L ⟨0,[],[(t,some (.s (shS md is nx x)))]⟩:=by
 subst hb
 refine⟨fun X w0 H0 ν oF e w ho hn hS hs=>⟨ν,NuX.refl,hS,fun _=>Le.refl _,fun t' sv h=>?_⟩⟩
 have h:(bif Nat.beq t' t then some (Sv.s (shS md is nx x))else none)=some sv:=h
 cases hb:Nat.beq t' t with
 |false=>rw[hb]at h;cases h
 |true=>
  rw[hb]at h;cases h
  have:=Nat.eq_of_beq_eq_true hb;subst this
  exact hs _ _ ht
theorem nil3{rp:Rep α}{κ:Bool}{f:FuncId}{a0 a1 a3:S1}{b0 b1 b2:Ob}{out:List (Nat×Option Ob)}{rs:List S1}(hz:(rp.sz==0)=false)(c:Cx P f [a0,a1,.lf (.own 3),a3] [b0,b1,b2,.row rp κ []] out rs):Cx P f [a0,a1,.lf (.v (.slice none 0 0)),a3] [b0,b1,b2] out rs:=by
 refine⟨c.1,fun X w H ν l hν hS hl=>?_⟩
 have hx:ν 3=none:=hν 3 (Nat.le_refl _)
 obtain⟨g1,g2⟩:=hS.new (ob:=.row rp κ []) (c:=0) (n:=0) rfl hx locNil (fun H' _=>⟨rfl,hz,[],[],rfl,rfl,by simp⟩)
 have e:apF [(3,some (Ob.row rp κ []))] (aget (numO 0 [b0,b1,b2]))=aget (numO 0 [b0,b1,b2,.row rp κ []]):=by
  funext t
  match t with
  |0=>rfl
  |1=>rfl
  |2=>rfl
  |3=>rfl
  |t+4=>rfl
 rw[e]at g1 g2
 obtain⟨v0,_,rfl,h0,v1,_,rfl,h1,v2,_,rfl,h2,v3,_,rfl,h3,h4⟩:=hl
 have hle:NuLe ν (updN ν 3 (none,0,0)):=updN_le hx
 refine(c.2 X w H (updN ν 3 (none,0,0)) _ (fun k hk=>?_) g1 ⟨v0,_,rfl,h0.mono hle g2,v1,_,rfl,h1.mono hle g2,v2,_,rfl,⟨none,0,0,updN_same,h2.1⟩,v3,_,rfl,h3.mono hle g2,h4⟩).mono ?_
 · have hk:4≤k:=hk
   rw[updN_other (by omega)];exact hν k (by show 3≤k;omega)
 · rintro en w' ⟨vs,r1,ν',r2,r3,r4⟩
   refine⟨vs,r1,ν',fun k hk=>?_,r3,r4⟩
   have hk:k<3:=hk
   rw[r2 k (by show k<4;omega),updN_other (by omega)]
def ptrsO(L:SS):List Operand→Option (List Nat)
 |[]=>some []
 |x::r=>match opd L x with
  |some (.s (.lf (.ptr j 0)))=>match ptrsO L r with
   |some y=>some (j::y)
   |none=>none
  |_=>none
theorem ptrsO_ok{ν:Nu}{H:Bool→Hp}{e:Env}(hs:SlR ν H (aget L.slots) e):∀{xs:List Operand} {ps:List Nat},ptrsO L xs=some ps→PtsR ν ps (xs.map (ev e))
 |[],_,h=>by cases h;rfl
 |x::r,_,h=>by
  simp only[ptrsO]at h;split at h
  · rename_i j hx;split at h
    · rename_i y hy;cases h
      obtain⟨b,c,h1,h2⟩:(Lf.ptr j 0).R ν H (ev e x):=opd_ok hs hx
      exact⟨b,c,_,by rw[List.map_cons,h2],h1,ptrsO_ok hs hy⟩
    · cases h
  · cases h
theorem mkFc{fid:FuncId}{caps:List Operand}{ps:List Nat}(nx:K .z (some (.fc fid ps)))(ho:o.op=.makeFunc (.func fid) #[] caps.toArray:=by rfl) (hc:ptrsO L caps=some ps:=by rfl):OpN tb o L K:=by
 refine OpN.of (LT.look fun ν H e w hv ht hO hS=>?_) nx
 rw[ho]
 exact OpY.makeFunc rfl ⟨rfl,caps.map (ev e),rfl,ptrsO_ok hS hc⟩
inductive CapN (objs:OF):List Nat→List S1→Prop
 |n:CapN objs [] []
 |c {p:Nat} {ps:List Nat} {ls l:List Lf} {cs:List S1} (hp:objs p=some (.box ls)) (hl:lendLs none objs [] ls l=some l) (hv:l.all capS.okV=true) (h:CapN objs ps cs):CapN objs (p::ps) (.lf (.pd (ppPd false l))::cs)
theorem lendLs_up{o0 oF:OF}(ho:∀i ob,o0 i=some ob→oF i=some ob){a b l:List Lf}(h:lendLs none o0 [] a b=some l):lendLs none oF [] a b=some l:=by
 have h1:=lendS_up (md:=none) (is:=[]) ho (a:=[.agg a]) (b:=[.agg b]) (l:=[.agg l]) (by simp only[lendS,h])
 simp only[lendS]at h1
 split at h1
 · rename_i x hx;cases h1;exact hx
 · cases h1
theorem CapN.up{o0 oF:OF}(ho:∀i ob,o0 i=some ob→oF i=some ob){ps:List Nat}{cs:List S1}(h:CapN o0 ps cs):CapN oF ps cs:=by
 induction h with
 |n=>exact .n
 |c hp hl hv _ ih=>exact .c (ho _ _ hp) (lendLs_up ho hl) hv ih
theorem CapN.ok{X:Nat→Prop}{w0 w:World}{H0:Bool→Hp}{ν:Nu}{oF:OF}(hS:StX X w0 H0 ν oF w):∀{ps:List Nat} {cs:List S1} {vs:List Value},CapN oF ps cs→PtsR ν ps vs→
 S1sR nu0 (HF (Xc ν []) w (Hc none (HF X w0 H0 ν oF w) (Xc ν []) w) (nuM ν []) (fun _=>none) w) cs vs:=by
 intro ps cs vs h
 induction h generalizing vs with
 |n=>exact fun h=>h
 |c hp hl hv _ ih=>
  rintro⟨b,c,vs,h1,h2,h3⟩
  subst h1
  have hI:∀i∈([]:List Nat),∃ob,oF i=some ob:=fun i hi=>by cases hi
  obtain⟨b',c',n',k,q1,q2,us,q3,q4⟩:=hS.obs _ _ hp
  rw[h2]at q1;cases q1
  have he:=Hc_in (md:=none) (νc:=nuM ν []) (cF:=fun _=>none) hS hI
  have hr:=lendLs_ok hS hI he hl q4
  refine⟨_,vs,rfl,⟨b,0,us,rfl,?_,okV_R hv hr⟩,ih h3⟩
  subst q3
  exact own_at q2 fun o ho'=>he false b o (Hc_none.2 ⟨fun⟨i,hi,_⟩=>(by cases hi),ho'⟩)
theorem clC{ρ α0 ρ0:Type}{g:Option ρ}{gg:α0→Option ρ0}{az0:α0→List S1}{rs0:ρ0→List S1}{f:ρ→Option β}{fid fcl:FuncId}{x:Operand}{fo:Operand}{ats:Array TypeId}{ls az cs:List S1}{ps:List Nat}{rs:ρ→List S1}
 (h:g.bind f=some res)(c:∀r,g=some r→Cx P fid (az++[.lf (.pd (fnPd P az0 rs0 gg))]) [] [] (rs r))(cc:∀x r,gg x=some r→Cx P fcl (az0 x++cs) [] [] (rs0 r))(hf:Enters P fcl)
 (nx:∀r,f r=some res→K .z (some (packS ((rs r).map (shS none [] L.nx)))))
 (ho:o.op=.call {callee:=.value (.func fid),args:=#[x,fo],argTypes:=ats}:=by rfl) (hfo:opd L fo=some (.fc fcl ps):=by rfl) (hcap:CapN (aget L.objs) ps cs) (ha:opds L [x]=some ls:=by rfl) (hl:lendS none (aget L.objs) [] ls az=some az:=by rfl) (h2:∀r,(rs r).all (okS none 0)=true:=by intro r;rfl):OpN tb o L K:=by
 obtain⟨r,q1,q2⟩:=bind_some h
 refine OpN.of ⟨fun X w0 H0 ν oF e w ho' hν hS hs=>?_⟩ (nx r q2)
 rw[ho]
 have hI:∀i∈([]:List Nat),∃ob,oF i=some ob:=fun i hi=>by cases hi
 have hb:lendOs none oF [] [] []=some []:=rfl
 have hin:=hS.lend (md:=none) (is:=[]) rfl hb
 have e0:aget (numO 0 ([]:List Ob))=fun _=>none:=by funext t;rfl
 rw[e0]at hin
 have hargs:=lendS_ok (md:=none) (is:=[]) (νc:=nuM ν []) (cF:=fun _=>none) hS hI (Hc_in hS hI) (lendS_up ho' hl) (opds_ok hs ha)
 obtain⟨cv,e1,e2⟩:=opd_ok hs hfo
 have hcp:=(hcap.up ho').ok hS e2
 have hfv:S1sR (nuM ν []) (HF (Xc ν []) w (Hc none (HF X w0 H0 ν oF w) (Xc ν []) w) (nuM ν []) (fun _=>none) w) [.lf (.pd (fnPd P az0 rs0 gg))] [ev e fo]:=by
  refine⟨_,[],rfl,⟨fcl,cv,e1,hf,?_⟩,rfl⟩
  intro X1 w1 H' ν1 x r l hle hν1 hSt hf1 hl1
  have hin1:∀κ,Le (HF (Xc ν []) w (Hc none (HF X w0 H0 ν oF w) (Xc ν []) w) (nuM ν []) (fun _=>none) w κ) (HF X1 w1 H' ν1 (fun _=>none) w1 κ):=fun κ b o hb=>by
   have h1:=hle κ b o hb
   have h2:H' false b=some o:=by
    cases κ with
    |true=>exact hSt.h0 b o h1
    |false=>exact h1
   obtain⟨g1,g2,g3⟩:=hSt.h0w b o h2
   rw[HF_old g1 g3];exact h1
  have:=(cc x r hf1).2 X1 w1 H' ν1 (l++cv) (fun k _=>hν1 k) (by rw[e0];exact hSt) (by
   rw[e0];exact hl1.append (hcp.mono (fun i x h=>(by cases h)) hin1))
  exact this
 have hall:=hargs.append hfv
 have hcall:=(c r q1).2 (Xc ν []) w _ (nuM ν []) _ (fun k hk=>by rw[nuM_eq,List.getElem?_eq_none (by simp)];rfl) (by rw[e0];exact hin) (by rw[e0];exact hall)
 have hcall':Calls P fid ([x,fo].map (ev e)).toArray w (fun en w'=>∃vs,en=.returned (packV vs)∧EndR (Xc ν []) w (Hc none (HF X w0 H0 ν oF w) (Xc ν []) w) (nuM ν []) 0 [] (rs r) vs w'):=by
  exact hcall
 refine OpY.callg (args:=[x,fo]) (c r q1).1 rfl rfl hcall' ?_
 rintro en w' ⟨vs,rfl,ν',hp,hE,hr⟩
 exact⟨packV vs,rfl,call_back none [] 0 L.nx hS hI rfl rfl (h2 r) rfl hν (fun k hk=>absurd hk (Nat.not_lt_zero k)) hE hr⟩
end
end Go.Q

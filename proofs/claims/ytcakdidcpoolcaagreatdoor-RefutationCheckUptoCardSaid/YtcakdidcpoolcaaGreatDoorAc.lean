/- Plain theorems and definitions of this seat, several texts in one. -/
import Derived.Test.YtcakdidcpoolcaaGreatDoorAb
set_option linter.unusedVariables false
set_option linter.unusedSimpArgs false
set_option linter.unusedSectionVars false
namespace Go.Q
open Go Go.RowKit Go.X
structure DF {α β:Type}(D:DRep α)(f off:Nat)(rf:Rep β)(get:α→List β)(set:α→List β→α):Prop where
 lt:f<D.nf
 lo:off<D.r.sz
 at':∀vs bs cc x,D.R vs bs cc x→∃v b k,vs[off]?=some v∧bs[f]?=some b∧cc[f]?=some k∧DS rf v b k (get x)
 st:∀vs bs cc x v b k ys,D.R vs bs cc x→DS rf v b k ys→D.R (vs.set off v) (bs.set f b) (cc.set f k) (set x ys)
 gs:∀x,set x (get x)=x
 sz:(rf.sz==0)=false
 fr:Free rf
def tlU(ν:Nu)(t:Nat)(FB:List (Option Nat))(FC:List Cont):Nu:=⟨ν.f,fun k=>bif Nat.beq k t then FB else ν.tl k,fun k=>bif Nat.beq k t then FC else ν.tc k⟩
theorem tlU_tl{ν:Nu}{t:Nat}{FB:List (Option Nat)}{FC:List Cont}:(tlU ν t FB FC).tl t=FB∧(tlU ν t FB FC).tc t=FC:=by simp[tlU]
theorem tlU_ne{ν:Nu}{t k:Nat}{FB:List (Option Nat)}{FC:List Cont}(h:k≠t):(tlU ν t FB FC).tl k=ν.tl k∧(tlU ν t FB FC).tc k=ν.tc k:=by
 have:Nat.beq k t=false:=by
  cases hb:Nat.beq k t with
  |false=>rfl
  |true=>exact absurd (Nat.eq_of_beq_eq_true hb) h
 simp[tlU,this]
theorem dset{FB:List (Option Nat)}(h:Distinct FB)(j:Nat):Distinct (FB.set j none):=by
 induction FB generalizing j with
 |nil=>exact h
 |cons o r ih=>
  have hr:Distinct r:=by cases o with
   |none=>exact h
   |some b=>exact h.2
  cases j with
  |zero=>exact hr
  |succ j=>
   cases o with
   |none=>exact ih hr j
   |some b=>
    refine⟨fun hm=>h.1 ?_,ih hr j⟩;rcases List.mem_or_eq_of_mem_set hm with g|g
    · exact g
    · cases g
theorem dmem{FB:List (Option Nat)}{j b:Nat}(h:Distinct FB)(hj:FB[j]?=some (some b)):some b∉FB.set j none:=by
 induction FB generalizing j with
 |nil=>simp at hj
 |cons o r ih=>
  cases j with
  |zero=>
   simp only[List.getElem?_cons_zero,Option.some.injEq]at hj;subst hj;intro hm;rcases List.mem_cons.1 (show some b∈none::r from hm)with g|g
   · cases g
   · exact h.1 g
  |succ j=>
   simp only[List.getElem?_cons_succ]at hj;have hr:Distinct r:=by cases o with
    |none=>exact h
    |some b=>exact h.2
   intro hm;rcases List.mem_cons.1 (show some b∈o::r.set j none from hm)with g|g
   · subst g;exact h.1 (List.mem_of_getElem? hj)
   · exact ih hr hj g
theorem oset{w:World}:∀{FB:List (Option Nat)} {FC:List Cont} {j:Nat} {b:Option Nat} {k:Cont},Owns w FB FC→OwnC w b k→Owns w (FB.set j b) (FC.set j k)
 |[],[],_,_,_,h,_=>h
 |_::_,_::_,0,_,_,h,hk=>⟨hk,h.2⟩
 |_::_,_::_,j+1,_,_,h,hk=>⟨h.1,oset h.2 hk⟩
theorem dput{FB:List (Option Nat)}{j b:Nat}(h:Distinct FB)(hb:some b∉FB):Distinct (FB.set j (some b)):=by
 induction FB generalizing j with
 |nil=>exact h
 |cons o r ih=>
  have hr:Distinct r:=by cases o with
   |none=>exact h
   |some b=>exact h.2
  have hb':some b∉r:=fun hm=>hb (List.mem_cons_of_mem _ hm);cases j with
  |zero=>exact⟨hb',hr⟩
  |succ j=>
   cases o with
   |none=>exact ih hr hb'
   |some c=>
    refine⟨fun hm=>?_,ih hr hb'⟩;rcases List.mem_or_eq_of_mem_set hm with g|g
    · exact h.1 g
    · exact hb (by rw[g];exact List.mem_cons_self)
theorem dput'{FB:List (Option Nat)}{j:Nat}{b:Option Nat}(h:Distinct FB)(hb:∀c,b=some c→some c∉FB):Distinct (FB.set j b):=by
 cases b with
 |none=>exact dset h j
 |some b=>exact dput h (hb b rfl)
theorem mem_set'{α:Type}{l:List α}{j:Nat}{a x:α}(h:x∈l.set j a):x∈l∨x=a:=List.mem_or_eq_of_mem_set h
section
variable {P:Program} {tb:List (TyE P)} {L:SS} {o:Oper} {K:Ef→Option Sv→Prop} {β':Type} {res:β'} {t u el:TypeId} {x y a c:Operand} {T E:TyE P} {kk ki kj:IntKind}
section
variable {α:Type} {D:DRep α}
theorem deep_of{xs:List α}{hs:List (Nat×Nat×Nat×Nat)}{j:Nat}{X:Nat→Prop}{w0 w:World}{H0:Bool→Hp}{ν:Nu}{oF:OF}(hS:StX X w0 H0 ν oF w)(hj:oF j=some (.deep j D xs hs)):
 ∃b c cs sp FB FC,ν j=some (some b,c,xs.length)∧OwnC w (some b) (.cells ([]++(cs++sp)))∧(cs++sp).length=c*D.r.sz∧DEls D cs FB FC xs∧(ν.tl b).length=FB.length∧(ν.tc b).length=FC.length∧
  (∀j,memN j (hs.map (·.1))=false→(ν.tl b)[j]?=FB[j]?∧(ν.tc b)[j]?=FC[j]?)∧
  (∀h∈hs,(ν.tl b)[h.1]?=some none∧(ν.tc b)[h.1]?=some (.cells [])∧∃b c n,ν h.2.2.2=some (b,c,n)∧FB[h.1]?=some b∧cs[h.2.1*D.r.sz+h.2.2.1]?=some (osv b 0 n c))∧
  Owns w (ν.tl b) (ν.tc b)∧Distinct (ν.tl b)∧some b∉ν.tl b∧(D.r.sz==0)=false:=by
 obtain⟨b0,c,n,k,q1,q2,e1,e2,b,c',n',cs,sp,FB,FC,e3,e4,e5,e6,e7,e8,e9,e10⟩:=hS.obs j _ hj;rw[q1]at e3;cases e3;subst e4;subst e1;have ht:tdn ν j (.deep j D xs hs)=some b:=tdn_tid rfl (blk_of q1);obtain⟨p1,p2,_⟩:=hS.parts j _ hj;obtain⟨p3,p4⟩:=p1 b ht;exact⟨b,c,cs,sp,FB,FC,q1,q2,e5,e6,e7,e8,e9,e10,p3,p4,p2 b b (blk_of q1) ht,e2⟩
theorem mkD(D:DRep α){z:α}{i:Int}{bs:Nat}{f:List α→Option β'}(h:(mk1 bs z i).bind f=some res)
    (nx:∀Y,f Y=some res→K ⟨1,[(L.nx,some (.deep L.nx D Y []))],[]⟩ (some (.s (.lf (.own L.nx)))))
    (ho:o.op=.makeSlice t a c:=by rfl)(ha:lv (opd L a)=some (.int ki i):=by rfl)(hc:lv (opd L c)=some (.int kj i):=by rfl)(hT:tyf tb t=some T:=by rfl)(hd:T.d=.slice el:=by rfl)(hE:tyf tb el=some E:=by rfl)(hz:E.sz=D.r.sz:=by rfl)(hb:E.bts=bs:=by rfl)
    (h1:ones E.z.cells.toList=true:=by rfl)(hR:D.R E.z.cells.toList (List.replicate D.nf none) (List.replicate D.nf (.cells [])) z:=by exact⟨_,_,_,_,rfl,rfl,rfl,DS.nil,DS.nil⟩)(hr:(D.r.sz==0)=false:=by rfl):OpN tb o L K:=by
  obtain⟨Y,q1,q2⟩:=bind_some h;obtain⟨m,q3,q4,q5,q6⟩:=mk1_some q1;subst hb;refine OpN.of ⟨fun X w0 H0 ν oF e w hO hn hS hs=>?_⟩ (nx Y q2);rw[ho];have hx:=hn L.nx (Nat.le_refl _) (by show L.nx<L.nx+1;omega);refine OpY.mkDeep (D:=D) (zc:=E.z.cells.toList) (tyf_und' hT hd) (tyf_ti' hE hz) (by simp) h1 hR (lv_ok hs ha).1 (lv_ok hs hc).1 q3 q4 q5 q6 (loc0 (w:=w)) fun b w' cs FB FC hD hcs hL hSt=>?_;have hL:Go.X.Loc [] [] w w' (some b::FB) (.cells ([]++(cs++[]))::FC):=hL;have hbn:w.heap.size≤b:=by
    rcases hL.fresh b List.mem_cons_self with g|g
    · cases g
    · exact g
  have hνf:∀k,(tlU (updN ν L.nx (some b,m,Y.length)) b FB FC) k=updN ν L.nx (some b,m,Y.length) k:=fun _=>rfl;have hbk:blk (tlU (updN ν L.nx (some b,m,Y.length)) b FB FC) L.nx=some b:=blk_of (c:=(m,Y.length)) (by rw[hνf];exact updN_same);have htd:tdn (tlU (updN ν L.nx (some b,m,Y.length)) b FB FC) L.nx (.deep L.nx D Y [])=some b:=tdn_tid rfl hbk;obtain⟨g1,g2⟩:=hS.goT (T:=[]) (O:=[]) (new:=[(L.nx,.deep L.nx D Y [])]) (ν':=tlU (updN ν L.nx (some b,m,Y.length)) b FB FC) (oF':=apF [(L.nx,some (.deep L.nx D Y []))] oF) (fun b hb=>by cases hb) hL (fun k y hk=>updN_le hx k y hk)
    (fun x hx b' hb=>by
      simp only[List.mem_singleton]at hx;subst hx;rcases hb with hb|⟨t,ht,hb⟩
      · rw[hbk]at hb;cases hb;exact List.mem_cons_self
      · rw[htd]at ht;cases ht;rw[tlU_tl.1]at hb;exact List.mem_cons_of_mem _ hb)
    (fun x hx y hy b _ _=>by simp only[List.mem_singleton]at hx hy;rw[hx,hy])
    (fun i o h=>by
      rcases apF_some h with h|⟨h,_⟩
      · simp only[List.mem_singleton,Prod.mk.injEq,Option.some.injEq]at h;obtain⟨rfl,rfl⟩:=h;exact .inr (by simp)
      · exact .inl ⟨h,by simp⟩)
    (fun i ob t h1 _ ht=>by
      have hlt : t < w.heap.size := hS.ltO h1 (.inl (by unfold tdn at ht; split at ht; · exact ht
                                                        · cases ht))
      exact tlU_ne (ν:=updN ν L.nx (some b,m,Y.length)) (by omega))
    (fun x hx=>by
      simp only[List.mem_singleton]at hx;subst hx;refine⟨fun t ht=>?_,fun b' t hb ht=>?_,fun j hj=>?_⟩
      · rw[htd]at ht;cases ht;rw[tlU_tl.1,tlU_tl.2];exact⟨hL.own.2,hL.dist.2⟩
      · rw[htd]at ht;cases ht;rw[hbk]at hb;cases hb;rw[tlU_tl.1];exact hL.dist.1
      · cases hj;rfl)
    (fun hle x hx=>by
      simp only[List.mem_singleton]at hx;subst hx;exact⟨some b,m,Y.length,_,by rw[hνf];exact updN_same,hL.own.1,rfl,hr,b,m,Y.length,cs,[],FB,FC,by rw[hνf];exact updN_same,rfl,hcs,hD,by rw[tlU_tl.1],by rw[tlU_tl.2],fun j _=>by rw[tlU_tl.1,tlU_tl.2];exact⟨rfl,rfl⟩,fun h hh=>by cases hh⟩)
  exact⟨tlU (updN ν L.nx (some b,m,Y.length)) b FB FC,fun k hk=>(hνf k).trans (updN_other (by have:k<L.nx∨L.nx+1≤k:=hk;omega)),g1,g2,sl0,⟨some b,m,Y.length,by rw[hνf];exact updN_same,rfl⟩⟩
theorem ixD{xs:List α}{hs:List (Nat×Nat×Nat×Nat)}{i:Int}{f:α→Option β'}{j:Nat}(h:(idx xs i).bind f=some res)(nx:∀a,idx xs i=some a→f a=some res→K .z (some (.pw j D.r xs a i 0)))
 (ho:o.op=.indexAddr t x y:=by rfl)(hx:opd L x=some (.s (.lf (.own j))):=by rfl)(hj:aget L.objs j=some (.deep j D xs hs):=by rfl)(hy:lv (opd L y)=some (.int kk i):=by rfl)(hT:tyf tb t=some T:=by rfl)(hd:T.d=.slice el:=by rfl)(hE:tyf tb el=some E:=by rfl)(hz:E.sz=D.r.sz:=by rfl):OpN tb o L K:=by
 obtain⟨a,q1,q2⟩:=bind_some h;obtain⟨n,q3,q4⟩:=idx_some q1;refine OpN.of (ef:=.z) (sv:=some (.pw j D.r xs a i 0)) ⟨fun X w0 H0 ν oF e w hO hn hS hs=>?_⟩ (nx a q1 q2);rw[ho];obtain⟨b,c,cs,sp,FB,FC,g1,g2,g3,g4,_⟩:=deep_of hS (hO j _ hj);obtain⟨b',c',n',m1,m2⟩:(Lf.own j).R ν (HF X w0 H0 ν oF w) (ev e x):=opd_ok hs hx;rw[g1]at m1;cases m1;refine OpY.indexAddr (i:=n) (tyf_und' hT hd) (tyf_ti' hE hz) m2 (by rw[(lv_ok hs hy).1,q3]) (List.getElem?_eq_some_iff.1 q4).1 rfl ⟨ν,NuX.refl,hS,fun _=>Le.refl _,sl0,b,_,n,g1,q3,q4,?_⟩;rw[Nat.zero_add];rfl
theorem ldI{xs:List α}{hs:List (Nat×Nat×Nat×Nat)}{a:α}{i:Int}{j off:Nat}{v:Value}(nx:K .z (lvS v))(h1:one v=true:=by rfl)
 (ho:o.op=.load t x:=by rfl)(hx:opd L x=some (.pw j D.r xs a i off):=by rfl)(hj:aget L.objs j=some (.deep j D xs hs):=by rfl)(hT:tyf tb t=some T:=by rfl)(hg:aggD T.d=false:=by rfl)(hv:∀vs bs cc,D.R vs bs cc a→vs[off]?=some v):OpN tb o L K:=by
 refine OpN.of (ef:=.z) (sv:=some (.s (.lf (.v v)))) ⟨fun X w0 H0 ν oF e w hO hn hS hs=>?_⟩ nx;rw[ho];obtain⟨b,c,cs,sp,FB,FC,g1,g2,g3,g4,_⟩:=deep_of hS (hO j _ hj);obtain⟨b',c',n,m1,m2,m3,m4⟩:=opd_ok hs hx;rw[g1]at m1;cases m1;obtain⟨vs,bs,cc,d1,d2,_⟩:=g4.elem (sp:=sp) m3;rw[Nat.zero_add]at d2;have h3:=hv _ _ _ d1;have hp:=elem_part (us:=[v]) (q:=off) d2 (by
  rw[List.length_singleton];obtain⟨hlt,hv⟩:=List.getElem?_eq_some_iff.1 h3;rw[List.drop_eq_getElem_cons hlt,hv];rfl)
 exact OpY.ldElem1 (tyf_und hT) hg m4 g2 hp ⟨ν,NuX.refl,hS,fun _=>Le.refl _,sl0,rfl,h1⟩
theorem deep_md{xs Y:List α}{hs:List (Nat×Nat×Nat×Nat)}{j b:Nat}{k:Cont}{X:Nat→Prop}{w0 w w':World}{H0:Bool→Hp}{ν:Nu}{oF:OF}(hS:StX X w0 H0 ν oF w)(hj:oF j=some (.deep j D xs hs))(hb:blk ν j=some b)
 (hL:Go.X.Loc (some b::ν.tl b) [] w w' (some b::ν.tl b) (k::ν.tc b))(hR:∃c n,ν j=some (some b,c,n)∧∀H',(Ob.deep j D Y hs).R ν H' c n k):
 StX X w0 H0 ν (apF [(j,some (.deep j D Y hs))] oF) w'∧∀κ,Le (HF X w0 H0 ν oF w κ) (HF X w0 H0 ν (apF [(j,some (.deep j D Y hs))] oF) w' κ):=by
 have htd:∀Z,tdn ν j (.deep j D Z hs)=some b:=fun Z=>tdn_tid rfl hb;obtain⟨c,n,e1,e2⟩:=hR;refine hS.goT (T:=[j]) (O:=some b::ν.tl b) (new:=[(j,.deep j D Y hs)]) (fun q hq=>⟨j,by simp,_,hj,?_⟩) hL (NuLe.refl ν) (fun x hx q hq=>?_) (fun x hx y hy b _ _=>by simp only[List.mem_singleton]at hx hy;rw[hx,hy]) (fun i o h=>?_) (fun _ _ _ _ _ _=>⟨rfl,rfl⟩) (fun x hx=>?_) (fun hle x hx=>?_)
 · rcases List.mem_cons.1 hq with g|g
   · cases g;exact .inl hb
   · exact .inr ⟨b,htd xs,g⟩
 · simp only[List.mem_singleton]at hx;subst hx;rcases hq with hq|⟨t,ht,hq⟩
   · rw[hb]at hq;cases hq;exact List.mem_cons_self
   · rw[htd]at ht;cases ht;exact List.mem_cons_of_mem _ hq
 · rcases apF_some h with h|⟨h,h2⟩
   · simp only[List.mem_singleton,Prod.mk.injEq,Option.some.injEq]at h;obtain⟨rfl,rfl⟩:=h;exact .inr (by simp)
   · refine .inl ⟨h,fun hm=>?_⟩;simp only[List.mem_singleton]at hm;subst hm;simp[memN]at h2
 · simp only[List.mem_singleton]at hx;subst hx;obtain⟨p1,p2,p3⟩:=hS.parts j _ hj;refine⟨fun t ht=>?_,fun b' t hb' ht=>?_,fun q hq=>by cases hq;rfl⟩
   · rw[htd]at ht;cases ht;exact⟨hL.own.2,hL.dist.2⟩
   · exact p2 b' t hb' (by rw[htd]at ht⊢;exact ht)
 · simp only[List.mem_singleton]at hx;subst hx;exact⟨some b,c,n,k,e1,hL.own.1,e2 _⟩
theorem deep_loc{b:Nat}{k:Cont}{FB:List (Option Nat)}{FC:List Cont}{w:World}(h1:OwnC w (some b) k)(h2:Owns w FB FC)(h3:Distinct FB)(h4:some b∉FB):Go.X.Loc (some b::FB) [] w w (some b::FB) (k::FC):=Loc.begin ⟨h1,h2⟩ ⟨h4,h3⟩
theorem stI{xs xs0:List α}{a a0 a':α}{i:Int}{j off:Nat}{v:Value}{f:List α→Option β'}(ha:idx xs i=some a)(h:(upd1 xs i a').bind f=some res)(nx:∀Y,f Y=some res→K ⟨0,[(j,some (.deep j D Y []))],[]⟩ none)
 (ho:o.op=.store t x y:=by rfl)(hx:opd L x=some (.pw j D.r xs0 a0 i off):=by rfl)(hj:aget L.objs j=some (.deep j D xs []):=by rfl)(hy:lv (opd L y)=some v:=by rfl)(hT:tyf tb t=some T:=by rfl)(hz:T.sz=1:=by rfl)(hof:Nat.blt off D.r.sz=true:=by rfl)(hR:∀vs bs cc,D.R vs bs cc a→D.R (vs.set off v) bs cc a'):OpN tb o L K:=by
 obtain⟨Y,q1,q2⟩:=bind_some h;obtain⟨n,q3,q4,q5⟩:=upd1_some q1;refine OpN.of (ef:=⟨0,[(j,some (.deep j D Y []))],[]⟩) (sv:=none) ⟨fun X w0 H0 ν oF e w hO hn hS hs=>?_⟩ (nx Y q2);rw[ho];obtain⟨b,c,cs,sp,FB,FC,g1,g2,g3,g4,g5,g6,g7,g8,g9,g10,g11,g12⟩:=deep_of hS (hO j _ hj);obtain⟨b',c',n',m1,m2,m3,m4⟩:=opd_ok hs hx;rw[g1]at m1;cases m1;obtain rfl:n'=n:=Int.ofNat_inj.1 (m2.symm.trans q3);obtain⟨n2,r1,r2⟩:=idx_some ha;obtain rfl:n2=n':=Int.ofNat_inj.1 (r1.symm.trans q3);have hv:=lv_ok hs hy;refine OpY.stDeep (D:=D) (n:=n2) (off:=off) (sz:=T.sz) (b:=b) (q:=0+n2*D.r.sz+off) (tyf_ti hT) hz (by rw[m4,Nat.zero_add]) hv.1 (one_cells hv.2) hv.2 (deep_loc g2 g9 g10 g11) 0 rfl rfl g4 r2 rfl q5 (Nat.le_of_ble_eq_true hof) hR fun w' cs' hL hst hD hl=>?_;obtain⟨k1,k2⟩:=deep_md (Y:=Y) hS (hO j _ hj) (blk_of g1) hL ⟨c,xs.length,g1,fun H'=>⟨by rw[q5,List.length_set],g12,b,c,xs.length,cs',sp,FB,FC,g1,rfl,by rw[List.length_append]at g3⊢;rw[hl];exact g3,hD,g5,g6,g7,fun h hh=>by cases hh⟩⟩;exact⟨ν,NuX.refl,k1,k2,sl0,trivial⟩
theorem tkS{γ:Type}{rf:Rep γ}{get:α→List γ}{set:α→List γ→α}{fi:Nat}{xs:List α}{hs:List (Nat×Nat×Nat×Nat)}{a:α}{i:Int}(j:Nat){off:Nat}(F:DF D fi off rf get set)(ha:idx xs i=some a)(hj:aget L.objs j=some (.deep j D xs hs):=by rfl)(hm:memN (i.toNat*D.nf+fi) (hs.map (·.1))=false:=by rfl)(hne:Nat.beq j L.nx=false:=by rfl):Vw L ⟨1,[(L.nx,some (.row rf true (get a))),(j,some (.deep j D xs ((i.toNat*D.nf+fi,i.toNat,off,L.nx)::hs)))],[]⟩:=by
 refine⟨fun X w0 H0 ν oF e w hO hn hS hs'=>?_⟩;have hxn:=hn L.nx (Nat.le_refl _) (by show L.nx<L.nx+1;omega);obtain⟨b,c,cs,sp,FB,FC,g1,g2,g3,g4,g5,g6,g7,g8,g9,g10,g11,g12⟩:=deep_of hS (hO j _ hj);obtain⟨n,m2,m3⟩:=idx_some ha;have hin:i.toNat=n:=by omega
 obtain⟨vs,bs,cc,d1,d2,d3,d4⟩:=g4.elem (sp:=sp) m3;rw[Nat.zero_add]at d2;obtain⟨v,ob,k,f1,f2,f3,f4⟩:=F.at' _ _ _ _ d1;have f4':=f4;obtain⟨cap,cs1,sp1,f5,f6,f7,f8⟩:=f4;subst f5;subst f6;have hm':memN (n*D.nf+fi) (hs.map (·.1))=false:=by rw[←hin];exact hm
 obtain⟨t1,t2⟩:=g7 _ hm';have hFB:=d3 fi ob f2;have hFC:=d4 fi _ f3;have hcell:cs[n*D.r.sz+off]?=some (osv ob 0 (get a).length cap):=by
  obtain⟨cs1',vs',cs2,B1,bs',B2,C1,c1,C2,e1,e2,e3,e4,e5,e6,e7,_⟩:=g4.at m3;have hl:=D.len _ _ _ _ e7;have hl2:=D.len _ _ _ _ d1;have hvs:vs'=vs:=by
   rw[List.nil_append,e1,←e4,List.append_assoc,List.drop_left' rfl,List.append_assoc,hl2.1,←hl.1,List.take_left' rfl]at d2;exact d2
  rw[e1,←e4,List.getElem?_append_right (by omega),Nat.add_sub_cancel_left,List.getElem?_append_left (by rw[hl.1];exact F.lo),hvs];exact f1
 have hown:OwnC w ob (.cells ([]++(cs1++sp1))):=Owns.at g9 _ (t1.trans hFB) (t2.trans hFC);have hjn:j≠L.nx:=fun h=>by rw[h,Nat.beq_refl]at hne;cases hne
 have hνf:∀q,(tlU (updN ν L.nx (ob,cap,(get a).length)) b ((ν.tl b).set (n*D.nf+fi) none) ((ν.tc b).set (n*D.nf+fi) (.cells []))) q=updN ν L.nx (ob,cap,(get a).length) q:=fun _=>rfl;have hle:NuLe ν (tlU (updN ν L.nx (ob,cap,(get a).length)) b ((ν.tl b).set (n*D.nf+fi) none) ((ν.tc b).set (n*D.nf+fi) (.cells []))):=fun k y hk=>updN_le hxn k y hk;have hbj:blk (tlU (updN ν L.nx (ob,cap,(get a).length)) b ((ν.tl b).set (n*D.nf+fi) none) ((ν.tc b).set (n*D.nf+fi) (.cells []))) j=some b:=blk_of (hle _ _ g1);have hbn:blk (tlU (updN ν L.nx (ob,cap,(get a).length)) b ((ν.tl b).set (n*D.nf+fi) none) ((ν.tc b).set (n*D.nf+fi) (.cells []))) L.nx=ob:=blk_of (c:=(cap,(get a).length)) (by rw[hνf];exact updN_same);generalize hν':tlU (updN ν L.nx (ob,cap,(get a).length)) b ((ν.tl b).set (n*D.nf+fi) none) ((ν.tc b).set (n*D.nf+fi) (.cells []))=ν' at hνf hle hbj hbn;have htl:ν'.tl b=(ν.tl b).set (n*D.nf+fi) none∧ν'.tc b=(ν.tc b).set (n*D.nf+fi) (.cells []):=by rw[←hν'];exact tlU_tl
 have htn:∀q,q≠b→ν'.tl q=ν.tl q∧ν'.tc q=ν.tc q:=fun q hq=>by rw[←hν'];exact tlU_ne hq
 have htd:∀(ν0:Nu) Z hz,blk ν0 j=some b→tdn ν0 j (Ob.deep j D Z hz)=some b:=fun ν0 Z hz h=>tdn_tid rfl h;have hobm:∀q,ob=some q→some q∈ν.tl b:=fun q hq=>by rw[←hq];exact List.mem_of_getElem? (t1.trans hFB)
 have hL:Go.X.Loc (some b::ν.tl b) [] w w (some b::ob::(ν.tl b).set (n*D.nf+fi) none) (.cells ([]++(cs++sp))::.cells ([]++(cs1++sp1))::(ν.tc b).set (n*D.nf+fi) (.cells [])):=by
  refine⟨rfl,rfl,rfl,Nat.le_refl _,fun _ _ _=>rfl,⟨g2,hown,oset g9 rfl⟩,fun q hq=>.inl ?_,⟨fun hm=>?_,?_⟩,fun _ _ h=>(by cases h),fun _ h=>(by cases h)⟩
  · rcases List.mem_cons.1 hq with h|h
    · rw[h];exact List.mem_cons_self
    · rcases List.mem_cons.1 h with h|h
      · exact List.mem_cons_of_mem _ (hobm q h.symm)
      · rcases mem_set' h with h|h
        · exact List.mem_cons_of_mem _ h
        · cases h
  · rcases List.mem_cons.1 hm with h|h
    · exact g11 (hobm b h.symm)
    · rcases mem_set' h with h|h
      · exact g11 h
      · cases h
  · cases ob with
    |none=>exact dset g10 _
    |some q=>exact⟨dmem g10 (t1.trans hFB),dset g10 _⟩
 obtain⟨k1,k2⟩:=hS.goT (T:=[j]) (O:=some b::ν.tl b) (new:=[(L.nx,.row rf true (get a)),(j,.deep j D xs ((i.toNat*D.nf+fi,i.toNat,off,L.nx)::hs))]) (ν':=ν') (oF':=apF [(L.nx,some (.row rf true (get a))),(j,some (.deep j D xs ((i.toNat*D.nf+fi,i.toNat,off,L.nx)::hs)))] oF)
  (fun q hq=>⟨j,by simp,_,hO j _ hj,by
   rcases List.mem_cons.1 hq with g|g
   · cases g;exact .inl (blk_of g1)
   · exact .inr ⟨b,htd ν _ _ (blk_of g1),g⟩⟩) hL hle
  (fun x hx q hq=>by
   simp only[List.mem_cons,List.not_mem_nil,or_false]at hx;rcases hx with rfl|rfl
   · have hq:=(owb_of (ob:=.row rf true (get a)) rfl).1 hq;rw[hbn]at hq;rw[←hq];exact List.mem_cons_of_mem _ List.mem_cons_self
   · rcases hq with hq|⟨t,ht,hq⟩
     · rw[hbj]at hq;cases hq;exact List.mem_cons_self
     · rw[htd ν' _ _ hbj]at ht;cases ht;rw[htl.1]at hq;exact List.mem_cons_of_mem _ (List.mem_cons_of_mem _ hq))
  (fun x hx y hy q hxq hyq=>by
   have key:∀q,owb ν' L.nx (.row rf true (get a)) q→owb ν' j (.deep j D xs ((i.toNat*D.nf+fi,i.toNat,off,L.nx)::hs)) q→False:=by
    intro q h1 h2;have h1:=(owb_of (ob:=.row rf true (get a)) rfl).1 h1;rw[hbn]at h1;rcases h2 with h2|⟨t,ht,h2⟩
    · rw[hbj]at h2;cases h2;exact g11 (hobm b h1)
    · rw[htd ν' _ _ hbj]at ht;cases ht;rw[htl.1]at h2;subst h1;exact dmem g10 (t1.trans hFB) h2
   simp only[List.mem_cons,List.not_mem_nil,or_false]at hx hy;rcases hx with rfl|rfl<;>rcases hy with rfl|rfl
   · rfl
   · exact(key q hxq hyq).elim
   · exact(key q hyq hxq).elim
   · rfl)
  (fun q o h=>by
   rcases apF_some h with h|⟨h,h2⟩
   · simp only[List.mem_cons,Prod.mk.injEq,Option.some.injEq,List.not_mem_nil,or_false]at h;rcases h with⟨rfl,rfl⟩|⟨rfl,rfl⟩
     · exact .inr (by simp)
     · exact .inr (by simp)
   · refine .inl ⟨h,fun hm=>?_⟩;simp only[List.mem_singleton]at hm;subst hm;simp[memN]at h2)
  (fun q ob' t h1 h2 ht=>htn t fun e=>by
   subst e;have hb:blk ν q=some t:=by
    unfold tdn at ht;split at ht
    · exact ht
    · cases ht
   have:=hS.dist q j ob' _ t h1 (hO j _ hj) (.inl hb) (.inl (blk_of g1));subst this;simp at h2)
  (fun x hx=>by
   simp only[List.mem_cons,List.not_mem_nil,or_false]at hx;rcases hx with rfl|rfl
   · exact⟨fun t ht=>absurd ht (by rw[tdn_none rfl];simp),fun b t _ ht=>absurd ht (by rw[tdn_none rfl];simp),fun q hq=>by cases hq⟩
   · refine⟨fun t ht=>?_,fun b' t hb' ht=>?_,fun q hq=>by cases hq;rfl⟩
     · rw[htd ν' _ _ hbj]at ht;cases ht;rw[htl.1,htl.2];exact⟨oset g9 rfl,dset g10 _⟩
     · rw[htd ν' _ _ hbj]at ht;cases ht;rw[hbj]at hb';cases hb';rw[htl.1];intro hm;rcases mem_set' hm with h|h
       · exact g11 h
       · cases h)
  (fun hle' x hx=>by
   simp only[List.mem_cons,List.not_mem_nil,or_false]at hx;rcases hx with rfl|rfl
   · exact⟨ob,cap,(get a).length,_,by rw[hνf];exact updN_same,hown,rfl,F.sz,cs1,sp1,rfl,f8.mono Go.X.H0.le,f7⟩
   · refine⟨some b,c,xs.length,_,hle _ _ g1,g2,rfl,g12,b,c,xs.length,cs,sp,FB,FC,hle _ _ g1,rfl,g3,g4,by rw[htl.1,List.length_set];exact g5,by rw[htl.2,List.length_set];exact g6,fun q hq=>?_,fun h hh=>?_⟩
     · simp only[List.map_cons,memN,Bool.or_eq_false_iff]at hq;have hne':n*D.nf+fi≠q:=by
        rintro e;have h1:=hq.1;rw[hin,←e,Nat.beq_refl]at h1;cases h1
       rw[htl.1,htl.2,List.getElem?_set_ne hne',List.getElem?_set_ne hne'];exact g7 q hq.2
     · rcases List.mem_cons.1 hh with e|e
       · subst e;dsimp only;rw[htl.1,htl.2,hin];have l1:=(List.getElem?_eq_some_iff.1 (t1.trans hFB)).1;have l2:=(List.getElem?_eq_some_iff.1 (t2.trans hFC)).1;exact⟨by rw[List.getElem?_set_self l1],by rw[List.getElem?_set_self l2],ob,cap,(get a).length,by rw[hνf];exact updN_same,hFB,hcell⟩
       · obtain⟨q1,q2,b2,c2,n2,q3,q4,q5⟩:=g8 h e;have hne':n*D.nf+fi≠h.1:=by
          rintro e';have:=memN_iff.2 (List.mem_map.2 ⟨h,e,rfl⟩:h.1∈hs.map (·.1));rw[←e',hm']at this;cases this
         exact⟨by rw[htl.1,List.getElem?_set_ne hne'];exact q1,by rw[htl.2,List.getElem?_set_ne hne'];exact q2,b2,c2,n2,hle _ _ q3,q4,q5⟩)
 exact⟨ν',fun k hk=>(hνf k).trans (updN_other (by have:k<L.nx∨L.nx+1≤k:=hk;omega)),k1,k2,sl0⟩
theorem ldH(k:Nat){xs:List α}{hs:List (Nat×Nat×Nat×Nat)}{a:α}{i:Int}{j off q jj:Nat}(nx:K .z (some (.s (.lf (.own q)))))
 (ho:o.op=.load t x:=by rfl)(hx:opd L x=some (.pw j D.r xs a i off):=by rfl)(hj:aget L.objs j=some (.deep j D xs hs):=by rfl)(hh:hs[k]?=some (jj,i.toNat,off,q):=by rfl)(hT:tyf tb t=some T:=by rfl)(hg:aggD T.d=false:=by rfl):OpN tb o L K:=by
 refine OpN.of (ef:=.z) (sv:=some (.s (.lf (.own q)))) ⟨fun X w0 H0 ν oF e w hO hn hS hs'=>?_⟩ nx;rw[ho];obtain⟨b,c,cs,sp,FB,FC,g1,g2,g3,g4,g5,g6,g7,g8,_⟩:=deep_of hS (hO j _ hj);obtain⟨b',c',n,m1,m2,m3,m4⟩:=opd_ok hs' hx;rw[g1]at m1;cases m1;have hin:i.toNat=n:=by omega
 obtain⟨_,_,b2,c2,n2,q3,q4,q5⟩:=g8 _ (List.mem_of_getElem? hh);dsimp only at q3 q5;rw[hin]at q5;refine OpY.ldBox1 (tyf_und hT) hg m4 g2 (by rw[List.nil_append,List.getElem?_append_left (List.getElem?_eq_some_iff.1 q5).1];exact q5) ⟨ν,NuX.refl,hS,fun _=>Le.refl _,sl0,b2,c2,n2,q3,rfl⟩
theorem lnD{xs:List α}{hs:List (Nat×Nat×Nat×Nat)}{j:Nat}(nx:K .z (lvS (.int .i64 (List.length xs:Int))))(ho:o.op=.call {callee:=.builtin .len,args:=#[x],argTypes:=#[t]}:=by rfl) (hx:opd L x=some (.s (.lf (.own j))):=by rfl) (hj:aget L.objs j=some (.deep j D xs hs):=by rfl) (hT:tyf tb t=some T:=by rfl) (hd:T.d=.slice el:=by rfl):OpN tb o L K:=by
 refine OpN.of (ef:=.z) (sv:=some (.s (.lf (.v (.int .i64 (List.length xs:Int)))))) ⟨fun X w0 H0 ν oF e w hO hn hS hs'=>?_⟩ nx;rw[ho];obtain⟨b,c,cs,sp,FB,FC,g1,_⟩:=deep_of hS (hO j _ hj);obtain⟨b',c',n,m1,m2⟩:(Lf.own j).R ν (HF X w0 H0 ν oF w) (ev e x):=opd_ok hs' hx;rw[g1]at m1;cases m1;exact OpY.len_slice (a:=some ⟨b,0,none⟩) (tyf_und' hT hd) m2 ⟨ν,NuX.refl,hS,fun _=>Le.refl _,sl0,rfl,rfl⟩
theorem hole_ne{xs:List α}{a b:α}{i k:Int}{f:Nat}(ha:idx xs i=some a)(hb:idx xs k=some b)(hne:¬i=k):k.toNat≠i.toNat:=by
 obtain⟨n,h1,_⟩:=idx_some ha;obtain⟨m,h2,_⟩:=idx_some hb;omega
theorem hole2{xs:List α}{a b:α}{i k:Int}{f z:Nat}(hz:Nat.blt f z=true)(ha:idx xs i=some a)(hb:idx xs k=some b)(hne:¬i=k):k.toNat*z+f≠i.toNat*z+f:=by
 have h:=hole_ne (f:=f) ha hb hne;intro e;have:=Nat.eq_of_mul_eq_mul_right (Nat.lt_of_le_of_lt (Nat.zero_le f) (Nat.blt_eq▸hz)) (Nat.add_right_cancel e);exact h this
theorem memN1{x y:Nat}(h:x≠y):memN x [y]=false:=by
 cases hb:memN x [y]with
 |false=>rfl
 |true=>exact absurd (List.mem_singleton.1 (memN_iff.1 hb)) h
theorem tk2{γ:Type}{rf:Rep γ}{get:α→List γ}{set:α→List γ→α}{fi off q1:Nat}{xs:List α}{a b:α}{i k:Int}(F:DF D fi off rf get set)(ha:idx xs i=some a)(hb:idx xs k=some b)(hne:¬i=k):memN (k.toNat*D.nf+fi) (List.map (fun x:Nat×Nat×Nat×Nat=>x.1) [(i.toNat*D.nf+fi,i.toNat,off,q1)])=false:=
 memN1 (hole2 (by rw[Nat.blt_eq];exact F.lt) ha hb hne)
theorem two_sub{γ:Type}{rf:Rep γ}{get:α→List γ}{set:α→List γ→α}{fi off q1 q2:Nat}{xs:List α}{a b:α}{i k:Int}(F:DF D fi off rf get set)(ha:idx xs i=some a)(hb:idx xs k=some b)(hne:¬i=k):
 ∀h∈[(k.toNat*D.nf+fi,k.toNat,off,q2)],h∈[(k.toNat*D.nf+fi,k.toNat,off,q2),(i.toNat*D.nf+fi,i.toNat,off,q1)]∧h.1≠i.toNat*D.nf+fi∧h.2.1*D.r.sz+h.2.2.1≠i.toNat*D.r.sz+off:=by
 intro h hh;rw[List.mem_singleton.1 hh];exact⟨List.mem_cons_self,hole2 (by rw[Nat.blt_eq];exact F.lt) ha hb hne,hole2 (by rw[Nat.blt_eq];exact F.lo) ha hb hne⟩
theorem two_cov{fi off z q1 q2 m k:Nat}:∀h∈[(k*z+fi,k,off,q2),(m*z+fi,m,off,q1)],h∈[(k*z+fi,k,off,q2)]∨h.1=m*z+fi:=by
 intro h hh;rcases List.mem_cons.1 hh with e|e
 · exact .inl (by rw[e];exact List.mem_cons_self)
 · rw[List.mem_singleton.1 e];exact .inr rfl
theorem put_same{cs cs' sp:List Value}{pos:Nat}{v:Value}(e:putAt ([]++(cs++sp)) pos [v]=[]++(cs'++sp))(hl:cs'.length=cs.length){p:Nat}(hp:p≠pos)(hc:p<cs.length):cs'[p]?=cs[p]?:=by
 have h:(cs++sp).set pos v=cs'++sp:=e;have h2:((cs++sp).set pos v)[p]?=(cs'++sp)[p]?:=by rw[h]
 rw[List.getElem?_set_ne (by omega),List.getElem?_append_left hc,List.getElem?_append_left (by omega)]at h2;exact h2.symm
theorem deep_put{γ:Type}{rf:Rep γ}{κ:Bool}{ys:List γ}{xs Y:List α}{hs hs':List (Nat×Nat×Nat×Nat)}{j q b jj:Nat}{ob:Option Nat}{c cq nq:Nat}{cs' sp:List Value}{FB:List (Option Nat)}{FC:List Cont}{kq:Cont}{X:Nat→Prop}{w0 w w':World}{H0:Bool→Hp}{ν:Nu}{oF:OF}(hS:StX X w0 H0 ν oF w)(hj:oF j=some (.deep j D xs hs))(hq:oF q=some (.row rf κ ys))(hqj:q≠j)
 (g1:ν j=some (some b,c,xs.length))(g1q:ν q=some (ob,cq,nq))(hL:Go.X.Loc (some b::ob::ν.tl b) [] w w' (some b::ob::ν.tl b) (.cells ([]++(cs'++sp))::kq::ν.tc b))(hY:Y.length=xs.length)(hz:(D.r.sz==0)=false)(hc:(cs'++sp).length=c*D.r.sz)
 (hD:DEls D cs' (FB.set jj ob) (FC.set jj kq) Y)(h5:(ν.tl b).length=FB.length)(h6:(ν.tc b).length=FC.length)(hjj:jj<FB.length)(hjc:jj<FC.length)
 (h7:∀j',j'≠jj→memN j' (hs'.map (·.1))=false→(ν.tl b)[j']?=FB[j']?∧(ν.tc b)[j']?=FC[j']?)
 (h8:∀h∈hs',h.1≠jj∧(ν.tl b)[h.1]?=some none∧(ν.tc b)[h.1]?=some (.cells [])∧∃b c n,ν h.2.2.2=some (b,c,n)∧FB[h.1]?=some b∧cs'[h.2.1*D.r.sz+h.2.2.1]?=some (osv b 0 n c)):
 StX X w0 H0 (tlU ν b ((ν.tl b).set jj ob) ((ν.tc b).set jj kq)) (apF [(j,some (.deep j D Y hs')),(q,none)] oF) w'∧∀κ,Le (HF X w0 H0 ν oF w κ) (HF X w0 H0 (tlU ν b ((ν.tl b).set jj ob) ((ν.tc b).set jj kq)) (apF [(j,some (.deep j D Y hs')),(q,none)] oF) w' κ):=by
 have hνf:∀q,(tlU ν b ((ν.tl b).set jj ob) ((ν.tc b).set jj kq)) q=ν q:=fun _=>rfl;have hbj:blk (tlU ν b ((ν.tl b).set jj ob) ((ν.tc b).set jj kq)) j=some b:=blk_of g1;have htl:(tlU ν b ((ν.tl b).set jj ob) ((ν.tc b).set jj kq)).tl b=(ν.tl b).set jj ob∧(tlU ν b ((ν.tl b).set jj ob) ((ν.tc b).set jj kq)).tc b=(ν.tc b).set jj kq:=tlU_tl;have htn:∀t,t≠b→(tlU ν b ((ν.tl b).set jj ob) ((ν.tc b).set jj kq)).tl t=ν.tl t∧(tlU ν b ((ν.tl b).set jj ob) ((ν.tc b).set jj kq)).tc t=ν.tc t:=fun t ht=>tlU_ne ht;generalize tlU ν b ((ν.tl b).set jj ob) ((ν.tc b).set jj kq)=ν' at hνf hbj htl htn;have htd:∀(ν0:Nu) Z hz,blk ν0 j=some b→tdn ν0 j (Ob.deep j D Z hz)=some b:=fun ν0 Z hz h=>tdn_tid rfl h;have hdis:=hL.dist;have hob:∀r,ob=some r→some r∉ν.tl b:=fun r hr=>by
  subst hr;exact hdis.2.1
 have hdt:Distinct (ν.tl b):=by
  cases ob with
  |none=>exact hdis.2
  |some r=>exact hdis.2.2
 refine hS.goT (T:=[j,q]) (O:=some b::ob::ν.tl b) (O':=some b::(ν.tl b).set jj ob) (C':=.cells ([]++(cs'++sp))::(ν.tc b).set jj kq) (new:=[(j,.deep j D Y hs')]) (ν':=ν')
  (fun r hr=>?_) ⟨hL.os,hL.tape,hL.output,hL.size,hL.keep,⟨hL.own.1,oset hL.own.2.2 hL.own.2.1⟩,fun r hr=>hL.fresh r ?_,⟨fun hm=>?_,dput' hdt hob⟩,fun _ _ h=>(by cases h),fun _ h=>(by cases h)⟩ (fun k y hk=>(hνf k).trans hk)
  (fun x hx r hr=>?_) (fun x hx y hy b _ _=>by simp only[List.mem_singleton]at hx hy;rw[hx,hy]) (fun r o h=>?_) (fun r ob' t h1 h2 ht=>htn t fun e=>?_) (fun x hx=>?_) (fun hle x hx=>?_)
 · rcases List.mem_cons.1 hr with g|g
   · cases g;exact⟨j,by simp,_,hj,.inl (blk_of g1)⟩
   · rcases List.mem_cons.1 g with g|g
     · exact⟨q,by simp,_,hq,.inl (by rw[blk_of g1q,g])⟩
     · exact⟨j,by simp,_,hj,.inr ⟨b,htd ν _ _ (blk_of g1),g⟩⟩
 · rcases List.mem_cons.1 hr with h|h
   · rw[h];exact List.mem_cons_self
   · rcases mem_set' h with h|h
     · exact List.mem_cons_of_mem _ (List.mem_cons_of_mem _ h)
     · rw[h];exact List.mem_cons_of_mem _ List.mem_cons_self
 · rcases mem_set' hm with h|h
   · exact hdis.1 (List.mem_cons_of_mem _ h)
   · exact hdis.1 (by rw[h];exact List.mem_cons_self)
 · simp only[List.mem_singleton]at hx;subst hx;rcases hr with hr|⟨t,ht,hr⟩
   · rw[hbj]at hr;cases hr;exact List.mem_cons_self
   · rw[htd ν' _ _ hbj]at ht;cases ht;rw[htl.1]at hr;exact List.mem_cons_of_mem _ hr
 · rcases apF_some h with h|⟨h,h2⟩
   · simp only[List.mem_cons,Prod.mk.injEq,Option.some.injEq,List.not_mem_nil,or_false,reduceCtorEq,and_false]at h;obtain⟨rfl,rfl⟩:=h;exact .inr (by simp)
   · refine .inl ⟨h,fun hm=>?_⟩;simp only[List.mem_cons,List.not_mem_nil,or_false]at hm;rcases hm with rfl|rfl<;>simp[memN]at h2
 · subst e;have hb:blk ν r=some t:=by
    unfold tdn at ht;split at ht
    · exact ht
    · cases ht
   have:=hS.dist r j ob' _ t h1 hj (.inl hb) (.inl (blk_of g1));subst this;simp at h2
 · simp only[List.mem_singleton]at hx;subst hx;refine⟨fun t ht=>?_,fun b' t hb' ht=>?_,fun r hr=>by cases hr;rfl⟩
   · rw[htd ν' _ _ hbj]at ht;cases ht;rw[htl.1,htl.2];exact⟨oset hL.own.2.2 hL.own.2.1,dput' hdt hob⟩
   · rw[htd ν' _ _ hbj]at ht;cases ht;rw[hbj]at hb';cases hb';rw[htl.1];intro hm;rcases mem_set' hm with h|h
     · exact hdis.1 (List.mem_cons_of_mem _ h)
     · exact hdis.1 (by rw[h];exact List.mem_cons_self)
 · simp only[List.mem_singleton]at hx;subst hx;refine⟨some b,c,xs.length,_,(hνf j).trans g1,hL.own.1,hY.symm,hz,b,c,xs.length,cs',sp,_,_,(hνf j).trans g1,rfl,hc,hD,by rw[htl.1,List.length_set,List.length_set];exact h5,by rw[htl.2,List.length_set,List.length_set];exact h6,fun r hr=>?_,fun h hh=>?_⟩
   · rw[htl.1,htl.2];by_cases e:jj=r
     · subst e;rw[List.getElem?_set_self (by omega),List.getElem?_set_self (by omega),List.getElem?_set_self (by omega),List.getElem?_set_self (by omega)];exact⟨rfl,rfl⟩
     · rw[List.getElem?_set_ne e,List.getElem?_set_ne e,List.getElem?_set_ne e,List.getElem?_set_ne e];exact h7 r (fun h=>e h.symm) hr
   · obtain⟨q0,q1,q2,b2,c2,n2,q3,q4,q5⟩:=h8 h hh;have e:jj≠h.1:=fun e=>q0 e.symm;exact⟨by rw[htl.1,List.getElem?_set_ne e];exact q1,by rw[htl.2,List.getElem?_set_ne e];exact q2,b2,c2,n2,(hνf _).trans q3,by rw[List.getElem?_set_ne e];exact q4,q5⟩
theorem loc3{X:Nat→Prop}{w0 w:World}{H0:Bool→Hp}{ν:Nu}{oF:OF}(hS:StX X w0 H0 ν oF w){xs:List α}{hs:List (Nat×Nat×Nat×Nat)}{oq:Ob}{j q b:Nat}{ob:Option Nat}{k kq:Cont}{c:Nat×Nat}(hj:oF j=some (.deep j D xs hs))(hq:oF q=some oq)(hqj:q≠j)(hb:blk ν j=some b)(g1q:ν q=some (ob,c))
 (h1:OwnC w (some b) k)(h2:OwnC w ob kq)(h3:Owns w (ν.tl b) (ν.tc b))(h4:Distinct (ν.tl b))(h5:some b∉ν.tl b):Go.X.Loc (some b::ob::ν.tl b) [] w w (some b::ob::ν.tl b) (k::kq::ν.tc b):=by
 have htd:tdn ν j (Ob.deep j D xs hs)=some b:=tdn_tid rfl hb;refine Loc.begin ⟨h1,h2,h3⟩ ⟨fun hm=>?_,?_⟩
 · rcases List.mem_cons.1 hm with g|g
   · exact hqj (hS.dist q j oq _ b hq hj (.inl (by rw[blk_of g1q,g])) (.inl hb))
   · exact h5 g
 · cases ob with
   |none=>exact h4
   |some r=>exact⟨fun hm=>hqj (hS.dist q j oq _ r hq hj (.inl (blk_of g1q)) (.inr ⟨b,htd,hm⟩)),h4⟩
theorem stS{γ:Type}{rf:Rep γ}{get:α→List γ}{set:α→List γ→α}{fi:Nat}{κ:Bool}{ys:List γ}{xs xs0:List α}{hs:List (Nat×Nat×Nat×Nat)}{a a0 a':α}{i:Int}{j q off:Nat}{f:List α→Option β'}(F:DF D fi off rf get set)(hs':List (Nat×Nat×Nat×Nat))(ha:idx xs i=some a)(h:(upd1 xs i a').bind f=some res)
 (nx:∀Y,f Y=some res→K ⟨0,[(j,some (.deep j D Y hs')),(q,none)],[]⟩ none)(ea:a'=set a ys:=by rfl)
 (ho:o.op=.store t x y:=by rfl)(hx:opd L x=some (.pw j D.r xs0 a0 i off):=by rfl)(hj:aget L.objs j=some (.deep j D xs hs):=by rfl)(hy:opd L y=some (.s (.lf (.own q))):=by rfl)(hq:aget L.objs q=some (.row rf κ ys):=by rfl)(hne:Nat.beq q j=false:=by rfl)(hT:tyf tb t=some T:=by rfl)(hz:T.sz=1:=by rfl)(hsub:∀h∈hs',h∈hs∧h.1≠i.toNat*D.nf+fi∧h.2.1*D.r.sz+h.2.2.1≠i.toNat*D.r.sz+off:=by exact fun h hh=>nomatch hh)(hcov:∀h∈hs,h∈hs'∨h.1=i.toNat*D.nf+fi:=by exact fun h hh=>.inr (by cases hh with|head=>rfl|tail _ hh=>cases hh)):OpN tb o L K:=by
 obtain⟨Y,q1,q2⟩:=bind_some h;obtain⟨n,q3,q4,q5⟩:=upd1_some q1;refine OpN.of (ef:=⟨0,[(j,some (.deep j D Y hs')),(q,none)],[]⟩) (sv:=none) ⟨fun X w0 H0 ν oF e w hO hn hS hs1=>?_⟩ (nx Y q2);rw[ho];obtain⟨b,c,cs,sp,FB,FC,g1,g2,g3,g4,g5,g6,g7,g8,g9,g10,g11,g12⟩:=deep_of hS (hO j _ hj);obtain⟨b',c',n',m1,m2,m3,m4⟩:=opd_ok hs1 hx;rw[g1]at m1;cases m1;obtain rfl:n'=n:=Int.ofNat_inj.1 (m2.symm.trans q3);obtain⟨n2,r1,r2⟩:=idx_some ha;obtain rfl:n2=n':=Int.ofNat_inj.1 (r1.symm.trans q3);have hin:i.toNat=n2:=by omega
 rw[hin]at hsub hcov;obtain⟨ob,cq,nq,kq,p1,p2,p3,p4,cs1,sp1,p5,p6,p7⟩:=hS.obs q _ (hO q _ hq);subst p5;obtain⟨b2,c2,n3,s1,s2⟩:(Lf.own q).R ν (HF X w0 H0 ν oF w) (ev e y):=opd_ok hs1 hy;rw[p1]at s1;cases s1;have hqj:q≠j:=fun h=>by rw[h,Nat.beq_refl]at hne;cases hne
 have hlen:=g4.len;have hlt:=(List.getElem?_eq_some_iff.1 r2).1;have hjj:n2*D.nf+fi<xs.length*D.nf:=by
  have:=F.lt;have:n2*D.nf+D.nf≤xs.length*D.nf:=by rw[←Nat.succ_mul];exact Nat.mul_le_mul_right _ hlt
  omega
 have hDS:DS rf (ev e y) ob (.cells ([]++(cs1++sp1))) ys:=⟨cq,cs1,sp1,by rw[s2,p3],rfl,p7,p6.anyH F.fr⟩;obtain⟨cs',e1,e2,e3⟩:=g4.updS (sp:=sp) (y:=a') (v:=ev e y) (ob:=ob) (k:=.cells ([]++(cs1++sp1))) r2 F.lo F.lt rfl (fun vs bs cc hR=>by rw[ea];exact F.st _ _ _ _ _ _ _ _ hR hDS);have hone:one (ev e y)=true:=by rw[s2];exact osv_one _ _ _ _
 have hb:n2*D.r.sz+D.r.sz≤cs.length:=by rw[hlen.1,←Nat.succ_mul];exact Nat.mul_le_mul_right _ hlt
 refine OpY.store (tyf_ti hT) (by rw[m4,←Nat.zero_add (n2*D.r.sz)]) rfl (one_cells hone) (by rw[hz];rfl) (ones_cons hone ones_nil) (loc3 hS (hO j _ hj) (hO q _ hq) hqj (blk_of g1) p1 g2 p2 g9 g10 g11) 0 rfl rfl (by have:=F.lo;simp;omega) fun w' h1 h2=>?_;rw[e1]at h1;obtain⟨k1,k2⟩:=deep_put (Y:=Y) (hs':=hs') (FB:=FB) (FC:=FC) (jj:=n2*D.nf+fi) hS (hO j _ hj) (hO q _ hq) hqj g1 p1 h1 (by rw[q5,List.length_set]) g12 (by rw[List.length_append]at g3⊢;rw[e2];exact g3) (by rw[q5];exact e3) g5 g6 (by omega) (by omega)
  (fun r hr hm=>g7 r (by
   cases hh:memN r (hs.map (·.1))with
   |false=>rfl
   |true=>
    obtain⟨h0,h1,h2⟩:=List.mem_map.1 (memN_iff.1 hh);rcases hcov h0 h1 with g|g
    · have:=memN_iff.2 (List.mem_map.2 ⟨h0,g,h2⟩:r∈hs'.map (·.1));rw[this]at hm;cases hm
    · exact absurd (h2.symm.trans g) hr))
  (fun h hh=>by
   obtain⟨u1,u2,u3⟩:=hsub h hh;obtain⟨v1,v2,b2,c2,n3,v3,v4,v5⟩:=g8 h u1;refine⟨u2,v1,v2,b2,c2,n3,v3,v4,?_⟩;rw[put_same e1 e2 (by omega) (List.getElem?_eq_some_iff.1 v5).1];exact v5)
 exact⟨tlU ν b ((ν.tl b).set (n2*D.nf+fi) ob) ((ν.tc b).set (n2*D.nf+fi) (.cells ([]++(cs1++sp1)))),fun k hk=>rfl,k1,k2,sl0,trivial⟩
theorem unS{γ:Type}{rf:Rep γ}{get:α→List γ}{set:α→List γ→α}{fi:Nat}{κ:Bool}{xs:List α}{a:α}{i:Int}(j q:Nat){off:Nat}(F:DF D fi off rf get set)(ha:idx xs i=some a)(hj:aget L.objs j=some (.deep j D xs [(i.toNat*D.nf+fi,i.toNat,off,q)]):=by rfl)(hq:aget L.objs q=some (.row rf κ (get a)):=by rfl)(hne:Nat.beq q j=false:=by rfl):Vw L ⟨0,[(j,some (.deep j D xs [])),(q,none)],[]⟩:=by
 refine⟨fun X w0 H0 ν oF e w hO hn hS hs=>?_⟩;obtain⟨b,c,cs,sp,FB,FC,g1,g2,g3,g4,g5,g6,g7,g8,g9,g10,g11,g12⟩:=deep_of hS (hO j _ hj);obtain⟨n,r1,r2⟩:=idx_some ha;have hin:i.toNat=n:=by omega
 rw[hin]at g7 g8;obtain⟨ob,cq,nq,kq,p1,p2,p3,p4,cs1,sp1,p5,p6,p7⟩:=hS.obs q _ (hO q _ hq);subst p5;obtain⟨v1,v2,b2,c2,n3,v3,v4,v5⟩:=g8 _ List.mem_cons_self;dsimp only at v1 v2 v3 v4 v5;rw[p1]at v3;cases v3;have hqj:q≠j:=fun h=>by rw[h,Nat.beq_refl]at hne;cases hne
 have hlen:=g4.len;have hlt:=(List.getElem?_eq_some_iff.1 r2).1;have hjj:n*D.nf+fi<xs.length*D.nf:=by
  have:=F.lt;have:n*D.nf+D.nf≤xs.length*D.nf:=by rw[←Nat.succ_mul];exact Nat.mul_le_mul_right _ hlt
  omega
 have hDS:DS rf (osv ob 0 nq cq) ob (.cells ([]++(cs1++sp1))) (get a):=⟨cq,cs1,sp1,by rw[p3],rfl,p7,p6.anyH F.fr⟩;obtain⟨cs',e1,e2,e3⟩:=g4.updS (sp:=sp) (y:=a) (v:=osv ob 0 nq cq) (ob:=ob) (k:=.cells ([]++(cs1++sp1))) r2 F.lo F.lt rfl (fun vs bs cc hR=>by have:=F.st _ _ _ _ _ _ _ _ hR hDS;rw[F.gs]at this;exact this);have ecs:cs'=cs:=by
  have h:(cs++sp).set (0+n*D.r.sz+off) (osv ob 0 nq cq)=cs'++sp:=e1;rw[Nat.zero_add,set_self (by rw[List.getElem?_append_left (List.getElem?_eq_some_iff.1 v5).1];exact v5)]at h;exact(List.append_cancel_right h).symm
 subst ecs;have exs:xs.set n a=xs:=set_self r2;rw[exs]at e3;obtain⟨k1,k2⟩:=deep_put (Y:=xs) (hs':=[]) (FB:=FB) (FC:=FC) (jj:=n*D.nf+fi) hS (hO j _ hj) (hO q _ hq) hqj g1 p1 (loc3 hS (hO j _ hj) (hO q _ hq) hqj (blk_of g1) p1 g2 p2 g9 g10 g11) rfl g12 g3 e3 g5 g6 (by omega) (by omega)
  (fun r hr _=>g7 r (by
   cases hh:memN r (List.map (fun x=>x.1) [(n*D.nf+fi,n,off,q)])with
   |false=>rfl
   |true=>
    obtain⟨h0,h1,h2⟩:=List.mem_map.1 (memN_iff.1 hh);rw[List.mem_singleton.1 h1]at h2;exact absurd h2.symm hr))
  (fun h hh=>by cases hh)
 exact⟨tlU ν b ((ν.tl b).set (n*D.nf+fi) ob) ((ν.tc b).set (n*D.nf+fi) (.cells ([]++(cs1++sp1)))),fun k hk=>rfl,k1,k2,sl0⟩
theorem fzD(j:Nat){xs:List α}(hj:aget L.objs j=some (.deep j D xs []):=by rfl):Vw L ⟨0,[(j,some (.row D.r true xs))],[]⟩:=by
 refine⟨fun X w0 H0 ν oF e w hO hn hS hs=>?_⟩;obtain⟨b,c,cs,sp,FB,FC,g1,g2,g3,g4,g5,g6,g7,g8,g9,g10,g11,g12⟩:=deep_of hS (hO j _ hj);have htd:tdn ν j (Ob.deep j D xs [])=some b:=tdn_tid rfl (blk_of g1);have hnew:∀r,some r∈ν.tl b→X r∨w0.heap.size≤r:=fun r hr=>hS.fresh j _ r (hO j _ hj) (.inr ⟨b,htd,hr⟩);have hno:∀r,some r∈ν.tl b→¬Ow ν (apF [(j,some (.row D.r true xs))] oF) r:=by
  rintro r hr ⟨i,ob,h1,h2⟩;rcases apF_some h1 with h|⟨h,h3⟩
  · simp only[List.mem_singleton,Prod.mk.injEq,Option.some.injEq]at h;obtain⟨rfl,rfl⟩:=h;have h2:=(owb_of (ob:=.row D.r true xs) rfl).1 h2;rw[blk_of g1]at h2;cases h2;exact g11 hr
  · have:=hS.dist i j ob _ r h (hO j _ hj) h2 (.inr ⟨b,htd,hr⟩);subst this;simp[memN]at h3
 obtain⟨k1,k2⟩:=hS.go (T:=[j]) (O:=[some b]) (new:=[(j,.row D.r true xs)]) (ν':=ν) (oF':=apF [(j,some (.row D.r true xs))] oF) (fun r hr=>by simp only[List.mem_singleton]at hr;cases hr;exact⟨j,by simp,_,hO j _ hj,blk_of g1⟩) (loc1 g2) (NuLe.refl ν) (by show[blk ν j]=_;rw[blk_of g1]) (by simp)
  (fun i o h=>by
   rcases apF_some h with h|⟨h,h2⟩
   · simp only[List.mem_singleton,Prod.mk.injEq,Option.some.injEq]at h;obtain⟨rfl,rfl⟩:=h;exact .inr (by simp)
   · refine .inl ⟨h,fun hm=>?_⟩;simp only[List.mem_singleton]at hm;subst hm;simp[memN]at h2)
  (fun hle x hx=>by
   simp only[List.mem_singleton]at hx;subst hx;refine⟨some b,c,xs.length,_,g1,g2,rfl,g12,cs,sp,rfl,g4.els fun q r k hr hk=>?_,g3⟩;obtain⟨t1,t2⟩:=g7 q rfl;rw[←t1]at hr;rw[←t2]at hk;have hown:=Owns.at g9 q hr hk;cases r with
   |none=>cases k<;>first|exact hown|trivial
   |some r=>cases k with
    |map es=>trivial
    |cells ks=>exact own_at hown fun o ho=>HF_new (hnew r (List.mem_of_getElem? hr)) (hno r (List.mem_of_getElem? hr)) ho)
  (fun x hx=>by simp only[List.mem_singleton]at hx;subst hx;rfl) ⟨rfl,rfl⟩
 exact⟨ν,NuX.refl,k1,k2,sl0⟩
end
end
open Go Go.RowKit Go.X
section
variable {P:Program} {tb:List (TyE P)} {L:SS} {o:Oper} {K:Ef→Option Sv→Prop} {β:Type} {res:β} {t u el:TypeId} {x y a c:Operand} {T E:TyE P} {α:Type}
theorem loc2{w:World}{b b':Option Nat}{k k':Cont}(h:OwnC w b k)(h':OwnC w b' k')(hd:∀q,b=some q→b'≠some q):Go.X.Loc [b,b'] [] w w [b,b'] [k,k']:=by
 refine Loc.begin ⟨h,h',trivial⟩ ?_;cases b with
 |none=>cases b' with
  |none=>exact trivial
  |some q=>exact⟨by simp,trivial⟩
 |some q=>
  refine⟨fun hm=>hd q rfl (List.mem_singleton.1 hm).symm,?_⟩;cases b' with
  |none=>exact trivial
  |some q=>exact⟨by simp,trivial⟩
theorem apX{rp:Rep α}{κ κs:Bool}{xs ys:List α}{bs:Nat}{f:List α→Option β}{j:Nat}{l:Lf}(h:(apnd bs xs ys).bind f=some res)
 (nx:∀Y,apnd bs xs ys=some Y→f Y=some res→K ⟨2,[(L.nx,some (.row rp κ Y)),(L.nx+1,some (.hd (L.nx+1) j L.nx rp κ xs)),(j,none)],[]⟩ (some (.s (.lf (.own L.nx)))))
 (ho:o.op=.call {callee:=.builtin .append,args:=#[a,c],argTypes:=#[t,t]}:=by rfl) (ha:opd L a=some (.s (.lf (.own j))):=by rfl) (hj:aget L.objs j=some (.row rp κ xs):=by rfl) (hc:opd L c=some (.s (.lf l)):=by rfl)
 (hs:SrcP L rp κs ys l:=by first|exact .ro|exact .own rfl) (hT:tyf tb t=some T:=by rfl) (hd:T.d=.slice el:=by rfl) (hE:tyf tb el=some E:=by rfl) (hz:E.sz=rp.sz:=by rfl) (hb:E.bts=bs:=by rfl) (hq:Nat.beq E.z.cells.size rp.sz=true:=by rfl) (hpos:Nat.blt 0 ys.length=true:=by rfl)
 (hks:rowK κs κ=true∨Free rp:=by first|exact .inl rfl|exact .inr fun _ _ _ _ h=>h):OpN tb o L K:=by
 obtain⟨Y,q1,q2⟩:=bind_some h;obtain⟨q3,q4,q5⟩:=apnd_some q1;refine OpN.of ⟨fun X w0 H0 ν oF e w hO hn hS hs'=>?_⟩ (nx Y q1 q2);rw[ho];have hx0:=hn L.nx (Nat.le_refl _) (by show L.nx<L.nx+2;omega);have hx1:=hn (L.nx+1) (by omega) (by show L.nx+1<L.nx+2;omega);obtain⟨ob,cp,n,k0,p1,p2,p3⟩:=hS.obs j _ (hO j _ hj);obtain⟨e1,g7,cs,sp,rfl,g5,g6⟩:=p3;obtain⟨b',c',n',m1,m2⟩:(Lf.own j).R ν (HF X w0 H0 ν oF w) (ev e a):=opd_ok hs' ha;rw[p1]at m1;cases m1;obtain⟨ds,d1,d2⟩:=srcP_ok hS.view hS.tf (fun i ob hi=>hS.obs i ob (hO i ob hi)) hs hks (opd_ok hs' hc);have hpos':0<ys.length:=by rw[Nat.blt_eq]at hpos;exact hpos
 have hj0:j≠L.nx:=by rintro rfl;rw[p1]at hx0;cases hx0
 have hj1:j≠L.nx+1:=by rintro rfl;rw[p1]at hx1;cases hx1
 have hup:∀(ν1:Nu) (y1 y2:Option Nat×Nat×Nat),NuLe ν (updN (updN ν L.nx y1) (L.nx+1) y2):=fun ν1 y1 y2 i z hi=>by
  have h0:i≠L.nx:=by rintro rfl;rw[hx0]at hi;cases hi
  have h1:i≠L.nx+1:=by rintro rfl;rw[hx1]at hi;cases hi
  rw[updN_other h1,updN_other h0];exact hi
 have hn0:∀(y1 y2:Option Nat×Nat×Nat),(updN (updN ν L.nx y1) (L.nx+1) y2) L.nx=some y1:=fun y1 y2=>by rw[updN_other (by omega),updN_same]
 have hF:∀(o1 o2:Ob) (i:Nat) (ob:Ob),apF [(L.nx,some o1),(L.nx+1,some o2),(j,none)] oF i=some ob→(oF i=some ob∧i∉[j])∨(i,ob)=(L.nx,o1)∨(i,ob)=(L.nx+1,o2):=by
  intro o1 o2 i ob h;rcases apF_some h with h|⟨h,h2⟩
  · simp only[List.mem_cons,Prod.mk.injEq,Option.some.injEq,List.not_mem_nil,or_false,reduceCtorEq,and_false]at h;rcases h with⟨rfl,rfl⟩|⟨rfl,rfl⟩
    · exact .inr (.inl rfl)
    · exact .inr (.inr rfl)
  · refine .inl ⟨h,fun hm=>?_⟩;simp only[List.mem_singleton]at hm;subst hm;simp[memN]at h2
 have hNx:∀(y1 y2:Option Nat×Nat×Nat),NuX L.nx 2 ν (updN (updN ν L.nx y1) (L.nx+1) y2):=fun y1 y2 k hk=>by rw[updN_other (by omega),updN_other (by omega)]
 by_cases hr:n+ys.length≤cp
 · refine OpY.apRoom (r:=rp) (H:=HF X w0 H0 ν oF w κ) (i:=0) (tyf_und' hT hd) (tyf_ti' hE hz) g7 m2 rfl (loc1 p2) rfl rfl g5 e1 g6 d1 d2 hpos' hr q5 ?_;intro sp' ds' w' hE' hcap hL' hst;have hL2:Go.X.Loc [ob] [] w w' [none,ob] [.cells [],.cells ([]++(ds'++sp'))]:=(hL'.addNil).1;obtain⟨g1,g2⟩:=hS.go (T:=[j]) (O:=[ob]) (new:=[(L.nx+1,.hd (L.nx+1) j L.nx rp κ xs),(L.nx,.row rp κ Y)]) (ν':=updN (updN ν L.nx (ob,cp,Y.length)) (L.nx+1) (none,0,0)) (oF':=apF [(L.nx,some (.row rp κ Y)),(L.nx+1,some (.hd (L.nx+1) j L.nx rp κ xs)),(j,none)] oF)
    (fun q hq=>by simp only[List.mem_singleton]at hq;exact⟨j,by simp,_,hO j _ hj,by rw[blk_of p1,hq]⟩) hL2 (hup ν _ _) (by show[blk _ _,blk _ _]=_;rw[blk_of updN_same,blk_of (hn0 _ _)]) (by simp)
    (fun i o2 h=>by
     rcases hF _ _ i o2 h with h|h|h
     · exact .inl h
     · exact .inr (by rw[h];simp)
     · exact .inr (by rw[h];simp))
    (fun hle x hx=>by
     simp only[List.mem_cons,List.not_mem_nil,or_false]at hx;rcases hx with rfl|rfl
     · exact⟨none,0,0,_,updN_same,hL2.own.1,ob,cp,by rw[←e1];exact hup ν _ _ _ _ p1,g7,.inr ⟨⟨_,updN_same⟩,Y.length,hn0 _ _⟩⟩
     · exact⟨ob,cp,Y.length,_,hn0 _ _,hL2.own.2.1,rfl,g7,ds',sp',rfl,hE'.mono (hle κ),hcap⟩)
    (fun x hx=>by simp only[List.mem_cons,List.not_mem_nil,or_false]at hx;rcases hx with rfl|rfl<;>rfl) ⟨rfl,rfl⟩
   exact⟨_,hNx _ _,g1,g2,sl0,ob,cp,Y.length,hn0 _ _,rfl⟩
 · subst hb;refine OpY.apNew (r:=rp) (H:=HF X w0 H0 ν oF w κ) (i:=0) (tyf_und' hT hd) (tyf_ti' hE hz) (Nat.eq_of_beq_eq_true hq) g7 m2 rfl (loc1 p2) rfl rfl g5 e1 g6 d1 d2 hpos' hr q3 q4 q5 ?_;intro b cap' sp' ds' w' hE' hcap hL' hst;obtain⟨g1,g2⟩:=hS.go (T:=[j]) (O:=[ob]) (new:=[(L.nx,.row rp κ Y),(L.nx+1,.hd (L.nx+1) j L.nx rp κ xs)]) (ν':=updN (updN ν L.nx (some b,cap',Y.length)) (L.nx+1) (ob,cp,n)) (oF':=apF [(L.nx,some (.row rp κ Y)),(L.nx+1,some (.hd (L.nx+1) j L.nx rp κ xs)),(j,none)] oF)
    (fun q hq=>by simp only[List.mem_singleton]at hq;exact⟨j,by simp,_,hO j _ hj,by rw[blk_of p1,hq]⟩) hL' (hup ν _ _) (by show[blk _ _,blk _ _]=_;rw[blk_of (hn0 _ _),blk_of updN_same]) (by simp)
    (fun i o2 h=>by
     rcases hF _ _ i o2 h with h|h|h
     · exact .inl h
     · exact .inr (by rw[h];simp)
     · exact .inr (by rw[h];simp))
    (fun hle x hx=>by
     simp only[List.mem_cons,List.not_mem_nil,or_false]at hx;rcases hx with rfl|rfl
     · exact⟨some b,cap',Y.length,_,hn0 _ _,hL'.own.1,rfl,g7,ds',sp',rfl,hE'.mono (hle κ),hcap⟩
     · exact⟨ob,cp,n,_,updN_same,hL'.own.2.1,ob,cp,by rw[←e1];exact hup ν _ _ _ _ p1,g7,.inl ⟨by rw[←e1];exact updN_same,cs,sp,rfl,g5.mono (hle κ),g6⟩⟩)
    (fun x hx=>by simp only[List.mem_cons,List.not_mem_nil,or_false]at hx;rcases hx with rfl|rfl<;>rfl) ⟨rfl,rfl⟩
   exact⟨_,hNx _ _,g1,g2,sl0,some b,cap',Y.length,hn0 _ _,rfl⟩
theorem shX(h j:Nat){i h' i' bs:Nat}{rp:Rep α}{κ:Bool}{xs ys Y:List α}(hX:apnd bs xs ys=some Y)(hh:aget L.objs h=some (.hd h' i i' rp κ xs):=by rfl)(hj:aget L.objs j=some (.row rp κ Y):=by rfl)(e1:h'=h:=by rfl)(e2:i'=j:=by rfl)(hne:Nat.beq h j=false:=by rfl):Vw L ⟨0,[(i,some (.row rp κ xs)),(j,none),(h,none)],[]⟩:=by
 subst e1;subst e2;refine⟨fun X w0 H0 ν oF e w hO hn hS hs=>?_⟩;obtain⟨_,_,q5⟩:=apnd_some hX;obtain⟨bh,ch,nh,kh,r1,r2,b0,c0,r3,r4,r5⟩:=hS.obs h' _ (hO h' _ hh);obtain⟨bj,cj,nj,kj,s1,s2,s3,s4,cs,sp,s5,s6,s7⟩:=hS.obs i' _ (hO i' _ hj);have hhj:h'≠i':=fun h=>by rw[h,Nat.beq_refl]at hne;cases hne
 have hd:∀q,bh=some q→bj≠some q:=fun q hq hq'=>hhj (hS.dist h' i' _ _ q (hO h' _ hh) (hO i' _ hj) (.inl (by rw[blk_of r1,hq])) (.inl (by rw[blk_of s1,hq'])));have hL:=loc2 r2 s2 hd;have main:∀(b:Option Nat) (k:Cont),Go.X.Loc [bh,bj] [] w w [b] [k]→b=b0→(∀H',(∀κ',Le (HF X w0 H0 ν oF w κ') (H' κ'))→(Ob.row rp κ xs).R ν H' c0 xs.length k)→∃ν',NuX L.nx 0 ν ν'∧StX X w0 H0 ν' (apF [(i,some (.row rp κ xs)),(i',none),(h',none)] oF) w∧(∀κ',Le (HF X w0 H0 ν oF w κ') (HF X w0 H0 ν' (apF [(i,some (.row rp κ xs)),(i',none),(h',none)] oF) w κ'))∧SlR ν' (HF X w0 H0 ν' (apF [(i,some (.row rp κ xs)),(i',none),(h',none)] oF) w) (aget []) e:=by
  intro b k hLb hb hR;subst hb;obtain⟨g1,g2⟩:=hS.go (T:=[i,h',i']) (O:=[bh,bj]) (new:=[(i,.row rp κ xs)]) (ν':=ν) (oF':=apF [(i,some (.row rp κ xs)),(i',none),(h',none)] oF)
   (fun q hq=>by
    rcases List.mem_cons.1 hq with g|g
    · exact⟨h',by simp,_,hO h' _ hh,by rw[blk_of r1,g]⟩
    · exact⟨i',by simp,_,hO i' _ hj,by rw[blk_of s1,List.mem_singleton.1 g]⟩) hLb (NuLe.refl ν) (by show[blk _ _]=_;rw[blk_of r3]) (by simp)
   (fun q ob h=>by
    rcases apF_some h with h|⟨h,h2⟩
    · simp only[List.mem_cons,Prod.mk.injEq,Option.some.injEq,List.not_mem_nil,or_false,reduceCtorEq,and_false]at h;obtain⟨rfl,rfl⟩:=h;exact .inr (by simp)
    · refine .inl ⟨h,fun hm=>?_⟩;simp only[List.mem_cons,List.not_mem_nil,or_false]at hm;rcases hm with rfl|rfl|rfl<;>simp[memN]at h2)
   (fun hle x hx=>by simp only[List.mem_singleton]at hx;subst hx;exact⟨b,c0,xs.length,k,r3,hLb.own.1,hR _ hle⟩) (fun x hx=>by simp only[List.mem_singleton]at hx;subst hx;rfl) ⟨rfl,rfl⟩
  exact⟨ν,NuX.refl,g1,g2,sl0⟩
 rcases r5 with⟨t1,cs0,sp0,t2,t3,t4⟩|⟨⟨c',t1⟩,n2,t2⟩
 · rw[r1]at t1;cases t1;exact main bh kh (hL.drop 1).1 rfl fun H' hH=>⟨rfl,r4,cs0,sp0,t2,t3.mono (hH κ),t4⟩
 · rw[s1]at t2;cases t2;refine main _ kj (hL.drop 0).1 rfl fun H' hH=>?_;subst q5;obtain⟨a1,a2,e3,e4⟩:=Els.shrink s6;subst e3;refine⟨rfl,r4,a1,a2++sp,by rw[s5,List.append_assoc],e4.mono (hH κ),?_⟩;rw[←s7];simp[Nat.add_assoc]
theorem mvb(i off j:Nat){l:List Lf}{rp:Rep α}{κ:Bool}{xs:List α}(hi:aget L.objs i=some (.box l):=by rfl)(hj:aget L.objs j=some (.row rp κ xs):=by rfl)(hl:l[off]?=some (.own j):=by rfl)(hne:Nat.beq i L.nx=false:=by rfl)(hij:Nat.beq i j=false:=by rfl):
 Vw L ⟨1,[(i,some (.box (l.set off (.own L.nx)))),(L.nx,some (.row rp κ xs)),(j,none)],[]⟩:=by
 refine⟨fun X w0 H0 ν oF e w ho hn hS hs=>?_⟩;have hx:=hn L.nx (Nat.le_refl _) (by show L.nx<L.nx+1;omega);obtain⟨b,c,n,k,p1,p2,p3⟩:=hS.obs j _ (ho j _ hj);obtain⟨g1,g2⟩:=hS.rep (ob:=.row rp κ xs) (c':=c) (n':=n) rfl (ho j _ hj) p1 hx (loc1 p2) (fun H' hH=>by
  obtain⟨e1,e0,cs,sp,e2,e3,e4⟩:=p3;exact⟨e1,e0,cs,sp,e2,e3.mono (hH κ),e4⟩)
 have hoi:apF [(L.nx,some (Ob.row rp κ xs)),(j,none)] oF i=some (.box l):=by
  show(bif Nat.beq i L.nx then _ else bif Nat.beq i j then _ else oF i)=_;rw[hne,hij];exact ho _ _ hi
 have hjn:j≠L.nx:=by rintro rfl;rw[p1]at hx;cases hx
 obtain⟨k1,k2⟩:=g1.review (up:=[(i,some (.box (l.set off (.own L.nx))))]) (fun q o hq=>by
  simp only[List.mem_singleton,Prod.mk.injEq]at hq;obtain⟨rfl,rfl⟩:=hq;refine⟨.box l,_,rfl,hoi,rfl,?_⟩;rintro c' n' k' ⟨vs,q1,q2⟩;obtain⟨y,q3,b',c2,n2,q4,q5⟩:=q2.get hl;rw[updN_other hjn,p1]at q4;cases q4;have:=q2.set (i:=off) (x:=.own L.nx) (y:=y) ⟨_,_,_,updN_same,q5⟩;rw[set_self q3]at this;exact⟨vs,q1,this⟩)
 refine⟨_,updN_x,k1,fun κ'=>?_,sl0⟩;have:HF X w0 H0 (updN ν L.nx (b,c,n)) (apF [(i,some (Ob.box (l.set off (.own L.nx)))),(L.nx,some (.row rp κ xs)),(j,none)] oF) w=HF X w0 H0 (updN ν L.nx (b,c,n)) (apF [(L.nx,some (.row rp κ xs)),(j,none)] oF) w:=k2;rw[this];exact g2 κ'
def numG:Nat→List (Option Ob)→List (Nat×Option Ob)
 |_,[]=>[]
 |i,x::r=>(i,x)::numG (i+1) r
def mkG(n:Nat)(obs:List (Option Ob))(slots:List (Nat×Option Sv)):SS:=⟨n,numG 0 obs,slots⟩
theorem alV(t:Nat){md:Option Bool}{is:List Nat}{nx:Nat}{b:Bool}{x y:S1}(hb:b=true)(ht:aget L.slots t=some (.s (shS md is nx (bif b then x else y))):=by rfl):Vw L ⟨0,[],[(t,some (.s (shS md is nx x)))]⟩:=by
 subst hb;refine⟨fun X w0 H0 ν oF e w ho hn hS hs=>⟨ν,NuX.refl,hS,fun _=>Le.refl _,fun t' sv h=>?_⟩⟩;have h:(bif Nat.beq t' t then some (Sv.s (shS md is nx x))else none)=some sv:=h;cases hb:Nat.beq t' t with
 |false=>rw[hb]at h;cases h
 |true=>
  rw[hb]at h;cases h;have:=Nat.eq_of_beq_eq_true hb;subst this;exact hs _ _ ht
theorem nil3{rp:Rep α}{κ:Bool}{f:FuncId}{a0 a1 a3:S1}{b0 b1 b2:Ob}{out:List (Nat×Option Ob)}{rs:List S1}(hz:(rp.sz==0)=false)(c:Cx P f [a0,a1,.lf (.own 3),a3] [b0,b1,b2,.row rp κ []] out rs):Cx P f [a0,a1,.lf (.v (.slice none 0 0)),a3] [b0,b1,b2] out rs:=by
 refine⟨c.1,fun X w H ν l hν hS hl=>?_⟩;have hx:ν 3=none:=hν 3 (Nat.le_refl _);obtain⟨g1,g2⟩:=hS.new (ob:=.row rp κ []) (c:=0) (n:=0) rfl hx locNil (fun H' _=>⟨rfl,hz,[],[],rfl,rfl,by simp⟩);have e:apF [(3,some (Ob.row rp κ []))] (aget (numO 0 [b0,b1,b2]))=aget (numO 0 [b0,b1,b2,.row rp κ []]):=by
  funext t
  match t with
  |0=>rfl
  |1=>rfl
  |2=>rfl
  |3=>rfl
  |t+4=>rfl
 rw[e]at g1 g2;obtain⟨v0,_,rfl,h0,v1,_,rfl,h1,v2,_,rfl,h2,v3,_,rfl,h3,h4⟩:=hl;have hle:NuLe ν (updN ν 3 (none,0,0)):=updN_le hx;refine(c.2 X w H (updN ν 3 (none,0,0)) _ (fun k hk=>?_) g1 ⟨v0,_,rfl,h0.mono hle g2,v1,_,rfl,h1.mono hle g2,v2,_,rfl,⟨none,0,0,updN_same,h2.1⟩,v3,_,rfl,h3.mono hle g2,h4⟩).mono ?_
 · have hk:4≤k:=hk;rw[updN_other (by omega)];exact hν k (by show 3≤k;omega)
 · rintro en w' ⟨vs,r1,ν',r2,r3,r4⟩;refine⟨vs,r1,ν',fun k hk=>?_,r3,r4⟩;have hk:k<3:=hk;rw[r2 k (by show k<4;omega),updN_other (by omega)]
def ptrsO(L:SS):List Operand→Option (List Nat)
 |[]=>some []
 |x::r=>match opd L x with
  |some (.s (.lf (.ptr j 0)))=>match ptrsO L r with
   |some y=>some (j::y)
   |none=>none
  |_=>none
theorem ptrsO_ok{ν:Nu}{H:Bool→Hp}{e:Env}(hs:SlR ν H (aget L.slots) e):∀{xs:List Operand} {ps:List Nat},ptrsO L xs=some ps→PtsR ν ps (xs.map (ev e))
 |[],_,h=>by cases h;rfl
 |x::r,_,h=>by
  simp only[ptrsO]at h;split at h
  · rename_i j hx;split at h
    · rename_i y hy;cases h;obtain⟨b,c,h1,h2⟩:(Lf.ptr j 0).R ν H (ev e x):=opd_ok hs hx;exact⟨b,c,_,by rw[List.map_cons,h2],h1,ptrsO_ok hs hy⟩
    · cases h
  · cases h
theorem mkFc{fid:FuncId}{caps:List Operand}{ps:List Nat}(nx:K .z (some (.fc fid ps)))(ho:o.op=.makeFunc (.func fid) #[] caps.toArray:=by rfl) (hc:ptrsO L caps=some ps:=by rfl):OpN tb o L K:=by
 refine OpN.of (LT.look fun ν H e w hv ht hO hS=>?_) nx;rw[ho];exact OpY.makeFunc rfl ⟨rfl,caps.map (ev e),rfl,ptrsO_ok hS hc⟩
inductive CapN (objs:OF):List Nat→List S1→Prop
 |n:CapN objs [] []
 |c {p:Nat} {ps:List Nat} {ls l:List Lf} {cs:List S1} (hp:objs p=some (.box ls)) (hl:lendLs none objs [] ls l=some l) (hv:l.all capS.okV=true) (h:CapN objs ps cs):CapN objs (p::ps) (.lf (.pd (ppPd false l))::cs)
theorem lendLs_up{o0 oF:OF}(ho:∀i ob,o0 i=some ob→oF i=some ob){a b l:List Lf}(h:lendLs none o0 [] a b=some l):lendLs none oF [] a b=some l:=by
 have h1:=lendS_up (md:=none) (is:=[]) ho (a:=[.agg a]) (b:=[.agg b]) (l:=[.agg l]) (by simp only[lendS,h]);simp only[lendS]at h1;split at h1
 · rename_i x hx;cases h1;exact hx
 · cases h1
theorem CapN.up{o0 oF:OF}(ho:∀i ob,o0 i=some ob→oF i=some ob){ps:List Nat}{cs:List S1}(h:CapN o0 ps cs):CapN oF ps cs:=by
 induction h with
 |n=>exact .n
 |c hp hl hv _ ih=>exact .c (ho _ _ hp) (lendLs_up ho hl) hv ih
theorem CapN.ok{X:Nat→Prop}{w0 w:World}{H0:Bool→Hp}{ν:Nu}{oF:OF}(hS:StX X w0 H0 ν oF w):∀{ps:List Nat} {cs:List S1} {vs:List Value},CapN oF ps cs→PtsR ν ps vs→
 S1sR nu0 (HF (Xc ν []) w (Hc none (HF X w0 H0 ν oF w) (Xc ν []) w) (nuM ν []) (fun _=>none) w) cs vs:=by
 intro ps cs vs h
 induction h generalizing vs with
 |n=>exact fun h=>h
 |c hp hl hv _ ih=>
  rintro⟨b,c,vs,h1,h2,h3⟩;subst h1;have hI:∀i∈([]:List Nat),∃ob,oF i=some ob:=fun i hi=>by cases hi
  obtain⟨b',c',n',k,q1,q2,us,q3,q4⟩:=hS.obs _ _ hp;rw[h2]at q1;cases q1;have he:=Hc_in (md:=none) (νc:=nuM ν []) (cF:=fun _=>none) hS hI;have hr:=lendLs_ok hS hI he hl q4;refine⟨_,vs,rfl,⟨b,0,us,rfl,?_,okV_R hv hr⟩,ih h3⟩;subst q3;exact own_at q2 fun o ho'=>he false b o (Hc_none.2 ⟨fun⟨i,hi,_⟩=>(by cases hi),ho'⟩)
theorem clC{ρ α0 ρ0:Type}{g:Option ρ}{gg:α0→Option ρ0}{az0:α0→List S1}{rs0:ρ0→List S1}{f:ρ→Option β}{fid fcl:FuncId}{x:Operand}{fo:Operand}{ats:Array TypeId}{ls az cs:List S1}{ps:List Nat}{rs:ρ→List S1}
 (h:g.bind f=some res)(c:∀r,g=some r→Cx P fid (az++[.lf (.pd (fnPd P az0 rs0 gg))]) [] [] (rs r))(cc:∀x r,gg x=some r→Cx P fcl (az0 x++cs) [] [] (rs0 r))(hf:Enters P fcl)
 (nx:∀r,f r=some res→K .z (some (packS ((rs r).map (shS none [] L.nx)))))
 (ho:o.op=.call {callee:=.value (.func fid),args:=#[x,fo],argTypes:=ats}:=by rfl) (hfo:opd L fo=some (.fc fcl ps):=by rfl) (hcap:CapN (aget L.objs) ps cs) (ha:opds L [x]=some ls:=by rfl) (hl:lendS none (aget L.objs) [] ls az=some az:=by rfl) (h2:∀r,(rs r).all (okS none 0)=true:=by intro r;rfl):OpN tb o L K:=by
 obtain⟨r,q1,q2⟩:=bind_some h;refine OpN.of ⟨fun X w0 H0 ν oF e w ho' hν hS hs=>?_⟩ (nx r q2);rw[ho];have hI:∀i∈([]:List Nat),∃ob,oF i=some ob:=fun i hi=>by cases hi
 have hb:lendOs none oF [] [] []=some []:=rfl;have hin:=hS.lend (md:=none) (is:=[]) rfl hb;have e0:aget (numO 0 ([]:List Ob))=fun _=>none:=by funext t;rfl
 rw[e0]at hin;have hargs:=lendS_ok (md:=none) (is:=[]) (νc:=nuM ν []) (cF:=fun _=>none) hS hI (Hc_in hS hI) (lendS_up ho' hl) (opds_ok hs ha);obtain⟨cv,e1,e2⟩:=opd_ok hs hfo;have hcp:=(hcap.up ho').ok hS e2;have hfv:S1sR (nuM ν []) (HF (Xc ν []) w (Hc none (HF X w0 H0 ν oF w) (Xc ν []) w) (nuM ν []) (fun _=>none) w) [.lf (.pd (fnPd P az0 rs0 gg))] [ev e fo]:=by
  refine⟨_,[],rfl,⟨fcl,cv,e1,hf,?_⟩,rfl⟩;intro X1 w1 H' ν1 x r l hle hν1 hSt hf1 hl1;have hin1:∀κ,Le (HF (Xc ν []) w (Hc none (HF X w0 H0 ν oF w) (Xc ν []) w) (nuM ν []) (fun _=>none) w κ) (HF X1 w1 H' ν1 (fun _=>none) w1 κ):=fun κ b o hb=>by
   have h1:=hle κ b o hb;have h2:H' false b=some o:=by
    cases κ with
    |true=>exact hSt.h0 b o h1
    |false=>exact h1
   obtain⟨g1,g2,g3⟩:=hSt.h0w b o h2;rw[HF_old g1 g3];exact h1
  have:=(cc x r hf1).2 X1 w1 H' ν1 (l++cv) (fun k _=>hν1 k) (by rw[e0];exact hSt) (by
   rw[e0];exact hl1.append (hcp.mono (fun i x h=>(by cases h)) hin1))
  exact this
 have hall:=hargs.append hfv;have hcall:=(c r q1).2 (Xc ν []) w _ (nuM ν []) _ (fun k hk=>by rw[nuM_eq,List.getElem?_eq_none (by simp)];rfl) (by rw[e0];exact hin) (by rw[e0];exact hall);have hcall':Calls P fid ([x,fo].map (ev e)).toArray w (fun en w'=>∃vs,en=.returned (packV vs)∧EndR (Xc ν []) w (Hc none (HF X w0 H0 ν oF w) (Xc ν []) w) (nuM ν []) 0 [] (rs r) vs w'):=by
  exact hcall
 refine OpY.callg (args:=[x,fo]) (c r q1).1 rfl rfl hcall' ?_;rintro en w' ⟨vs,rfl,ν',hp,hE,hr⟩;exact⟨packV vs,rfl,call_back none [] 0 L.nx hS hI rfl rfl (h2 r) rfl hν (fun k hk=>absurd hk (Nat.not_lt_zero k)) hE hr⟩
end
end Go.Q

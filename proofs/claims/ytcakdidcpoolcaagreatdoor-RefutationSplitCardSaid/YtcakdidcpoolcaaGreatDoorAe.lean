/- Plain theorems and definitions of this seat, several texts in one. -/
import Derived.Test.YtcakdidcpoolcaaGreatDoorAd
import Derived.Test.YtcakdidcpoolcaaGreatDoorProg
import Derived.Test.YtcakdidcpoolcaaGreatDoorAa
import Derived.Test.YtcakdidcpoolcaaGreatDoorRows
import Derived.ChangeMaps5
import Derived.Stop.LaidErr
import Derived.Shelf.Strconv.Itoa0
import Derived.Shelf.Strconv.Itoa1
import Derived.Shelf.LaysM
import Derived.Shelf.Strconv.Itoa2
import Derived.Shelf.Strconv.Itoa3
import Derived.Ground.SlgnProg
import Derived.Test.YtcakdidcpoolcaaGreatDoorAb
set_option linter.unusedVariables false
set_option linter.unusedSimpArgs false
set_option linter.unusedSectionVars false
namespace Go.D
open Go Go.X
theorem mem_get{α:Type}{l m:List α}(h:l.Perm m){i:Nat}(hi:i<l.length):l[i]∈m:=h.mem_iff.1 (List.getElem_mem hi)
theorem insSort_tm{data:List Int}{cmp:Nat→Int→Int→Option Int}(hn:data.length≤1000)(hc:∀x∈data,∀y∈data,Tm (fun N=>cmp N x y) (fun _=>True)):
 Tm (fun N=>insSort N data 0 (data.length:Int) (cmp N)) (fun r=>r.Perm data):=by
 unfold insSort
 refine Tm.bind (Q:=fun r=>r.Perm data) ?_ fun r hr=>Tm.some hr
 refine Tm.loopG (fun(m:Nat) s=>s.1.Perm data∧∃i:Nat,s.2=(i:Int)∧1≤i∧i≤data.length+1∧m=data.length+1-i) (fun m=>m) (data.length+1-1) ⟨.refl _,1,rfl,by omega,by omega,rfl⟩ ?_
 rintro m ⟨s,ii⟩ ⟨hp,i,hi,h1,h2,hm⟩
 dsimp only at hp hi;subst hi;subst hm
 unfold insSort_b1
 dsimp only
 have hl:=hp.length_eq
 by_cases hlt:i<data.length
 · refine Tm.pos (by omega) ?_
   refine Tm.bind (Q:=fun r=>r.Perm data) ?_ fun r hr=>Tm.some ⟨_,⟨hr,i+1,iw_n (by omega),by omega,by omega,rfl⟩,by omega⟩
   refine Tm.loopG (fun(m:Nat) s=>s.1.Perm data∧s.2=(m:Int)∧m<data.length) (fun m=>m) i ⟨hp,rfl,hlt⟩ ?_
   rintro j ⟨s,jj⟩ ⟨hp,hj,hjl⟩
   dsimp only at hp hj hjl;subst hj
   have hl:=hp.length_eq
   unfold insSort_b2
   dsimp only
   by_cases hj0:0<j
   · have e1:iw ((j:Int)-1)=((j-1:Nat):Int):=by rw[iw_eq]<;>omega
     rw[e1]
     have g1:(fun N=>(((if(j:Int)>0 then(idx s (j:Int)).bind fun x4617=>(idx s ((j-1:Nat):Int)).bind fun x4629=>(cmp N x4617 x4629).bind fun r4735=>some (decide ((r4735:Int)<0))else some false):Option Bool)))=fun N=>(cmp N (s[j]'(by omega)) (s[j-1]'(by omega))).bind fun r4735=>some (decide ((r4735:Int)<0)):=by
      funext N
      rw[if_pos (by omega),idx_n (by omega),idx_n (by omega)];rfl
     have g2:Tm (fun N=>(((if(j:Int)>0 then(idx s (j:Int)).bind fun x4617=>(idx s ((j-1:Nat):Int)).bind fun x4629=>(cmp N x4617 x4629).bind fun r4735=>some (decide ((r4735:Int)<0))else some false):Option Bool))) (fun _=>True):=by
      rw[g1]
      exact(hc _ (mem_get hp _) _ (mem_get hp _)).bind fun _ _=>Tm.some trivial
     refine g2.bind fun b _=>?_
     cases b with
     |true=>
      refine Tm.pos rfl (Tm.step (idx_n (by omega)) (Tm.step (idx_n (by omega)) (Tm.step (idx_n (by omega)) ?_)))
      rw[upd1_i (n:=j) rfl (by omega)]
      simp only[Option.bind_some]
      refine Tm.step (idx_n (by rw[List.length_set];omega)) ?_
      rw[upd1_i (n:=j-1) rfl (by rw[List.length_set];omega)]
      exact Tm.some ⟨j-1,⟨(@List.set_set_perm _ s (j) (j-1) (by omega) (by omega)).trans hp,rfl,by omega⟩,by omega⟩
     |false=>exact Tm.neg (by simp) (Tm.some hp)
   · refine Tm.bind (Q:=fun b=>b=false) (Tm.neg (by omega) (Tm.some rfl)) fun b hb=>?_
     subst hb
     exact Tm.neg (by simp) (Tm.some hp)
 · exact Tm.neg (by omega) (Tm.some hp)
theorem sortStable_tm{data:List Int}{cmp:Nat→Int→Int→Option Int}(hn:data.length≤19)(hc:∀x∈data,∀y∈data,Tm (fun N=>cmp N x y) (fun _=>True)):
 Tm (fun N=>sortStable N data (cmp N)) (fun r=>r.Perm data):=by
 unfold sortStable
 refine Tm.bind (Q:=fun r=>r.Perm data) ?_ fun r hr=>Tm.some hr
 unfold stableSort
 refine Tm.bind (Q:=fun r=>r=(data,0)) ?_ fun r hr=>?_
 · refine Tm.up 0 (fun _ s=>s=(data,0,20)) rfl ?_
   rintro k _ s rfl
   unfold stableSort_b1
   exact Tm.neg (by omega) (Tm.some rfl)
 · subst hr
   refine(insSort_tm (by omega) hc).bind fun r hr=>?_
   refine Tm.bind (Q:=fun _=>True) ?_ fun _ _=>Tm.some hr
   refine Tm.up 0 (fun _ s=>s=20) rfl ?_
   rintro k _ s rfl
   unfold stableSort_b2
   exact Tm.neg (by omega) (Tm.some trivial)
theorem revInt_tm{s:List Int}(hn:s.length≤1000):Tm (fun N=>revInt N s) (fun r=>r.Perm s):=by
 unfold revInt
 refine Tm.bind (Q:=fun r=>r.Perm s) ?_ fun r hr=>Tm.some hr
 refine Tm.loopG (fun(m:Nat) (t:List Int×Int×Int)=>t.1.Perm s∧0≤t.2.1∧-1≤t.2.2∧t.2.2<(s.length:Int)∧m=(t.2.2-t.2.1+2).toNat) (fun m=>m) _ ⟨.refl _,Int.le_refl _,by dsimp only;rw[iw_eq]<;>omega,by dsimp only;rw[iw_eq]<;>omega,rfl⟩ ?_
 rintro m ⟨t,i,j⟩ ⟨hp,h1,h2,h3,hm⟩
 dsimp only at hp h1 h2 h3 hm;subst hm
 have hl:=hp.length_eq
 unfold revInt_b1
 dsimp only
 by_cases hij:i<j
 · obtain⟨a,rfl⟩:∃a:Nat,i=(a:Int):=⟨i.toNat,by omega⟩
   obtain⟨b,rfl⟩:∃b:Nat,j=(b:Int):=⟨j.toNat,by omega⟩
   refine Tm.pos hij (Tm.step (idx_n (by omega)) (Tm.step (idx_n (by omega)) (Tm.step (idx_n (by omega)) ?_)))
   rw[upd1_i (n:=a) rfl (by omega)]
   simp only[Option.bind_some]
   refine Tm.step (idx_n (by rw[List.length_set];omega)) ?_
   rw[upd1_i (n:=b) rfl (by rw[List.length_set];omega)]
   refine Tm.some ⟨_,⟨(@List.set_set_perm _ t (a) (b) (by omega) (by omega)).trans hp,?_,?_,?_,rfl⟩,?_⟩
   · dsimp only;rw[iw_eq]<;>omega
   · dsimp only;rw[iw_eq]<;>omega
   · dsimp only;rw[iw_eq]<;>omega
   · dsimp only
     rw[iw_eq (z:=(a:Int)+1) (by omega) (by omega),iw_eq (z:=(b:Int)-1) (by omega) (by omega)];omega
 · exact Tm.neg hij (Tm.some hp)
theorem nI_perm{l:List Int}{ns:List Nat}(h:l.Perm (nI ns)):∃os:List Nat,l=nI os∧os.Perm ns:=by
 refine⟨l.map Int.toNat,?_,?_⟩
 · unfold nI
   rw[List.map_map]
   have:∀x∈l,((fun(n:Nat)=>(n:Int))∘Int.toNat) x=x:=fun x hx=>by
    have:=h.mem_iff.1 hx
    unfold nI at this
    obtain⟨q,_,rfl⟩:=List.mem_map.1 this
    rfl
   rw[List.map_congr_left this,List.map_id']
 · have:=h.map Int.toNat
   unfold nI at this
   rw[List.map_map]at this
   have e:(Int.toNat∘fun(n:Nat)=>(n:Int))=id:=by funext n;rfl
   rw[e,List.map_id]at this
   exact this
theorem nodup_bound{m:Nat}{ns:List Nat}(h:ns.Nodup)(hb:∀k∈ns,k<m):ns.length≤m:=by
 have:=h.length_le_of_subset (l₂:=List.range m) fun x hx=>List.mem_range.2 (hb x hx)
 simpa using this
theorem pick{α:Type}{W B:List α}(h:W.Nodup)(hl:B.length<W.length):∃w∈W,w∉B:=by
 apply Classical.byContradiction
 intro hno
 have:W⊆B:=fun w hw=>Classical.byContradiction fun hb=>hno ⟨w,hw,hb⟩
 have:=h.length_le_of_subset this
 omega
theorem trunc{m:Nat}{D:Nat→List (List UInt8)}{nb:Nat→List Nat}{t:Nat→Nat}{R:Nat→Nat→Prop}(hD:∀k,(D k).Nodup)(ht:∀k,k<m→(nb k).length<t k)
 (hR:∀x y,R x y→y∈nb x∧R y x∧x≠y){f:Nat→List UInt8}(hf:∀k,k<m→f k∈D k)(hs:∀x y,R x y→f x≠f y):
 ∃g:Nat→List UInt8,(∀k,k<m→g k∈(D k).take (t k))∧∀x y,R x y→g x≠g y:=by
 have key:∀j,j≤m→∃g:Nat→List UInt8,(∀k,k<j→g k∈(D k).take (t k))∧(∀k,k<m→g k∈D k)∧∀x y,R x y→g x≠g y:=by
  intro j
  induction j with
  |zero=>intro _;exact⟨f,fun k hk=>by omega,hf,hs⟩
  |succ j ih=>
   intro hj
   obtain⟨g,h1,h2,h3⟩:=ih (by omega)
   by_cases hin:g j∈(D j).take (t j)
   · refine⟨g,fun k hk=>?_,h2,h3⟩
     by_cases e:k=j
     · subst e;exact hin
     · exact h1 k (by omega)
   · have hlen:((nb j).map g).length<((D j).take (t j)).length:=by
      rw[List.length_map,List.length_take]
      have:=ht j (by omega)
      rcases Nat.lt_or_ge (t j) (D j).length with hg|hg
      · omega
      · rw[List.take_of_length_le hg]at hin
        exact absurd (h2 j (by omega)) hin
     obtain⟨w,hw,hwn⟩:=pick ((hD j).sublist (List.take_sublist _ _)) hlen
     refine⟨fun x=>if x=j then w else g x,fun k hk=>?_,fun k hk=>?_,fun x y hxy=>?_⟩
     · by_cases e:k=j
       · subst e;simpa using hw
       · simpa[e]using h1 k (by omega)
     · by_cases e:k=j
       · subst e;simpa using List.mem_of_mem_take hw
       · simpa[e]using h2 k hk
     · obtain⟨r1,r2,r3⟩:=hR x y hxy
       obtain⟨r4,_,_⟩:=hR y x r2
       dsimp only
       by_cases ex:x=j
       · subst ex
         rw[if_pos rfl,if_neg (fun e=>r3 e.symm)]
         intro e
         exact hwn (List.mem_map.2 ⟨y,r1,e.symm⟩)
       · rw[if_neg ex]
         by_cases ey:y=j
         · subst ey
           rw[if_pos rfl]
           intro e
           exact hwn (List.mem_map.2 ⟨x,r4,e⟩)
         · rw[if_neg ey];exact h3 x y hxy
 obtain⟨g,h1,_,h3⟩:=key m (Nat.le_refl _)
 exact⟨g,h1,h3⟩
section
variable {p:TProb} {L:List Int} {l:List TClass} {x:List (List UInt8)}
theorem sat_iff:sat p x=true↔x.length=p.Min.length∧(∀i,i<x.length→(p.Min.getD i 0≤((x.getD i []).length:Int)∧((x.getD i []).length:Int)≤p.Max.getD i 0)∧(x.getD i []).all prn=true)∧(∀t∈p.Tests,pas t (x.getD t.Var.toNat [])=true)∧(∀e∈p.Same,x.getD e.e0.toNat []=x.getD e.e1.toNat [])∧∀e∈p.Different,x.getD e.e0.toNat []≠x.getD e.e1.toNat []:=by
 unfold sat gL gT gD gS
 simp only[Bool.and_eq_true,decide_eq_true_eq,List.all_eq_true,List.mem_range,Bool.not_eq_true',decide_eq_false_iff_not]
 constructor
 · rintro⟨⟨⟨⟨h1,h2⟩,h3⟩,h4⟩,h5⟩;exact⟨h1,h2,h3,h4,h5⟩
 · rintro⟨h1,h2,h3,h4,h5⟩;exact⟨⟨⟨⟨h1,h2⟩,h3⟩,h4⟩,h5⟩
theorem sat_cn(hs:∀e∈p.Same,x.getD e.e0.toNat []=x.getD e.e1.toNat []){a b:Nat}(hc:Cn p a b):x.getD a []=x.getD b []:=by
 induction hc with
 |refl a=>rfl
 |edge he=>exact hs _ he
 |symm _ ih=>exact ih.symm
 |trans _ _ i1 i2=>exact i1.trans i2
structure Wds (p:TProb)(L:List Int)(l:List TClass)(f:Nat→List UInt8):Prop where
 mem:∀(k:Nat) (c:TClass),l[k]?=some c→f k∈allw c
 df:∀e∈p.Different,f (cls L e.e0.toNat)≠f (cls L e.e1.toNat)
theorem sat_split(hp:OkP p)(hm:Lms p)(hL:Lb p L)(hF:Fx p L)(hG:Gat p L l)(h:sat p x=true):∃f,Wds p L l f∧∀v,v<p.Min.length→x[v]?=some (f (cls L v)):=by
 obtain⟨h1,h2,h3,h4,h5⟩:=sat_iff.1 h
 have hf:∃f:Nat→List UInt8,∀v,v<p.Min.length→x.getD v []=f (cls L v):=by
  refine⟨fun k=>if hk:∃v,v<p.Min.length∧cls L v=k then x.getD (Classical.choose hk) []else[],fun v hv=>?_⟩
  have hk:∃u,u<p.Min.length∧cls L u=cls L v:=⟨v,hv,rfl⟩
  dsimp only
  rw[dif_pos hk]
  obtain⟨g1,g2⟩:=Classical.choose_spec hk
  exact(sat_cn h4 (cn_cls hL hF g1 hv g2)).symm
 obtain⟨f,hf⟩:=hf
 refine⟨f,⟨fun k c ec=>?_,fun e he=>?_⟩,fun v hv=>?_⟩
 · have hk:k<rk L L.length:=by rw[←hG.len];exact(List.getElem?_eq_some_iff.1 ec).1
   obtain⟨c',ec',hC⟩:=hG.ok k hk
   rw[ec]at ec'
   have:c=c':=Option.some.inj ec'
   subst this
   obtain⟨v,hv,ev⟩:=cls_surj hL hk
   have hmx:=hp.mx (p.Max.getD v 0) (by rw[getD_n (by rw[hp.len];exact hv)];exact List.getElem_mem _)
   have hx:=fun u (hu:u<p.Min.length)=>h2 u (by omega)
   rw[mem_allw (hC.cok hp hm)]
   refine⟨?_,?_,?_,?_⟩
   · rcases hC.lo2 with g|⟨u,hu,eu,g⟩
     · omega
     · rw[←g,←eu,←hf u hu];exact(hx u hu).1.1
   · rcases hC.hi2 with g|⟨u,hu,eu,g⟩
     · have:=(hx v hv).1.2
       rw[hf v hv,ev]at this;omega
     · rw[←g,←eu,←hf u hu];exact(hx u hu).1.2
   · rw[←ev,←hf v hv];exact(hx v hv).2
   · rw[hC.ts,List.take_length,List.all_eq_true]
     intro t ht
     obtain⟨ht1,ht2⟩:=List.mem_filter.1 ht
     have hv:=(hp.ts t ht1).2
     rw[←of_decide_eq_true ht2,←hf _ (by omega)]
     exact h3 t ht1
 · have hv:=hp.df e he
   rw[←hf _ (by omega),←hf _ (by omega)]
   exact h5 e he
 · rw[←hf v hv,getD_n (by omega),List.getElem?_eq_getElem (by omega)]
theorem sat_join(hp:OkP p)(hm:Lms p)(hL:Lb p L)(hF:Fx p L)(hG:Gat p L l){f:Nat→List UInt8}(hW:Wds p L l f)(hx:x.length=p.Min.length)(hv:∀v,v<p.Min.length→x[v]?=some (f (cls L v))):sat p x=true:=by
 have hg:∀v,v<p.Min.length→x.getD v []=f (cls L v):=fun v h=>by rw[List.getD_eq_getElem?_getD,hv v h];rfl
 have hC:∀v,v<p.Min.length→∃c,l[cls L v]?=some c∧ClR p L p.Min.length p.Tests.length (cls L v) c∧f (cls L v)∈allw c:=fun v h=>by
  obtain⟨c,ec,h1⟩:=hG.ok _ (cls_lt hL hF h)
  exact⟨c,ec,h1,hW.mem _ _ ec⟩
 refine sat_iff.2 ⟨hx,fun i hi=>?_,fun t ht=>?_,fun e he=>?_,fun e he=>?_⟩
 · obtain⟨c,ec,h1,h2⟩:=hC i (by omega)
   rw[mem_allw (h1.cok hp hm)]at h2
   rw[hg i (by omega)]
   have g1:=h1.lo1 i (by omega) rfl
   have g2:=h1.hi1 i (by omega) rfl
   exact⟨by omega,h2.2.2.1⟩
 · have hvt:=(hp.ts t ht).2
   obtain⟨c,ec,h1,h2⟩:=hC t.Var.toNat (by omega)
   rw[mem_allw (h1.cok hp hm)]at h2
   rw[hg _ (by omega)]
   refine List.all_eq_true.1 h2.2.2.2 t ?_
   rw[h1.ts,List.take_length]
   exact List.mem_filter.2 ⟨ht,decide_eq_true rfl⟩
 · have hve:=hp.sm e he
   rw[hg _ (by omega),hg _ (by omega),cls_cn hF (.edge he)]
 · have hve:=hp.df e he
   rw[hg _ (by omega),hg _ (by omega)]
   exact hW.df e he
theorem ap_adj(hp:OkP p)(hL:Lb p L)(hF:Fx p L)(hG:Gat p L l)(hA:Ap p L p.Different.length l):Adj l:=by
 have hD:∀k q,Df p L p.Different.length k q→q<l.length∧q≠k:=by
  rintro k q ⟨e,he,h⟩
  have hne:=hA.ne e he
  rw[List.take_length]at he
  have hve:=hp.df e he
  rw[hG.len]
  rcases h with⟨h1,h2⟩|⟨h1,h2⟩
  · subst h1;subst h2;exact⟨cls_lt hL hF (by omega),fun e=>hne e.symm⟩
  · subst h1;subst h2;exact⟨cls_lt hL hF (by omega),hne⟩
 refine⟨fun k c ec o ho=>?_,fun k c q d ec ed hq=>?_⟩
 · obtain⟨q,e,h⟩:=(hA.mem k c ec o).1 ho
   exact⟨q,e,hD k q h⟩
 · obtain⟨q',e,h⟩:=(hA.mem k c ec _).1 hq
   have:q=q':=by omega
   subst this
   exact(hA.mem q d ed _).2 ⟨k,rfl,h.symm⟩
end
open Go Go.X
def wrd(c:TClass):TClass:=TClass.mk c.low c.high c.tests ((allw c).take (c.apart.length+1)) c.apart
structure Gr (m:Nat)(last:List Int)(removed:List Bool)(ns:List Nat):Prop where
 e:last=nI ns
 nd:ns.Nodup
 lt:∀k∈ns,k<m
 len:removed.length=m
 iff:∀k,k<m→(removed[k]?=some true↔k∈ns)
section
variable {l:List TClass}
theorem tSolve_b2_tm(hl:l.length≤1000){x:List Int}(hx:x.length=l.length):Tm (fun N=>loopM (tSolve_b2 N l) N (x,0)) (fun r=>r.length=l.length):=by
 refine Tm.up l.length (fun k s=>s.2=(k:Int)∧s.1.length=l.length) ⟨rfl,hx⟩ ?_
 rintro k hk ⟨s,i⟩ ⟨hi,hs⟩
 dsimp only at hi hs;subst hi
 unfold tSolve_b2
 dsimp only
 rcases Nat.lt_or_ge k l.length with hlt|hge
 · refine Tm.pos (by omega) (Tm.step (idx_n hlt) (Tm.step (idx_n (by omega)) ?_))
   rw[upd1_i (n:=k) rfl (by omega)]
   exact Tm.some ⟨hlt,iw_n (by omega),by rw[List.length_set];exact hs⟩
 · exact Tm.neg (by omega) (Tm.some hs)
theorem tSolve_b5_tm(hA:Adj l){k:Nat}{c:TClass}(ec:l[k]?=some c)(hc:c.apart.length≤1000){x:List Int}(hx:x.length=l.length):Tm (fun N=>loopM (tSolve_b5 N c) N (x,0)) (fun r=>r.length=l.length):=by
 refine Tm.up c.apart.length (fun k s=>s.2=(k:Int)∧s.1.length=l.length) ⟨rfl,hx⟩ ?_
 rintro j hj ⟨s,i⟩ ⟨hi,hs⟩
 dsimp only at hi hs;subst hi
 unfold tSolve_b5
 dsimp only
 rcases Nat.lt_or_ge j c.apart.length with hlt|hge
 · obtain⟨q,eq,hq,_⟩:=hA.lt _ _ ec _ (List.getElem_mem hlt)
   refine Tm.pos (by omega) (Tm.step (idx_n hlt) ?_)
   rw[eq]
   refine Tm.step (idx_n (by omega)) (Tm.step (idx_n (by omega)) ?_)
   rw[upd1_i (n:=q) rfl (by omega)]
   exact Tm.some ⟨hlt,iw_n (by omega),by rw[List.length_set];exact hs⟩
 · exact Tm.neg (by omega) (Tm.some hs)
theorem tSolve_b4_tm(hA:Adj l)(hl:l.length≤1000)(hc:∀c∈l,c.words.length≤1000∧c.apart.length≤1000){last left:List Int}{removed:List Bool}{ns:List Nat}(hg:Gr l.length last removed ns)(hlf:left.length=l.length):
 Tm (fun N=>loopM (tSolve_b4 N l) N (last,left,removed,false,0)) (fun r=>∃ns',Gr l.length r.1 r.2.2.1 ns'∧r.2.1.length=l.length∧ns.length≤ns'.length∧(r.2.2.2=true→ns.length<ns'.length)):=by
 refine Tm.up l.length (fun k s=>s.2.2.2.2=(k:Int)∧∃ns',Gr l.length s.1 s.2.2.1 ns'∧s.2.1.length=l.length∧ns.length≤ns'.length∧(s.2.2.2.1=true→ns.length<ns'.length)) ⟨rfl,ns,hg,hlf,Nat.le_refl _,fun e=>by simp at e⟩ ?_
 rintro k hk ⟨la,lf,rm,ch,i⟩ ⟨hi,ns',hG,h1,h2,h3⟩
 dsimp only at hi hG h1 h2 h3;subst hi
 unfold tSolve_b4
 dsimp only
 have hrl:=hG.len
 rcases Nat.lt_or_ge k l.length with hlt|hge
 · refine Tm.pos (by omega) ?_
   have ek:l[k]?=some l[k]:=List.getElem?_eq_getElem hlt
   obtain⟨hw,ha⟩:=hc _ (List.getElem_mem hlt)
   have key:Tm (fun N=>(((idx rm (k:Int)).bind fun x8011=>(if(!x8011)=true then(idx l (k:Int)).bind fun x8022=>(idx lf (k:Int)).bind fun x8042=>some (decide (((List.length x8022.words:Int):Int)>x8042))else some false):Option Bool))) (fun b=>b=true→rm[k]?=some false):=by
    refine Tm.step (idx_n (by omega)) ?_
    cases e:rm[k]'(by omega)with
    |true=>exact Tm.neg (by simp) (Tm.some fun h=>by simp at h)
    |false=>exact Tm.pos rfl (Tm.step (idx_n hlt) (Tm.step (idx_n (by omega)) (Tm.some fun _=>by rw[List.getElem?_eq_getElem (by omega),e])))
   refine key.bind fun b hb=>?_
   cases b with
   |true=>
    have hf:=hb rfl
    have hkn:k∉ns':=fun h=>by
     have:=(hG.iff k hlt).2 h
     rw[hf]at this;simp at this
    have hnl:=nodup_bound hG.nd hG.lt
    refine Tm.pos rfl (Tm.step (idx_n (by omega)) ?_)
    rw[upd1_i (n:=k) rfl (by omega),hG.e]
    simp only[Option.bind_some]
    rw[apnd_ok (by simp only[nI,List.length_map,List.length_singleton];omega) (by decide)]
    simp only[Option.bind_some]
    refine Tm.step (idx_n hlt) ((tSolve_b5_tm hA ek ha h1).bind fun lf' hlf'=>?_)
    refine Tm.some ⟨hlt,iw_n (by omega),ns'++[k],⟨by simp[nI],?_,?_,by rw[List.length_set];exact hrl,fun q hq=>?_⟩,hlf',by rw[List.length_append,List.length_singleton];omega,fun _=>by rw[List.length_append,List.length_singleton];omega⟩
    · rw[List.nodup_append]
      exact⟨hG.nd,by simp,fun a ha' b hb'=>by rw[List.mem_singleton.1 hb'];rintro rfl;exact hkn ha'⟩
    · intro q hq
      rcases List.mem_append.1 hq with hq|hq
      · exact hG.lt q hq
      · rw[List.mem_singleton.1 hq];exact hlt
    · show(rm.set k true)[q]?=some true↔_
      rw[set_get (by omega),List.mem_append,List.mem_singleton]
      by_cases e:k=q
      · rw[if_pos e];exact⟨fun _=>.inr e.symm,fun _=>rfl⟩
      · rw[if_neg e,hG.iff q hq]
        exact⟨.inl,fun h=>h.resolve_right fun h=>e h.symm⟩
   |false=>
    exact Tm.neg (by simp) (Tm.some ⟨hlt,iw_n (by omega),ns',hG,h1,h2,h3⟩)
 · exact Tm.neg (by omega) (Tm.some ⟨ns',hG,h1,h2,h3⟩)
theorem tSolve_b3_tm(hA:Adj l)(hl:l.length≤1000)(hc:∀c∈l,c.words.length≤1000∧c.apart.length≤1000){left:List Int}(hlf:left.length=l.length):
 Tm (fun N=>loopM (tSolve_b3 N l) N (([]:List Int),left,List.replicate l.length false,true)) (fun r=>∃ns,Gr l.length r.1 r.2 ns):=by
 refine Tm.loopG (fun(m:Nat) s=>∃ns,Gr l.length s.1 s.2.2.1 ns∧s.2.1.length=l.length∧m=2*(l.length-ns.length)+(if s.2.2.2 then 1 else 0)) (fun m=>m) _ ⟨[],⟨rfl,List.nodup_nil,fun k h=>absurd h List.not_mem_nil,by simp,fun k hk=>by rw[List.getElem?_replicate];split<;>simp⟩,hlf,rfl⟩ ?_
 rintro m ⟨la,lf,rm,ch⟩ ⟨ns,hG,h1,hm⟩
 dsimp only at hG h1 hm;subst hm
 unfold tSolve_b3
 dsimp only
 cases ch with
 |true=>
  refine Tm.pos rfl ((tSolve_b4_tm hA hl hc hG h1).bind fun r hr=>?_)
  obtain⟨la',lf',rm',ch'⟩:=r
  obtain⟨ns',g1,g2,g3,g4⟩:=hr
  dsimp only at g1 g2 g3 g4
  refine Tm.some ⟨_,⟨ns',g1,g2,rfl⟩,?_⟩
  have b1:=nodup_bound hG.nd hG.lt
  have b2:=nodup_bound g1.nd g1.lt
  dsimp only
  cases ch' with
  |true=>have:=g4 rfl;simp only[if_true];omega
  |false=>simp only[Bool.false_eq_true,if_false,if_true];omega
 |false=>exact Tm.neg (by simp) (Tm.some ⟨ns,hG⟩)
theorem tSolve_b6_tm(hl:l.length≤1000){removed:List Bool}(hr:removed.length=l.length):Tm (fun N=>loopM (tSolve_b6 N l removed) N (([]:List Int),0)) (·=nI ((List.range l.length).filter fun k=>decide (removed[k]?≠some true))):=by
 refine Tm.up l.length (fun k s=>s.2=(k:Int)∧s.1=nI ((List.range k).filter fun k=>decide (removed[k]?≠some true))) ⟨rfl,rfl⟩ ?_
 rintro k hk ⟨s,i⟩ ⟨hi,hs⟩
 dsimp only at hi hs;subst hi;subst hs
 unfold tSolve_b6
 dsimp only
 rcases Nat.lt_or_ge k l.length with hlt|hge
 · refine Tm.pos (by omega) (Tm.step (idx_n (by omega)) ?_)
   have hfl:(nI ((List.range k).filter fun k=>decide (removed[k]?≠some true))).length≤k:=by
    unfold nI
    rw[List.length_map]
    have:=List.length_filter_le (fun k=>decide (removed[k]?≠some true)) (List.range k)
    simpa using this
   have e:removed[k]?=some (removed[k]'(by omega)):=List.getElem?_eq_getElem (by omega)
   cases g:removed[k]'(by omega)with
   |true=>
    rw[g]at e
    refine Tm.neg (by simp) (Tm.some ⟨hlt,iw_n (by omega),?_⟩)
    rw[List.range_succ,List.filter_append,List.filter_cons_of_neg (by simp[e])]
    simp
   |false=>
    rw[g]at e
    refine Tm.pos rfl ?_
    rw[apnd_ok (by simp only[List.length_singleton];omega) (by decide)]
    refine Tm.some ⟨hlt,iw_n (by omega),?_⟩
    rw[List.range_succ,List.filter_append,List.filter_cons_of_pos (by simp[e])]
    simp[nI]
 · have:k=l.length:=by omega
   subst this
   exact Tm.neg (by omega) (Tm.some rfl)
end
section
variable {p:TProb} {L:List Int} {l:List TClass}
theorem tSolve_b1_tm(hp:OkP p)(hm:Lms p)(hd:p.Different.length≤98)(hL:Lb p L)(hG:Gat p L l)(hA:Ap p L p.Different.length l){num:List Int}{ok:Bool}:
 Tm (fun N=>loopM (tSolve_b1 N (l,num,ok)) N (l,0)) (fun o=>match o with|.inl r=>r=l.map wrd|.inr z=>z=([],false)∧∃(k:Nat) (c:TClass),l[k]?=some c∧allw c=[]):=by
 have hlen:=hG.len
 have hmm:=rk_le' (L:=L)
 have hle:=hp.le
 have hll:=hL.len
 refine Tm.up l.length (fun k s=>s.2=(k:Int)∧s.1=(l.take k).map wrd++l.drop k) ⟨rfl,by simp⟩ ?_
 rintro k hk ⟨s,i⟩ ⟨hi,hs⟩
 dsimp only at hi hs;subst hi;subst hs
 unfold tSolve_b1
 dsimp only
 rcases Nat.lt_or_ge k l.length with hlt|hge
 · have ek:l[k]?=some l[k]:=List.getElem?_eq_getElem hlt
   obtain⟨c,ec,hC⟩:=hG.ok k (by omega)
   have hck:c=l[k]:=by rw[ek]at ec;exact(Option.some.inj ec).symm
   have hcok:=hC.cok hp hm
   have hap:=hA.le k c ec
   have htl:((l.take k).map wrd).length=k:=by rw[List.length_map,List.length_take];omega
   have hsl:((l.take k).map wrd++l.drop k).length=l.length:=by rw[List.length_append,htl,List.length_drop];omega
   have e1:((l.take k).map wrd++l.drop k)[k]?=some c:=by
    rw[List.getElem?_append_right (by omega),htl,Nat.sub_self,List.getElem?_drop];exact ec
   refine Tm.pos (by omega) (Tm.step (idx_get e1) (Tm.step (idx_get e1) ?_))
   rw[iw_n (by omega)]
   refine(tfirst_tm hcok (m:=c.apart.length+1) (by omega)).eq ?_
   refine Tm.step (idx_get e1) ?_
   rw[upd1_i (n:=k) rfl (by omega)]
   simp only[Option.bind_some]
   have e2:((l.take k).map wrd++l.drop k).set k (TClass.mk c.low c.high c.tests ((allw c).take (c.apart.length+1)) c.apart)=(l.take (k+1)).map wrd++l.drop (k+1):=by
    rw[List.set_append_right _ _ (by omega),htl,Nat.sub_self,List.drop_eq_getElem_cons hlt,List.set_cons_zero,List.take_succ_eq_append_getElem hlt,List.map_append,List.append_assoc,←hck]
    rfl
   rw[e2]
   have e3:((l.take (k+1)).map wrd++l.drop (k+1))[k]?=some (wrd c):=by
    rw[←e2,set_get (by omega),if_pos rfl];rfl
   refine Tm.step (idx_get e3) ?_
   by_cases hz:((wrd c).words.length:Int)=0
   · refine Tm.pos hz (Tm.some ⟨rfl,k,c,ec,?_⟩)
     have hz:((allw c).take (c.apart.length+1)).length=0:=by
      have:(wrd c).words=(allw c).take (c.apart.length+1):=rfl
      rw[this]at hz;omega
     rw[List.length_take]at hz
     exact List.eq_nil_of_length_eq_zero (by omega)
   · exact Tm.neg hz (Tm.some ⟨hlt,iw_n (by omega),rfl⟩)
 · have:k=l.length:=by omega
   subst this
   refine Tm.neg (by simp) (Tm.some ?_)
   show _=_
   simp
theorem tSolve_b7_tm(hp:OkP p)(hL:Lb p L)(hF:Fx p L){l':List TClass}{ok:Bool}{f:Nat→List UInt8}{z:Bool×Bool×List (List UInt8)×List Bool}(hf:∀k,k<rk L L.length→z.2.2.1[k]?=some (f k)):
 Tm (fun N=>loopM (tSolve_b7 N (l',numOf L,ok) z) N (List.replicate (numOf L).length [],0)) (fun r=>r.length=p.Min.length∧∀v,v<p.Min.length→r[v]?=some (f (cls L v))):=by
 have hle:=hp.le
 have hl:=hL.len
 have hnl:(numOf L).length=p.Min.length:=by rw[num_len,hl]
 refine Tm.up p.Min.length (fun k s=>s.2=(k:Int)∧s.1.length=p.Min.length∧∀v,v<k→s.1[v]?=some (f (cls L v))) ⟨rfl,by simp[hnl],fun v hv=>by omega⟩ ?_
 rintro k hk ⟨s,i⟩ ⟨hi,hsl,hs⟩
 dsimp only at hi hsl hs;subst hi
 unfold tSolve_b7
 dsimp only
 rcases Nat.lt_or_ge k p.Min.length with hlt|hge
 · refine Tm.pos (by omega) (Tm.step (idx_get (num_get hL hlt)) (Tm.step (idx_get (hf _ (cls_lt hL hF hlt))) (Tm.step (idx_n (by omega)) ?_)))
   rw[upd1_i (n:=k) rfl (by omega)]
   refine Tm.some ⟨hlt,iw_n (by omega),by rw[List.length_set];exact hsl,fun v hv=>?_⟩
   show(s.set k _)[v]?=_
   rw[set_get (by omega)]
   by_cases e:k=v
   · subst e;rw[if_pos rfl]
   · rw[if_neg e];exact hs v (by omega)
 · exact Tm.neg (by omega) (Tm.some ⟨hsl,fun v hv=>hs v (by omega)⟩)
theorem tSolve1_tm{l:List TClass}{a b:Nat}(ha:a<l.length)(hb:b<l.length):Tm (fun N=>tSolve1 N (a:Int) (b:Int) l) (fun _=>True):=by
 unfold tSolve1
 exact Tm.step (idx_n ha) (Tm.step (idx_n hb) (Tm.some trivial))
theorem wrd_get{k:Nat}{c:TClass}(h:(l.map wrd)[k]?=some c):∃c0,l[k]?=some c0∧c=wrd c0:=by
 rw[List.getElem?_map]at h
 cases e:l[k]?with
 |none=>rw[e]at h;simp at h
 |some c0=>rw[e]at h;exact⟨c0,rfl,(Option.some.inj h).symm⟩
theorem tSolve_tm(hp:OkP p)(hm:Lms p)(hd:p.Different.length≤98)(hn:p.Min.length≤19):
 Tm (fun N=>tSolve N p) (fun r=>(r.2=true→sat p r.1=true)∧(r.2=false→r.1=[]∧∀x,sat p x=false)):=by
 unfold tSolve
 refine(tgathered_tm hp hm).bind fun r6 h6=>?_
 obtain⟨l,num,ok⟩:=r6
 obtain⟨L,hL,hF,e1,hG,hA,hno⟩:=h6
 dsimp only at e1 hG hA hno⊢
 subst e1
 have hlen:=hG.len
 have hmm:=rk_le' (L:=L)
 have hll:=hL.len
 cases ok with
 |false=>
  refine Tm.pos rfl (Tm.some ⟨fun h=>by simp at h,fun _=>⟨rfl,fun x=>?_⟩⟩)
  cases hs:sat p x with
  |false=>rfl
  |true=>
   obtain⟨e,he,hce⟩:=hno rfl
   obtain⟨f,hW,_⟩:=sat_split hp hm hL hF hG hs
   exact absurd (by rw[hce]) (hW.df e he)
 |true=>
  have hA:=hA rfl
  refine Tm.neg (by simp) ((tSolve_b1_tm hp hm hd hL hG hA).bind fun o ho=>?_)
  cases o with
  |inr z=>
   obtain⟨rfl,k,c,ec,hz⟩:=ho
   refine Tm.some ⟨fun h=>by simp at h,fun _=>⟨rfl,fun x=>?_⟩⟩
   cases hs:sat p x with
   |false=>rfl
   |true=>
    obtain⟨f,hW,_⟩:=sat_split hp hm hL hF hG hs
    have:=hW.mem k c ec
    rw[hz]at this;cases this
  |inl l'=>
   have ho:l'=l.map wrd:=ho
   have hadj0:=ap_adj hp hL hF hG hA
   have hl':l'.length=l.length:=by rw[ho,List.length_map]
   have hadj:Adj l':=by
    subst ho
    refine⟨fun k c ec o ho=>?_,fun k c q d ec ed hq=>?_⟩
    · obtain⟨c0,e0,rfl⟩:=wrd_get ec
      rw[List.length_map];exact hadj0.lt k c0 e0 o ho
    · obtain⟨c0,e0,rfl⟩:=wrd_get ec
      obtain⟨d0,e0',rfl⟩:=wrd_get ed
      exact hadj0.symm k c0 q d0 e0 e0' hq
   have hcs:∀c∈l',c.words.length≤1000∧c.apart.length≤1000:=by
    intro c hc
    obtain⟨k,hk,e⟩:=List.getElem_of_mem hc
    have ek:l'[k]?=some c:=by rw[List.getElem?_eq_getElem hk,e]
    subst ho
    obtain⟨c0,e0,rfl⟩:=wrd_get ek
    have:=hA.le k c0 e0
    refine⟨?_,by show c0.apart.length≤_;omega⟩
    show((allw c0).take (c0.apart.length+1)).length≤_
    rw[List.length_take];omega
   dsimp only
   rw[mk1_ok (n:=l'.length) rfl (by omega) (by decide)]
   simp only[Option.bind_some]
   rw[mk1_ok (n:=l'.length) rfl (by omega) (by decide)]
   simp only[Option.bind_some]
   refine(tSolve_b2_tm (by omega) (by simp)).bind fun lf hlf=>?_
   refine(tSolve_b3_tm hadj (by omega) hcs hlf).bind fun r hr=>?_
   obtain⟨last,rm⟩:=r
   obtain⟨ns,hgr⟩:=hr
   dsimp only at hgr⊢
   refine(tSolve_b6_tm (by omega) hgr.len).eq ?_
   have hhl:(nI ((List.range l'.length).filter fun k=>decide (rm[k]?≠some true))).length≤l'.length:=by
    unfold nI
    rw[List.length_map]
    have:=List.length_filter_le (fun k=>decide (rm[k]?≠some true)) (List.range l'.length)
    simpa using this
   have hmemh:∀x∈nI ((List.range l'.length).filter fun k=>decide (rm[k]?≠some true)),∃q:Nat,x=(q:Int)∧q<l'.length:=by
    intro x hx
    unfold nI at hx
    obtain⟨q,hq,rfl⟩:=List.mem_map.1 hx
    exact⟨q,rfl,List.mem_range.1 (List.mem_filter.1 hq).1⟩
   refine(sortStable_tm (cmp:=fun N y z=>tSolve1 N y z l') (by omega) fun x hx y hy=>?_).bind fun so hso=>?_
   · obtain⟨a,rfl,ha⟩:=hmemh x hx
     obtain⟨b,rfl,hb⟩:=hmemh y hy
     exact tSolve1_tm ha hb
   have hlastl:last.length≤l'.length:=by
    rw[hgr.e];unfold nI
    rw[List.length_map];exact nodup_bound hgr.nd hgr.lt
   refine(revInt_tm (by omega)).bind fun rv hrv=>?_
   have hsol:=hso.length_eq
   have hrvl:=hrv.length_eq
   rw[apnd_ok (by omega) (by decide)]
   simp only[Option.bind_some]
   have hperm:(so++rv).Perm (nI (((List.range l'.length).filter fun k=>decide (rm[k]?≠some true))++ns)):=by
    have:=hso.append hrv
    rw[hgr.e]at this
    unfold nI at this⊢
    rw[List.map_append];exact this
   obtain⟨os,eos,hos⟩:=nI_perm hperm
   rw[eos]
   have hmem:∀k,k∈os↔k<l'.length:=by
    intro k
    rw[hos.mem_iff,List.mem_append,List.mem_filter,List.mem_range]
    constructor
    · rintro(h|h)
      · exact h.1
      · exact hgr.lt k h
    · intro h
      by_cases g:rm[k]?=some true
      · exact .inr ((hgr.iff k h).1 g)
      · exact .inl ⟨h,decide_eq_true g⟩
   have hnd:os.Nodup:=by
    rw[hos.nodup_iff,List.nodup_append]
    refine⟨List.nodup_range.sublist List.filter_sublist,hgr.nd,fun a ha b hb=>?_⟩
    rintro rfl
    have:=of_decide_eq_true (List.mem_filter.1 ha).2
    exact this ((hgr.iff a (hgr.lt a hb)).2 hb)
   have hosl:os.length≤1000:=by
    have:=nodup_bound hnd fun k hk=>(hmem k).1 hk
    omega
   rw[mk1_ok (n:=l'.length) rfl (by omega) (by decide)]
   simp only[Option.bind_some]
   refine(tchoose_tm hadj (by omega) hcs os (List.replicate l'.length []) (List.replicate l'.length false) hnd (fun k hk=>⟨(hmem k).1 hk,by rw[List.getElem?_replicate,if_pos ((hmem k).1 hk)]⟩) (by simp) (by simp) hosl).bind fun r hr=>?_
   · obtain⟨al,okk,rw',rk'⟩:=r
     dsimp only
     have hDR:∀k q,Df p L p.Different.length k q→k<l.length∧∃c,l[k]?=some c∧(q:Int)∈c.apart:=by
      intro k q h
      have h':=h.symm
      obtain⟨e,he,g⟩:=h
      rw[List.take_length]at he
      have hve:=hp.df e he
      have hkl:k<l.length:=by
       rw[hlen]
       rcases g with⟨g,_⟩|⟨g,_⟩
       · subst g;exact cls_lt hL hF (by omega)
       · subst g;exact cls_lt hL hF (by omega)
      exact⟨hkl,_,List.getElem?_eq_getElem hkl,(hA.mem k _ (List.getElem?_eq_getElem hkl) _).2 ⟨q,rfl,h'.symm⟩⟩
     cases okk with
     |false=>
      refine Tm.pos rfl (Tm.some ⟨fun h=>by simp at h,fun _=>⟨rfl,fun x=>?_⟩⟩)
      cases hs:sat p x with
      |false=>rfl
      |true=>
       exfalso
       obtain⟨f,hW,_⟩:=sat_split hp hm hL hF hG hs
       obtain⟨_,hnoext⟩:=hr.no rfl
       obtain⟨g,hg1,hg2⟩:=trunc (m:=l.length) (D:=fun k=>match l[k]?with|some c=>allw c|none=>[]) (nb:=fun k=>match l[k]?with|some c=>c.apart.map Int.toNat|none=>[]) (t:=fun k=>match l[k]?with|some c=>c.apart.length+1|none=>1) (R:=fun x y=>Df p L p.Different.length x y)
        (fun k=>by
         try dsimp only
         cases l[k]?with
         |none=>exact List.nodup_nil
         |some c=>exact allw_nodup)
        (fun k hk=>by
         try dsimp only
         rw[List.getElem?_eq_getElem hk]
         simp)
        (fun x y hxy=>by
         obtain⟨h1,c,h2,h3⟩:=hDR x y hxy
         refine⟨?_,hxy.symm,?_⟩
         · try dsimp only
           rw[h2]
           exact List.mem_map.2 ⟨_,h3,rfl⟩
         · obtain⟨q,e,_,h4⟩:=hadj0.lt x c h2 _ h3
           omega)
        (f:=f)
        (fun k hk=>by
         try dsimp only
         rw[List.getElem?_eq_getElem hk]
         exact hW.mem k _ (List.getElem?_eq_getElem hk))
        (fun x y hxy=>by
         obtain⟨e,he,h⟩:=hxy
         rw[List.take_length]at he
         have:=hW.df e he
         rcases h with⟨h1,h2⟩|⟨h1,h2⟩
         · rw[←h1,←h2];exact this
         · rw[←h1,←h2];exact fun e=>this e.symm)
       refine hnoext g fun k hk=>?_
       have hkl:k<l.length:=by rw[←hl'];exact(hmem k).1 hk
       have ek:l[k]?=some l[k]:=List.getElem?_eq_getElem hkl
       refine⟨wrd l[k],by rw[ho,List.getElem?_map,ek];rfl,?_,fun q hq=>⟨fun _=>?_,fun hkn=>?_⟩⟩
       · have:=hg1 k hkl
         try dsimp only at this
         rw[ek]at this
         exact this
       · have hq:(q:Int)∈l[k].apart:=hq
         obtain⟨q',e,hdf⟩:=(hA.mem k _ ek _).1 hq
         have:q=q':=by omega
         subst this
         exact hg2 k q hdf
       · rw[List.getElem?_replicate]at hkn
         by_cases hql:q<l'.length
         · rw[if_pos hql]at hkn;simp at hkn
         · rw[if_neg hql]at hkn;simp at hkn
     |true=>
      obtain⟨y1,y2⟩:=hr.yes rfl
      dsimp only at y1 y2
      subst y1
      refine Tm.neg (by simp) (Tm.step (chk_ok rfl) ?_)
      rw[mk1_ok (n:=(numOf L).length) rfl (by rw[num_len];omega) (by decide)]
      simp only[Option.bind_some]
      have hY:∀k,k<l.length→∃c w,l[k]?=some c∧rw'[k]?=some w∧w∈allw c∧∀q:Nat,(q:Int)∈c.apart→q<l.length→rw'[q]?≠some w:=by
       intro k hk
       obtain⟨c,w,ec,ew,hw,hq⟩:=y2 k ((hmem k).2 (by omega))
       rw[ho]at ec
       obtain⟨c0,e0,rfl⟩:=wrd_get ec
       exact⟨c0,w,e0,ew,List.mem_of_mem_take hw,fun q h1 h2=>hq q h1 (.inl ((hmem q).2 (by omega)))⟩
      have hfget:∀k,k<rk L L.length→rw'[k]?=some (rw'.getD k []):=by
       intro k hk
       obtain⟨c,w,_,ew,_⟩:=hY k (by omega)
       rw[List.getD_eq_getElem?_getD,ew];rfl
      refine(tSolve_b7_tm hp hL hF (z:=(true,true,rw',rk')) (f:=fun k=>rw'.getD k []) hfget).bind fun out hout=>?_
      refine Tm.some ⟨fun _=>?_,fun h=>by simp at h⟩
      refine sat_join hp hm hL hF hG (f:=fun k=>rw'.getD k []) ⟨fun k c ec=>?_,fun e he=>?_⟩ hout.1 hout.2
      · have hk:k<l.length:=(List.getElem?_eq_some_iff.1 ec).1
        obtain⟨c',w,ec',ew,hw,_⟩:=hY k hk
        rw[ec]at ec'
        have:c=c':=Option.some.inj ec'
        subst this
        try dsimp only
        rw[List.getD_eq_getElem?_getD,ew];exact hw
      · have hve:=hp.df e he
        obtain⟨hk,c,ec,hq⟩:=hDR (cls L e.e0.toNat) (cls L e.e1.toNat) ⟨e,by rw[List.take_length];exact he,.inl ⟨rfl,rfl⟩⟩
        obtain⟨c',w,ec',ew,hw,hne⟩:=hY _ hk
        rw[ec]at ec'
        have:c=c':=Option.some.inj ec'
        subst this
        have hcl:=cls_lt hL hF (show e.e1.toNat<p.Min.length by omega)
        have h1:=hne _ hq (by omega)
        have h2:=hfget _ hcl
        try dsimp only
        intro h3
        apply h1
        rw[h2,←h3,List.getD_eq_getElem?_getD,ew];rfl
end
end Go.D
set_option maxRecDepth 100000
namespace Go.D
open Go Go.X
mutual
def bkP:Proof→Nat
 |⟨steps,_,_,children⟩=>steps.length+bkPs children+1
def bkPs:List Proof→Nat
 |[]=>0
 |c::r=>bkP c+bkPs r
end
theorem bkP_eq(p:Proof):bkP p=p.Steps.length+bkPs p.Children+1:=by cases p;simp[bkP]
mutual
def bkR:Refut→Nat
 |⟨_,_,_,p,children⟩=>bkP p+bkRs children+1
def bkRs:List Refut→Nat
 |[]=>0
 |c::r=>bkR c+bkRs r
end
theorem bkR_eq(p:Refut):bkR p=bkP p.Proof+bkRs p.Children+1:=by cases p;simp[bkR]
inductive InPt:Proof→Prop
 |mk {p:Proof} (h1:∀s∈p.Steps,s.Uses.length≤9223372036854775807) (h2:p.Form.length≤9223372036854775807) (h3:p.Steps.length≤9223372036854775807) (h5:p.Children.length≤9223372036854775807) (h6:∀c∈p.Children,InPt c):InPt p
inductive InR:Refut→Prop
 |mk {r:Refut} (h1:I64 r.Var) (h2:I64 r.At) (h3:InPt r.Proof) (h4:r.Children.length≤9223372036854775807) (h5:∀c∈r.Children,InR c):InR r
theorem nx{k n:Nat}(h:k<n)(hn:n≤9223372036854775807):iw ((k:Int)+1)=((k+1:Nat):Int):=by rw[iw_eq]<;>omega
theorem Tm.over{σ ρ:Type}{body:Nat→σ→Option (Stp σ ρ)}(n:Nat)(ix:σ→Int)(I:σ→Prop){Q:ρ→Prop}{s0:σ}(h0:∃k:Nat,ix s0=k)(hI:I s0)
 (h:∀s (k:Nat),ix s=k→I s→Tm (fun N=>body N s) (fun t=>match t with|.next s'=>k<n∧ix s'=((k+1:Nat):Int)∧I s'|.done r=>Q r)):Tm (fun N=>loopM (body N) N s0) Q:=by
 refine Tm.loop (fun s=>(∃k:Nat,ix s=k)∧I s) (fun s=>n-(ix s).toNat) ⟨h0,hI⟩ ?_
 rintro s ⟨⟨k,hk⟩,hs⟩
 refine(h s k hk hs).mono fun t ht=>?_
 cases t with
 |next s'=>exact⟨⟨⟨k+1,ht.2.1⟩,ht.2.2⟩,by dsimp only;rw[ht.2.1,hk];have:=ht.1;omega⟩
 |done r=>exact ht
theorem rbigs_end{l:List Big}(h:l.length≤9223372036854775807):Tm (fun N=>rbigs N l) (fun _=>True):=by
 unfold rbigs
 refine Tm.bind (Tm.over l.length (fun s:Int=>s) (fun _=>True) (Q:=fun _=>True) ⟨0,rfl⟩ trivial ?_) (fun t _=>?_)
 · rintro _ k rfl-
   dsimp only[rbigs_b1]
   refine Tm.ite (fun h=>?_) (fun h=>Tm.pure trivial)
   have hk:k<l.length:=by omega
   exact Tm.step (idx_ok hk) (Tm.ite (fun _=>Tm.pure trivial) (fun _=>Tm.pure ⟨hk,nx hk ‹_›,trivial⟩))
 · rcases t with _|_<;>exact Tm.pure trivial
theorem rSmallStep_end{s:Step}(h:s.Uses.length≤9223372036854775807):Tm (fun N=>rSmallStep N s) (fun _=>True):=by
 unfold rSmallStep
 refine Tm.bind (Tm.over s.Uses.length (fun s:Int=>s) (fun _=>True) (Q:=fun _=>True) ⟨0,rfl⟩ trivial ?_) (fun t _=>?_)
 · rintro _ k rfl-
   dsimp only[rSmallStep_b1]
   refine Tm.ite (fun h=>?_) (fun h=>Tm.pure trivial)
   have hk:k<s.Uses.length:=by omega
   exact Tm.step (idx_ok hk) (Tm.ite (fun _=>Tm.pure trivial) (fun _=>Tm.pure ⟨hk,nx hk ‹_›,trivial⟩))
 · rcases t with _|_
   · exact Tm.ite (fun _=>Tm.pure trivial) (fun _=>Tm.pure trivial)
   · exact Tm.pure trivial
theorem rweight_end{p:Proof}(h:InPt p):Tm (fun N=>rweight N p) (fun _=>True):=by
 induction h with
 |@mk p h1 h2 h3 h5 h6 ih=>
  refine Tm.succ ?_
  show Tm (fun N=>rweight_step N (rweight N) p) _
  unfold rweight_step
  refine Tm.bind (Q:=fun _=>True) ((rbigs_end h2).bind fun _ _=>Tm.ite (fun _=>Tm.pure trivial) (fun _=>Tm.pure trivial)) fun x _=>?_
  refine Tm.ite (fun _=>Tm.pure trivial) (fun _=>?_)
  refine Tm.bind (Tm.over p.Steps.length (fun s:Int=>s) (fun _=>True) (Q:=fun _=>True) ⟨0,rfl⟩ trivial ?_) (fun t _=>?_)
  · rintro _ k rfl-
    dsimp only[rweight_b1]
    refine Tm.bind (Q:=fun b=>b=true→k<p.Steps.length) (Tm.ite (fun h=>Tm.pure (fun _=>by omega)) (fun h=>Tm.pure (fun h=>by cases h))) fun b hb=>?_
    refine Tm.ite (fun h=>?_) (fun h=>Tm.pure trivial)
    have hk:=hb h
    exact Tm.step (idx_ok hk) ((rSmallStep_end (h1 _ (List.getElem_mem hk))).bind fun _ _=>Tm.ite (fun _=>Tm.pure trivial) (fun _=>Tm.pure ⟨hk,nx hk h3,trivial⟩))
  · rcases t with _|_
    · refine Tm.bind (Tm.over p.Children.length (fun s:Int×Int=>s.2) (fun _=>True) (Q:=fun _=>True) ⟨0,rfl⟩ trivial ?_) (fun t _=>Tm.pure trivial)
      rintro⟨m,kk⟩ k rfl-
      dsimp only[rweight_b2]
      refine Tm.bind (Q:=fun b=>b=true→k<p.Children.length) (Tm.ite (fun h=>Tm.pure (fun _=>by omega)) (fun h=>Tm.pure (fun h=>by cases h))) fun b hb=>?_
      refine Tm.ite (fun h=>?_) (fun h=>Tm.pure trivial)
      have hk:=hb h
      exact Tm.step (idx_ok hk) ((ih _ (List.getElem_mem hk)).bind fun _ _=>Tm.pure ⟨hk,nx hk h5,trivial⟩)
    · exact Tm.pure trivial
theorem wparts_end{r:Refut}(h:InR r):Tm (fun N=>wparts N r) (fun _=>True):=by
 induction h with
 |@mk r h1 h2 h3 h4 h5 ih=>
  refine Tm.succ ?_
  show Tm (fun N=>wparts_step N (wparts N) r) _
  unfold wparts_step
  refine Tm.bind (Q:=fun _=>True) ((rweight_end h3).bind fun _ _=>Tm.pure trivial) fun b _=>?_
  refine Tm.ite (fun _=>Tm.pure trivial) (fun _=>?_)
  refine Tm.bind (Tm.over r.Children.length (fun s:Int×Int=>s.2) (fun _=>True) (Q:=fun _=>True) ⟨0,rfl⟩ trivial ?_) (fun t _=>Tm.pure trivial)
  rintro⟨m,kk⟩ k rfl-
  dsimp only[wparts_b1]
  refine Tm.bind (Q:=fun b=>b=true→k<r.Children.length) (Tm.ite (fun h=>Tm.pure (fun _=>by omega)) (fun h=>Tm.pure (fun h=>by cases h))) fun b hb=>?_
  refine Tm.ite (fun h=>?_) (fun h=>Tm.pure trivial)
  have hk:=hb h
  exact Tm.step (idx_ok hk) ((ih _ (List.getElem_mem hk)).bind fun _ _=>Tm.pure ⟨hk,nx hk h4,trivial⟩)
theorem wSmall_end{r:Refut}(h:InR r):Tm (fun N=>wSmall N r) (fun _=>True):=(wparts_end h).bind fun _ _=>Tm.pure trivial
open Go Go.X
section
variable {l:List RVar} {c:RClause} {rg rg':List Arr2Int} {r:Refut}
theorem tm_det{α:Type}{f:Nat→Option α}{Q:α→Prop}{a:α}(h:Tm f Q)(h':Tm f (·=a)):Q a:=by
 obtain⟨x,n,hx,h1⟩:=h
 obtain⟨y,m,hy,h2⟩:=h'
 have e1:=h1 (max n m) (Nat.le_max_left _ _)
 have e2:=h2 (max n m) (Nat.le_max_right _ _)
 rw[e1]at e2
 cases e2;subst hy;exact hx
def rg0(l:List RVar):List Arr2Int:=l.map fun x=>Arr2Int.mk 0 (if x.Ty=2 then x.Max else 0)
theorem rg0_len:(rg0 l).length=l.length:=by simp[rg0]
theorem rg0_get{k:Nat}(h:k<l.length):(rg0 l)[k]'(by rw[rg0_len];exact h)=Arr2Int.mk 0 (if l[k].Ty=2 then l[k].Max else 0):=by simp[rg0]
theorem wRanges_tm(h:l.length≤4398046511104):Tm (fun N=>wRanges N l) (·=rg0 l):=by
 unfold wRanges
 refine Tm.eq (a:=rg0 l) ?_ (Tm.some rfl)
 refine Tm.up l.length (fun k s=>s.2=(k:Int)∧s.1=(rg0 l).take k) ⟨rfl,rfl⟩ ?_
 rintro k hk ⟨s,i⟩ ⟨hi,hs⟩
 dsimp only at hi hs;subst hi;subst hs
 unfold wRanges_b1
 rcases Nat.lt_or_ge k l.length with hlt|hge
 · refine Tm.pos (by omega) (Tm.step (idx_n hlt) ?_)
   refine Tm.bind (Q:=(·=(rg0 l)[k]'(by rw[rg0_len];exact hlt))) ?_ fun a ha=>?_
   · rw[rg0_get hlt]
     by_cases h2:l[k].Ty=2
     · refine Tm.pos h2 (Tm.step (idx_n hlt) (Tm.some ?_));rw[if_pos h2]
     · refine Tm.neg h2 (Tm.some ?_);rw[if_neg h2]
   · subst ha
     dsimp only
     rw[apnd_ok (by simp[rg0_len];omega) (by decide)]
     refine Tm.some ⟨hlt,iw_n (by omega),?_⟩
     exact List.take_append_getElem (by rw[rg0_len];exact hlt)
 · refine Tm.neg (by omega) (Tm.some ?_)
   show _=_
   rw[List.take_of_length_le (by rw[rg0_len];omega)]
theorem vfirst_tm(h:l.length≤4398046511104):Tm (fun N=>vfirst N l) (·=rg0 l):=by
 unfold vfirst
 rw[mk1_ok (n:=l.length) rfl (by omega) (by decide)]
 simp only[Option.bind_some]
 refine Tm.eq (a:=rg0 l) ?_ (Tm.some rfl)
 refine Tm.up l.length (fun k s=>s.2=(k:Int)∧s.1.length=l.length∧∀j,j<l.length→s.1[j]?=some (if j<k then(rg0 l).getD j (Arr2Int.mk 0 0)else Arr2Int.mk 0 0)) ⟨rfl,by simp,fun j hj=>by simp[hj]⟩ ?_
 rintro k hk ⟨s,i⟩ ⟨hi,hsl,hs⟩
 dsimp only at hi hsl hs;subst hi
 unfold vfirst_b1
 dsimp only
 have hg:∀j (hj:j<l.length),(rg0 l).getD j (Arr2Int.mk 0 0)=Arr2Int.mk 0 (if l[j].Ty=2 then l[j].Max else 0):=fun j hj=>by
  rw[getD_n (by rw[rg0_len];exact hj),rg0_get hj]
 rcases Nat.lt_or_ge k l.length with hlt|hge
 · refine Tm.pos (by omega) (Tm.step (idx_n hlt) ?_)
   have hkk:=hs k hlt
   rw[if_neg (by omega)]at hkk
   by_cases h2:l[k].Ty=2
   · refine Tm.pos h2 (Tm.step (idx_get hkk) ?_)
     rw[upd1_i (n:=k) rfl (by omega)]
     refine Tm.some ⟨hlt,iw_n (by omega),by rw[List.length_set];exact hsl,fun j hj=>?_⟩
     rw[List.getElem?_set]
     by_cases e:k=j
     · subst e
       rw[if_pos rfl,if_pos (by omega),if_pos (by omega),hg k hlt,if_pos h2]
     · rw[if_neg e,hs j hj]
       by_cases g:j<k
       · rw[if_pos g,if_pos (by omega)]
       · rw[if_neg g,if_neg (by omega)]
   · refine Tm.neg h2 (Tm.some ⟨hlt,iw_n (by omega),hsl,fun j hj=>?_⟩)
     rw[hs j hj]
     by_cases e:j=k
     · subst e
       rw[if_neg (by omega),if_pos (by omega),hg j hlt,if_neg h2]
     · by_cases g:j<k
       · rw[if_pos g,if_pos (by omega)]
       · rw[if_neg g,if_neg (by omega)]
 · refine Tm.neg (by omega) (Tm.some ?_)
   show s=rg0 l
   apply List.ext_getElem?
   intro j
   rcases Nat.lt_or_ge j l.length with hj|hj
   · rw[hs j hj,if_pos (by omega),List.getElem?_eq_getElem (by rw[rg0_len];exact hj),getD_n (by rw[rg0_len];exact hj)]
   · rw[List.getElem?_eq_none (by omega),List.getElem?_eq_none (by rw[rg0_len];omega)]
theorem wShort_end(h:l.length≤4398046511104):Tm (fun N=>wShort N l c) (fun _=>True):=by
 unfold wShort
 refine Tm.bind (Q:=fun _=>True) ?_ fun o _=>?_
 · refine Tm.up l.length (fun k s=>s.2=(k:Int)) rfl ?_
   rintro k hk ⟨n,i⟩ hi
   dsimp only at hi;subst hi
   unfold wShort_b1
   dsimp only
   rcases Nat.lt_or_ge k l.length with hlt|hge
   · refine Tm.pos (by omega) (Tm.step (idx_n hlt) ?_)
     refine Tm.ite (fun _=>Tm.step (idx_n hlt) (Tm.ite (fun _=>Tm.some trivial) (fun _=>Tm.some ⟨hlt,iw_n (by omega)⟩))) (fun _=>Tm.some ⟨hlt,iw_n (by omega)⟩)
   · exact Tm.neg (by omega) (Tm.some trivial)
 · cases o with
   |inl n=>exact Tm.ite (fun _=>Tm.some trivial) (fun _=>Tm.some trivial)
   |inr z=>exact Tm.some trivial
def nulB(l:List RVar)(v:Int):Bool:=match l[v.toNat]?with
 |some x=>x.Nullable
 |none=>false
def nul(c:RClause)(l:List RVar)(v:Int):Bool:=decide (v∈c.Null)&&(decide (v∈c.NotNull)||!nulB l v)
theorem vcheck0(hk:r.Kind=0)(hv:ClOk c l)(hl:l.length≤10):Tm (fun N=>vcheck N l c r rg) (·=nul c l r.Var):=by
 have hb:Bg=9223372036854775807:=rfl
 have n1:=hv.nl.len;have n2:=hv.nn.len
 refine Tm.succ ?_
 show Tm (fun N=>vcheck_step N (vcheck N) l c r rg) _
 unfold vcheck_step nul
 refine Tm.pos hk ((containsOf_tm (by omega)).eq ?_)
 by_cases h1:r.Var∈c.Null
 · rw[decide_eq_true h1]
   refine Tm.pos rfl ((containsOf_tm (by omega)).eq ?_)
   by_cases h2:r.Var∈c.NotNull
   · rw[decide_eq_true h2];exact Tm.pos rfl (Tm.some rfl)
   · rw[decide_eq_false h2]
     obtain⟨k,e,hk⟩:=var_n (hv.nl.bd _ h1)
     refine Tm.neg (by simp) ?_
     rw[e]
     refine Tm.step (idx_n hk) (Tm.some ?_)
     unfold nulB
     rw[Int.toNat_natCast,List.getElem?_eq_getElem hk];rfl
 · rw[decide_eq_false h1];exact Tm.neg (by simp) (Tm.some rfl)
theorem txts_lms(hd:DmOk l)(hv:ClOk c l)(hs:SmC c):Lms (txtsOf l c rg)∧(txtsOf l c rg).Different.length≤98∧(txtsOf l c rg).Min.length≤19:=by
 have hl:=hd.len
 have h1:=tvs_len (l:=l) (c:=c)
 have h2:=hv.nn.len
 have h3:=hs.ts;have h4:=hs.sm;have h5:=hs.df
 refine⟨⟨?_,?_,?_,?_,?_⟩,?_,?_⟩<;>(show(List.map _ _).length≤_;rw[List.length_map];omega)
theorem vcheck1(hk:r.Kind=1)(hd:DmOk l)(hv:ClOk c l)(hs:SmC c)(hr:RgOk l rg):Tm (fun N=>vcheck N l c r rg) (fun b=>b=true↔∀x,sat (txtsOf l c rg) x=false):=by
 refine Tm.succ ?_
 show Tm (fun N=>vcheck_step N (vcheck N) l c r rg) _
 unfold vcheck_step
 obtain⟨g1,g2,g3⟩:=txts_lms (rg:=rg) hd hv hs
 refine Tm.neg (by omega) (Tm.pos hk ((vTexts_tm hv hs hr hd.len).eq ((tSolve_tm (txts_okP hd hv hr) g1 g2 g3).bind fun z hz=>Tm.some ?_)))
 cases e:z.2 with
 |true=>exact⟨fun h=>by simp at h,fun h=>by have:=hz.1 e;rw[h]at this;cases this⟩
 |false=>exact⟨fun _=>(hz.2 e).2,fun _=>rfl⟩
theorem vcheckX(h0:r.Kind≠0)(h1:r.Kind≠1)(h2:r.Kind≠2)(h3:r.Kind≠3):Tm (fun N=>vcheck N l c r rg) (·=false):=by
 refine Tm.succ ?_
 show Tm (fun N=>vcheck_step N (vcheck N) l c r rg) _
 unfold vcheck_step
 exact Tm.neg h0 (Tm.neg h1 (Tm.neg h2 (Tm.neg h3 (Tm.some rfl))))
theorem clonePair_tm{s:List Arr2Int}(h:s.length≤1000):Tm (fun N=>clonePair N s) (·=s):=by
 unfold clonePair
 rw[apnd_ok (by simp;omega) (by decide)]
 exact Tm.some rfl
def shortR(rg:List Arr2Int)(k:Nat)(a:Int):List Arr2Int:=rg.set k (Arr2Int.mk (rg.getD k (Arr2Int.mk 0 0)).e0 a)
def longR(rg:List Arr2Int)(k:Nat)(a:Int):List Arr2Int:=rg.set k (Arr2Int.mk (a+1) (rg.getD k (Arr2Int.mk 0 0)).e1)
theorem shortR_ok(hr:RgOk l rg){k:Nat}{a:Int}(ha:0≤a∧a≤16):RgOk l (shortR rg k a):=by
 refine⟨by unfold shortR;rw[List.length_set];exact hr.len,fun r h=>?_⟩
 unfold shortR at h
 rcases Nat.lt_or_ge k rg.length with hk|hk
 · rcases List.mem_or_eq_of_mem_set h with h|h
   · exact hr.bd r h
   · rw[h,getD_n hk]
     exact⟨(hr.bd _ (List.getElem_mem hk)).1,ha⟩
 · rw[List.set_eq_of_length_le hk]at h;exact hr.bd r h
theorem longR_ok(hr:RgOk l rg){k:Nat}{a:Int}(ha:0≤a∧a<16):RgOk l (longR rg k a):=by
 refine⟨by unfold longR;rw[List.length_set];exact hr.len,fun r h=>?_⟩
 unfold longR at h
 rcases Nat.lt_or_ge k rg.length with hk|hk
 · rcases List.mem_or_eq_of_mem_set h with h|h
   · exact hr.bd r h
   · rw[h,getD_n hk]
     exact⟨⟨by dsimp only;omega,by dsimp only;omega⟩,(hr.bd _ (List.getElem_mem hk)).2⟩
 · rw[List.set_eq_of_length_le hk]at h;exact hr.bd r h
theorem vcheck3(hk:r.Kind=3){k:Nat}(hkl:k<l.length)(ev:r.Var=(k:Int))(hm:r.Var∈c.NotNull)(h2:l[k].Ty=2)(hv:ClOk c l)(hd:DmOk l)(hr:RgOk l rg)(ha0:(rg.getD k (Arr2Int.mk 0 0)).e0≤r.At)(ha1:r.At<(rg.getD k (Arr2Int.mk 0 0)).e1)
 {p q:Refut}(hc:r.Children=[p,q]){b1 b2:Bool}(hp:Tm (fun N=>vcheck N l c p (shortR rg k r.At)) (·=b1))(hq:Tm (fun N=>vcheck N l c q (longR rg k r.At)) (·=b2)):Tm (fun N=>vcheck N l c r rg) (·=(b1&&b2)):=by
 have hb:Bg=9223372036854775807:=rfl
 have n2:=hv.nn.len;have hl:=hd.len
 have hrl:=hr.len
 have hkr:k<rg.length:=by omega
 have hbd:=hr.bd _ (List.getElem_mem hkr)
 rw[getD_n hkr]at ha0 ha1
 refine Tm.succ ?_
 show Tm (fun N=>vcheck_step N (vcheck N) l c r rg) _
 unfold vcheck_step
 refine Tm.neg (by omega) (Tm.neg (by omega) (Tm.neg (by omega) (Tm.pos hk ?_)))
 refine Tm.bind (Q:=(·=false)) ?_ fun b hb'=>?_
 · refine(containsOf_tm (by omega)).eq ?_
   rw[decide_eq_true hm]
   refine Tm.neg (by simp) ?_
   rw[ev]
   refine Tm.step (idx_n hkl) (Tm.neg (by simp[h2]) (Tm.step (idx_n hkr) (Tm.neg (by omega) (Tm.step (idx_n hkr) (Tm.neg (by omega) (Tm.some ?_))))))
   rw[hc];rfl
 · subst hb'
   refine Tm.neg (by simp) ((clonePair_tm (by omega)).eq ((clonePair_tm (by omega)).eq ?_))
   have e1:iw (r.At+1)=r.At+1:=by rw[iw_eq]<;>omega
   rw[ev,e1]
   refine Tm.step (idx_n hkr) ?_
   rw[upd1_i (n:=k) rfl hkr]
   simp only[Option.bind_some]
   refine Tm.step (idx_n hkr) ?_
   rw[upd1_i (n:=k) rfl hkr]
   simp only[Option.bind_some]
   unfold shortR at hp;unfold longR at hq
   rw[getD_n hkr]at hp hq
   rw[hc]
   refine Tm.step (a:=p) rfl (hp.eq ?_)
   cases b1 with
   |false=>exact Tm.neg (by simp) (Tm.some rfl)
   |true=>exact Tm.pos rfl (Tm.step (a:=q) rfl (hq.eq (Tm.some rfl)))
theorem sat_mono(hd:DmOk l)(hv:ClOk c l)(hr:RgOk l rg)(hr':RgOk l rg')(h:∀(k:Nat) (h1:k<rg.length) (h2:k<rg'.length),rg[k].e0≤rg'[k].e0∧rg'[k].e1≤rg[k].e1){x:List (List UInt8)}(hx:sat (txtsOf l c rg') x=true):sat (txtsOf l c rg) x=true:=by
 obtain⟨g1,g2,g3⟩:=sat_iff.1 hx
 have e1:(txtsOf l c rg').Min.length=(tvs l c).length:=List.length_map _
 refine sat_iff.2 ⟨by rw[g1,e1];exact(List.length_map _).symm,fun i hi=>?_,g3⟩
 obtain⟨⟨h1,h2⟩,h3⟩:=g2 i hi
 have hi':i<(tvs l c).length:=by rw[←e1,←g1];exact hi
 obtain⟨k,hk,ek,_⟩:=tvs_at hv (List.getElem_mem hi')
 have q0:∀rg:List Arr2Int,(txtsOf l c rg).Min.getD i 0=e0Of rg (tvs l c)[i]:=fun rg=>by
  show((tvs l c).map (e0Of rg)).getD i 0=_
  rw[getD_n (by rw[List.length_map];exact hi'),List.getElem_map]
 have q1:∀rg:List Arr2Int,(txtsOf l c rg).Max.getD i 0=hiOf l rg (tvs l c)[i].toNat:=fun rg=>by
  show((tvs l c).map fun v=>hiOf l rg v.toNat).getD i 0=_
  rw[getD_n (by rw[List.length_map];exact hi'),List.getElem_map]
 have hk':(tvs l c)[i].toNat=k:=by rw[ek];exact Int.toNat_natCast k
 rw[q0,ek,e0Of_at hr' hk]at h1
 rw[q1,hk',hiOf_at hr' hk]at h2
 obtain⟨m1,m2⟩:=h k (by rw[hr.len];exact hk) (by rw[hr'.len];exact hk)
 refine⟨⟨?_,?_⟩,h3⟩
 · rw[q0,ek,e0Of_at hr hk];omega
 · rw[q1,hk',hiOf_at hr hk]
   rcases imin_or (rg'[k]'(by rw[hr'.len];exact hk)).e1 l[k].Max with⟨u1,u2⟩|⟨u1,u2⟩<;>rcases imin_or (rg[k]'(by rw[hr.len];exact hk)).e1 l[k].Max with⟨u3,u4⟩|⟨u3,u4⟩<;>omega
theorem short_le{k:Nat}{a:Int}(h:a≤(rg.getD k (Arr2Int.mk 0 0)).e1):∀(j:Nat) (h1:j<rg.length) (h2:j<(shortR rg k a).length),rg[j].e0≤(shortR rg k a)[j].e0∧(shortR rg k a)[j].e1≤rg[j].e1:=by
 intro j h1 h2
 simp only[shortR,List.getElem_set]
 split
 · rename_i e;subst e
   rw[getD_n h1]at h⊢
   exact⟨Int.le_refl _,h⟩
 · exact⟨Int.le_refl _,Int.le_refl _⟩
theorem long_le{k:Nat}{a:Int}(h:(rg.getD k (Arr2Int.mk 0 0)).e0≤a+1):∀(j:Nat) (h1:j<rg.length) (h2:j<(longR rg k a).length),rg[j].e0≤(longR rg k a)[j].e0∧(longR rg k a)[j].e1≤rg[j].e1:=by
 intro j h1 h2
 simp only[longR,List.getElem_set]
 split
 · rename_i e;subst e
   rw[getD_n h1]at h⊢
   exact⟨h,Int.le_refl _⟩
 · exact⟨Int.le_refl _,Int.le_refl _⟩
theorem lawSplit_tm(hl:l.length≤4398046511104)(h:LimX (RCase.mk l c (rg0 l) []))(hr:InR r):Tm (fun N=>lawSplit N l c r) (·=true):=by
 unfold lawSplit
 refine(wRanges_tm hl).eq ?_
 refine Tm.bind (Q:=fun b=>b=false→Rgt (RCase.mk l c (rg0 l) [])∧r.Kind≠2∧r.Kind≠3∧Tm (fun N=>vcheck N l c r (rg0 l)) (·=true)) ?_ fun b hb'=>?_
 · refine awake_tm.bind fun r1 h1=>?_
   subst h1
   refine Tm.neg (by simp) ((wShort_end hl).bind fun r2 _=>?_)
   cases r2 with
   |false=>exact Tm.pos rfl (Tm.some fun e=>by simp at e)
   |true=>
    refine Tm.neg (by simp) ((lright_tm h).bind fun r3 h3=>?_)
    cases r3 with
    |false=>exact Tm.pos rfl (Tm.some fun e=>by simp at e)
    |true=>
     have hR:=h3 rfl
     have hd:DmOk l:=hR.d
     have hv:ClOk c l:=hR.v
     have hs:SmC c:=hR.s
     have hg:RgOk l (rg0 l):=hR.r
     refine Tm.neg (by simp) ((wSmall_end hr).bind fun r4 _=>?_)
     cases r4 with
     |false=>exact Tm.pos rfl (Tm.some fun e=>by simp at e)
     |true=>
      refine Tm.neg (by simp) ?_
      by_cases k2:r.Kind=2
      · exact Tm.pos k2 (Tm.some fun e=>by simp at e)
      · refine Tm.neg k2 ?_
        by_cases k3:r.Kind=3
        · exact Tm.pos k3 (Tm.some fun e=>by simp at e)
        · refine Tm.neg k3 ?_
          have key:∃b,Tm (fun N=>vcheck N l c r (rg0 l)) (·=b):=by
           by_cases k0:r.Kind=0
           · exact⟨_,vcheck0 k0 hv hd.len⟩
           · by_cases k1:r.Kind=1
             · obtain⟨a,K,ha,hK⟩:=vcheck1 k1 hd hv hs hg
               exact⟨a,a,K,rfl,hK⟩
             · exact⟨_,vcheckX k0 k1 k2 k3⟩
          obtain⟨b,hb⟩:=key
          unfold vCheck
          refine Tm.bind (Q:=(·=b)) ((vfirst_tm hl).eq (hb.eq (Tm.some rfl))) fun b' e=>Tm.some fun e'=>⟨hR,k2,k3,?_⟩
          subst e
          cases b' with
          |false=>simp at e'
          |true=>exact hb
 · cases b with
   |true=>exact Tm.pos rfl (awake_end rfl)
   |false=>
    obtain⟨hR,k2,k3,hch⟩:=hb' rfl
    have hd:DmOk l:=hR.d
    have hv:ClOk c l:=hR.v
    have hs:SmC c:=hR.s
    have hg:RgOk l (rg0 l):=hR.r
    have hll:=hd.len
    have hnn:=hv.nn.len
    refine Tm.neg (by simp) ?_
    refine Tm.bind (Q:=fun o=>o=.inl ()) ?_ fun o ho=>by subst ho;exact Tm.some rfl
    refine Tm.up c.NotNull.length (fun k s=>s=(k:Int)) rfl ?_
    rintro j hj _ rfl
    unfold lawSplit_b1
    dsimp only
    rcases Nat.lt_or_ge j c.NotNull.length with hlt|hge
    · refine Tm.pos (by omega) (Tm.step (idx_n hlt) ?_)
      have hmem:=List.getElem_mem hlt
      obtain⟨k,ek,hk⟩:=var_n (hv.nn.bd _ hmem)
      refine Tm.bind (Q:=(·=false)) ?_ fun b hb=>by subst hb;exact Tm.neg (by simp) (Tm.some ⟨hlt,iw_n (by omega)⟩)
      rw[ek]
      refine Tm.step (idx_n hk) ?_
      by_cases t2:l[k].Ty=2
      · refine Tm.pos t2 (Tm.step (idx_n hk) ?_)
        by_cases m0:l[k].Max>0
        · refine Tm.pos m0 ?_
          have hm16:l[k].Max≤16:=by
           rcases hd.ty _ (List.getElem_mem hk)with⟨e,_⟩|⟨_,e⟩<;>omega
          have hgk:(rg0 l).getD k (Arr2Int.mk 0 0)=Arr2Int.mk 0 l[k].Max:=by
           rw[getD_n (by rw[rg0_len];exact hk),rg0_get hk,if_pos t2]
          have hs1:=shortR_ok (k:=k) (a:=0) hg (by omega)
          have hs2:=longR_ok (k:=k) (a:=0) hg (by omega)
          have part:∀rg',RgOk l rg'→(∀(j:Nat) (h1:j<(rg0 l).length) (h2:j<rg'.length),(rg0 l)[j].e0≤rg'[j].e0∧rg'[j].e1≤(rg0 l)[j].e1)→Tm (fun N=>vcheck N l c r rg') (·=true):=by
           intro rg' hg' hle
           by_cases k0:r.Kind=0
           · have:=tm_det (vcheck0 (rg:=rg0 l) k0 hv hll) hch
             exact(vcheck0 k0 hv hll).mono fun b hb=>hb.trans this.symm
           · by_cases k1:r.Kind=1
             · have h1:=(tm_det (vcheck1 (rg:=rg0 l) k1 hd hv hs hg) hch).1 rfl
               refine(vcheck1 k1 hd hv hs hg').mono fun b hb=>hb.2 fun x=>?_
               cases e:sat (txtsOf l c rg') x with
               |false=>rfl
               |true=>have:=sat_mono hd hv hg hg' hle e;rw[h1 x]at this;cases this
             · have:=tm_det (vcheckX (l:=l) (c:=c) (rg:=rg0 l) k0 k1 k2 k3) hch
               cases this
          unfold vCheck
          refine Tm.bind (Q:=(·=true)) ((vfirst_tm hl).eq (Tm.eq (a:=true) (vcheck3 (r:=Refut.mk 3 (k:Int) 0 (Proof.mk [] [] (Big.mk false []) []) [r,r]) rfl hk rfl (by show(k:Int)∈_;rw[←ek];exact hmem) t2 hv hd hg (by rw[hgk];exact Int.le_refl _) (by rw[hgk];exact m0) rfl (part _ hs1 (short_le (by rw[hgk];dsimp only;omega))) (part _ hs2 (long_le (by rw[hgk];dsimp only;omega)))) (Tm.some rfl))) fun b e=>by subst e;exact Tm.some rfl
        · exact Tm.neg m0 (Tm.some rfl)
      · exact Tm.neg t2 (Tm.some rfl)
    · exact Tm.neg (by omega) (Tm.some rfl)
end
end Go.D
set_option maxRecDepth 100000
namespace Go.Proofs.YtcakdidcpoolcaaGreatDoor.Q25
open Go Go.ChangeShapes Go.WideShapes Go.ChangeAt Go.RowKit Go.X Go.D
section
variable {H:Type} {enc:TypeId×Value→H} {W:World}
def G3(x:Int):Prop:=(Lit.int .i64 x).wf=true
theorem o3:∀N,Opn enc Tryz.prog W N (rInt .i64) 3 G3:=fun N=>Opn.int Tryz.underlying3
def G2(x:Int):Prop:=(Lit.int .i64 x).wf=true
theorem o2:∀N,Opn enc Tryz.prog W N (rInt .i64) 2 G2:=fun N=>Opn.int Tryz.underlying2
def G4(_:Bool):Prop:=True
theorem o4:∀N,Opn enc Tryz.prog W N rBool 4 G4:=fun N=>Opn.bool Tryz.underlying4
def G83(x:RVar):Prop:=G3 x.Ty∧G2 x.Low∧G2 x.High∧G3 x.Max∧G4 x.Nullable∧True
theorem o83:∀N,Opn enc Tryz.prog W N rRVar 83 G83:=by
 intro N fuel hf cs x h
 obtain⟨hl,n,hn,hfs⟩:=trod_fields Tryz.underlying83 h
 have hl:cs.length=5:=hl
 match cs,hl with
 |[c0,c1,c2,c3,c4],_=>
  obtain⟨y0,h0⟩:=hfs 0 _ rfl
  obtain⟨a0,r0,g0⟩:=o3 n n (Nat.le_refl _) _ _ h0
  have r0:(rInt .i64).R (HW W) [c0] a0:=r0
  have r0:[c0]=[.int .i64 a0]:=r0
  cases r0
  obtain⟨y1,h1⟩:=hfs 1 _ rfl
  obtain⟨a1,r1,g1⟩:=o2 n n (Nat.le_refl _) _ _ h1
  have r1:(rInt .i64).R (HW W) [c1] a1:=r1
  have r1:[c1]=[.int .i64 a1]:=r1
  cases r1
  obtain⟨y2,h2⟩:=hfs 2 _ rfl
  obtain⟨a2,r2,g2⟩:=o2 n n (Nat.le_refl _) _ _ h2
  have r2:(rInt .i64).R (HW W) [c2] a2:=r2
  have r2:[c2]=[.int .i64 a2]:=r2
  cases r2
  obtain⟨y3,h3⟩:=hfs 3 _ rfl
  obtain⟨a3,r3,g3⟩:=o3 n n (Nat.le_refl _) _ _ h3
  have r3:(rInt .i64).R (HW W) [c3] a3:=r3
  have r3:[c3]=[.int .i64 a3]:=r3
  cases r3
  obtain⟨y4,h4⟩:=hfs 4 _ rfl
  obtain⟨a4,r4,g4⟩:=o4 n n (Nat.le_refl _) _ _ h4
  have r4:rBool.R (HW W) [c4] a4:=r4
  have r4:[c4]=[.bool a4]:=r4
  cases r4
  exact⟨⟨a0,a1,a2,a3,a4⟩,⟨rfl,trivial⟩,⟨g0,g1,g2,g3,g4,trivial⟩⟩
def G23(xs:(List Int)):Prop:=xs.length≤9223372036854775807∧∀x∈xs,G3 x
def G87(x:Coef):Prop:=G3 x.Var∧G2 x.N∧True
theorem o87:∀N,Opn enc Tryz.prog W N rCoef 87 G87:=by
 intro N fuel hf cs x h
 obtain⟨hl,n,hn,hfs⟩:=trod_fields Tryz.underlying87 h
 have hl:cs.length=2:=hl
 match cs,hl with
 |[c0,c1],_=>
  obtain⟨y0,h0⟩:=hfs 0 _ rfl
  obtain⟨a0,r0,g0⟩:=o3 n n (Nat.le_refl _) _ _ h0
  have r0:(rInt .i64).R (HW W) [c0] a0:=r0
  have r0:[c0]=[.int .i64 a0]:=r0
  cases r0
  obtain⟨y1,h1⟩:=hfs 1 _ rfl
  obtain⟨a1,r1,g1⟩:=o2 n n (Nat.le_refl _) _ _ h1
  have r1:(rInt .i64).R (HW W) [c1] a1:=r1
  have r1:[c1]=[.int .i64 a1]:=r1
  cases r1
  exact⟨⟨a0,a1⟩,⟨rfl,trivial⟩,⟨g0,g1,trivial⟩⟩
def G88(xs:(List Coef)):Prop:=xs.length≤9223372036854775807∧∀x∈xs,G87 x
theorem o88:∀N,Opn enc Tryz.prog W N (rSl rCoef) 88 G88:=fun N=>Opn.less (Opn.slice Tryz.underlying88 (by kernel_rfl) rfl (o87 N))
def G90(x:Linear):Prop:=G2 x.Const∧G88 x.Coefs∧True
theorem o90:∀N,Opn enc Tryz.prog W N rLinear 90 G90:=by
 intro N fuel hf cs x h
 obtain⟨hl,n,hn,hfs⟩:=trod_fields Tryz.underlying90 h
 have hl:cs.length=2:=hl
 match cs,hl with
 |[c0,c1],_=>
  obtain⟨y0,h0⟩:=hfs 0 _ rfl
  obtain⟨a0,r0,g0⟩:=o2 n n (Nat.le_refl _) _ _ h0
  have r0:(rInt .i64).R (HW W) [c0] a0:=r0
  have r0:[c0]=[.int .i64 a0]:=r0
  cases r0
  obtain⟨y1,h1⟩:=hfs 1 _ rfl
  obtain⟨a1,r1,g1⟩:=o88 n n (Nat.le_refl _) _ _ h1
  have r1:(rSl rCoef).R (HW W) [c1] a1:=r1
  obtain⟨v1,e1,k1⟩:=r1
  cases e1
  exact⟨⟨a0,a1⟩,⟨_,rfl,k1,trivial⟩,⟨g0,g1,trivial⟩⟩
def G104(x:RAux):Prop:=G90 x.Of∧G2 x.By∧G3 x.Text∧True
theorem o104:∀N,Opn enc Tryz.prog W N rRAux 104 G104:=by
 intro N fuel hf cs x h
 obtain⟨hl,n,hn,hfs⟩:=trod_fields Tryz.underlying104 h
 have hl:cs.length=4:=hl
 match cs,hl with
 |[c0,c1,c2,c3],_=>
  obtain⟨y0,h0⟩:=hfs 0 _ rfl
  obtain⟨a0,r0,g0⟩:=o90 n n (Nat.le_refl _) _ _ h0
  have r0:rLinear.R (HW W) [c0,c1] a0:=r0
  obtain⟨v0_0,e0,k0_0,-⟩:=r0
  cases e0
  obtain⟨y1,h1⟩:=hfs 1 _ rfl
  obtain⟨a1,r1,g1⟩:=o2 n n (Nat.le_refl _) _ _ h1
  have r1:(rInt .i64).R (HW W) [c2] a1:=r1
  have r1:[c2]=[.int .i64 a1]:=r1
  cases r1
  obtain⟨y2,h2⟩:=hfs 2 _ rfl
  obtain⟨a2,r2,g2⟩:=o3 n n (Nat.le_refl _) _ _ h2
  have r2:(rInt .i64).R (HW W) [c3] a2:=r2
  have r2:[c3]=[.int .i64 a2]:=r2
  cases r2
  exact⟨⟨a0,a1,a2⟩,⟨_,rfl,k0_0,trivial⟩,⟨g0,g1,g2,trivial⟩⟩
def G24(xs:(List RAux)):Prop:=xs.length≤9223372036854775807∧∀x∈xs,G104 x
def G92(x:Constraint):Prop:=G90 x.Linear∧G4 x.Equal∧True
theorem o92:∀N,Opn enc Tryz.prog W N rConstraint 92 G92:=by
 intro N fuel hf cs x h
 obtain⟨hl,n,hn,hfs⟩:=trod_fields Tryz.underlying92 h
 have hl:cs.length=3:=hl
 match cs,hl with
 |[c0,c1,c2],_=>
  obtain⟨y0,h0⟩:=hfs 0 _ rfl
  obtain⟨a0,r0,g0⟩:=o90 n n (Nat.le_refl _) _ _ h0
  have r0:rLinear.R (HW W) [c0,c1] a0:=r0
  obtain⟨v0_0,e0,k0_0,-⟩:=r0
  cases e0
  obtain⟨y1,h1⟩:=hfs 1 _ rfl
  obtain⟨a1,r1,g1⟩:=o4 n n (Nat.le_refl _) _ _ h1
  have r1:rBool.R (HW W) [c2] a1:=r1
  have r1:[c2]=[.bool a1]:=r1
  cases r1
  exact⟨⟨a0,a1⟩,⟨_,rfl,k0_0,trivial⟩,⟨g0,g1,trivial⟩⟩
def G25(xs:(List Constraint)):Prop:=xs.length≤9223372036854775807∧∀x∈xs,G92 x
def G9(s:List UInt8):Prop:=s.length≤9223372036854775807
theorem o9:∀N,Opn enc Tryz.prog W N rStr 9 G9:=fun N=>Opn.strL Tryz.underlying9
def G112(x:TTest):Prop:=G3 x.Var∧G3 x.Kind∧G4 x.Negated∧G9 x.Text∧True
theorem o112:∀N,Opn enc Tryz.prog W N rTTest 112 G112:=by
 intro N fuel hf cs x h
 obtain⟨hl,n,hn,hfs⟩:=trod_fields Tryz.underlying112 h
 have hl:cs.length=4:=hl
 match cs,hl with
 |[c0,c1,c2,c3],_=>
  obtain⟨y0,h0⟩:=hfs 0 _ rfl
  obtain⟨a0,r0,g0⟩:=o3 n n (Nat.le_refl _) _ _ h0
  have r0:(rInt .i64).R (HW W) [c0] a0:=r0
  have r0:[c0]=[.int .i64 a0]:=r0
  cases r0
  obtain⟨y1,h1⟩:=hfs 1 _ rfl
  obtain⟨a1,r1,g1⟩:=o3 n n (Nat.le_refl _) _ _ h1
  have r1:(rInt .i64).R (HW W) [c1] a1:=r1
  have r1:[c1]=[.int .i64 a1]:=r1
  cases r1
  obtain⟨y2,h2⟩:=hfs 2 _ rfl
  obtain⟨a2,r2,g2⟩:=o4 n n (Nat.le_refl _) _ _ h2
  have r2:rBool.R (HW W) [c2] a2:=r2
  have r2:[c2]=[.bool a2]:=r2
  cases r2
  obtain⟨y3,h3⟩:=hfs 3 _ rfl
  obtain⟨a3,r3,g3⟩:=o9 n n (Nat.le_refl _) _ _ h3
  have r3:rStr.R (HW W) [c3] a3:=r3
  have r3:[c3]=[.string (s8 a3)]:=r3
  cases r3
  exact⟨⟨a0,a1,a2,a3⟩,⟨rfl,trivial⟩,⟨g0,g1,g2,g3,trivial⟩⟩
def G26(xs:(List TTest)):Prop:=xs.length≤9223372036854775807∧∀x∈xs,G112 x
def G54(x:Arr2Int):Prop:=G3 x.e0∧G3 x.e1∧True
theorem o54:∀N,Opn enc Tryz.prog W N rArr2Int 54 G54:=by
 intro N fuel hf cs x h
 obtain⟨hl,n,hn,hfs⟩:=trod_elems Tryz.underlying54 h
 have hl:cs.length=2:=hl
 match cs,hl with
 |[c0,c1],_=>
  obtain⟨y0,h0⟩:=hfs 0 (by decide)
  obtain⟨a0,r0,g0⟩:=o3 n n (Nat.le_refl _) _ _ h0
  have r0:(rInt .i64).R (HW W) [c0] a0:=r0
  have r0:[c0]=[.int .i64 a0]:=r0
  cases r0
  obtain⟨y1,h1⟩:=hfs 1 (by decide)
  obtain⟨a1,r1,g1⟩:=o3 n n (Nat.le_refl _) _ _ h1
  have r1:(rInt .i64).R (HW W) [c1] a1:=r1
  have r1:[c1]=[.int .i64 a1]:=r1
  cases r1
  exact⟨⟨a0,a1⟩,⟨rfl,trivial⟩,⟨g0,g1,trivial⟩⟩
def G27(xs:(List Arr2Int)):Prop:=xs.length≤9223372036854775807∧∀x∈xs,G54 x
def G29(x:RClause):Prop:=G23 x.Null∧G23 x.NotNull∧G24 x.Auxiliary∧G25 x.Ints∧G26 x.Tests∧G27 x.Same∧G27 x.Different∧True
def G177(x:Int):Prop:=(Lit.int .u32 x).wf=true
theorem o177:∀N,Opn enc Tryz.prog W N (rInt .u32) 177 G177:=fun N=>Opn.int Tryz.underlying177
def G55(xs:(List Int)):Prop:=xs.length≤9223372036854775807∧∀x∈xs,G177 x
theorem o55:∀N,Opn enc Tryz.prog W N (rSl (rInt .u32)) 55 G55:=fun N=>Opn.less (Opn.slice Tryz.underlying55 (by kernel_rfl) rfl (o177 N))
def G57(x:Big):Prop:=G4 x.Negative∧G55 x.Digits∧True
theorem o57:∀N,Opn enc Tryz.prog W N rBig 57 G57:=by
 intro N fuel hf cs x h
 obtain⟨hl,n,hn,hfs⟩:=trod_fields Tryz.underlying57 h
 have hl:cs.length=2:=hl
 match cs,hl with
 |[c0,c1],_=>
  obtain⟨y0,h0⟩:=hfs 0 _ rfl
  obtain⟨a0,r0,g0⟩:=o4 n n (Nat.le_refl _) _ _ h0
  have r0:rBool.R (HW W) [c0] a0:=r0
  have r0:[c0]=[.bool a0]:=r0
  cases r0
  obtain⟨y1,h1⟩:=hfs 1 _ rfl
  obtain⟨a1,r1,g1⟩:=o55 n n (Nat.le_refl _) _ _ h1
  have r1:(rSl (rInt .u32)).R (HW W) [c1] a1:=r1
  obtain⟨v1,e1,k1⟩:=r1
  cases e1
  exact⟨⟨a0,a1⟩,⟨_,rfl,k1,trivial⟩,⟨g0,g1,trivial⟩⟩
def G94(x:Use):Prop:=G3 x.Index∧G57 x.N∧True
theorem o94:∀N,Opn enc Tryz.prog W N rUse 94 G94:=by
 intro N fuel hf cs x h
 obtain⟨hl,n,hn,hfs⟩:=trod_fields Tryz.underlying94 h
 have hl:cs.length=3:=hl
 match cs,hl with
 |[c0,c1,c2],_=>
  obtain⟨y0,h0⟩:=hfs 0 _ rfl
  obtain⟨a0,r0,g0⟩:=o3 n n (Nat.le_refl _) _ _ h0
  have r0:(rInt .i64).R (HW W) [c0] a0:=r0
  have r0:[c0]=[.int .i64 a0]:=r0
  cases r0
  obtain⟨y1,h1⟩:=hfs 1 _ rfl
  obtain⟨a1,r1,g1⟩:=o57 n n (Nat.le_refl _) _ _ h1
  have r1:rBig.R (HW W) [c1,c2] a1:=r1
  obtain⟨v1_0,e1,k1_0,-⟩:=r1
  cases e1
  exact⟨⟨a0,a1⟩,⟨_,rfl,k1_0,trivial⟩,⟨g0,g1,trivial⟩⟩
def G95(xs:(List Use)):Prop:=xs.length≤9223372036854775807∧∀x∈xs,G94 x
theorem o95:∀N,Opn enc Tryz.prog W N (rSl rUse) 95 G95:=fun N=>Opn.less (Opn.slice Tryz.underlying95 (by kernel_rfl) rfl (o94 N))
def G97(x:Step):Prop:=G95 x.Uses∧G57 x.Divisor∧True
theorem o97:∀N,Opn enc Tryz.prog W N rStep 97 G97:=by
 intro N fuel hf cs x h
 obtain⟨hl,n,hn,hfs⟩:=trod_fields Tryz.underlying97 h
 have hl:cs.length=3:=hl
 match cs,hl with
 |[c0,c1,c2],_=>
  obtain⟨y0,h0⟩:=hfs 0 _ rfl
  obtain⟨a0,r0,g0⟩:=o95 n n (Nat.le_refl _) _ _ h0
  have r0:(rSl rUse).R (HW W) [c0] a0:=r0
  obtain⟨v0,e0,k0⟩:=r0
  cases e0
  obtain⟨y1,h1⟩:=hfs 1 _ rfl
  obtain⟨a1,r1,g1⟩:=o57 n n (Nat.le_refl _) _ _ h1
  have r1:rBig.R (HW W) [c1,c2] a1:=r1
  obtain⟨v1_0,e1,k1_0,-⟩:=r1
  cases e1
  exact⟨⟨a0,a1⟩,⟨_,_,rfl,k0,k1_0,trivial⟩,⟨g0,g1,trivial⟩⟩
def G51(xs:(List Big)):Prop:=xs.length≤9223372036854775807∧∀x∈xs,G57 x
theorem o51:∀N,Opn enc Tryz.prog W N (rSl rBig) 51 G51:=fun N=>Opn.less (Opn.slice Tryz.underlying51 (by kernel_rfl) rfl (o57 N))
theorem bk_one(d:DataW H):1≤Rows.uptoBulk d:=by
 cases d with
 |lit l=>cases l<;>simp[Rows.uptoBulk]
 |_=>simp[Rows.uptoBulk]
theorem bk_all:∀l:List (DataW H),Rows.uptoBulkAll l=(l.map Rows.uptoBulk).sum
 |[]=>rfl
 |d::r=>by simp only[Rows.uptoBulkAll,bk_all r,List.map_cons,List.sum_cons]
theorem bk_len:∀l:List (DataW H),l.length≤Rows.uptoBulkAll l
 |[]=>Nat.zero_le _
 |d::r=>by have:=bk_one d;have:=bk_len r;simp only[Rows.uptoBulkAll,List.length_cons];omega
theorem slT_len{α:Type}{T:α→DataW H→Prop}{xs:List α}{d:DataW H}(h:SlT T xs d):xs.length≤Rows.uptoBulk d:=by
 rcases h with⟨_,rfl⟩|⟨es,sp,rfl,hl,_⟩
 · simp
 · have:=bk_len es
   simp only[Rows.uptoBulk];omega
theorem slT_sum{α:Type}{B:α→Nat}{xs:List α}{d:DataW H}(h:SlT (fun x y=>B x≤Rows.uptoBulk y) xs d):(xs.map B).sum≤Rows.uptoBulk d:=by
 rcases h with⟨_,rfl⟩|⟨es,sp,rfl,hl,hT⟩
 · simp
 · have:=sum_le hl hT
   rw[←bk_all]at this
   simp only[Rows.uptoBulk];omega
theorem bkPs_sum:∀l:List Proof,bkPs l=(l.map bkP).sum
 |[]=>rfl
 |c::r=>by simp only[bkPs,bkPs_sum r,List.map_cons,List.sum_cons]
theorem bkRs_sum:∀l:List Refut,bkRs l=(l.map bkR).sum
 |[]=>rfl
 |c::r=>by simp only[bkRs,bkRs_sum r,List.map_cons,List.sum_cons]
theorem oSteps:∀N,OpnT enc Tryz.prog W N (rSl rStep) 67 (fun xs=>xs.length≤9223372036854775807∧∀x∈xs,G97 x) (SlT fun _ _=>True):=fun N=>OpnT.less (OpnT.slice Tryz.underlying67 (by kernel_rfl) rfl (Opn.t (o97 N)))
theorem oProof:∀N,OpnT enc Tryz.prog W N rProof 70 InPt (fun p d=>bkP p≤Rows.uptoBulk d):=by
  intro N
  induction N with
  | zero => intro fuel hf cs x h; obtain rfl : fuel = 0 := by omega
            simp[DataW.trod]at h
  |succ N ih=>
    intro fuel hf cs x h
    obtain⟨hl,n,hn,ds,hx,hdl,hfs⟩:=trod_fieldsT Tryz.underlying70 h
    have hl:cs.length=5:=hl
    match cs,hl with
    |[c0,c1,c2,c3,c4],_=>
      obtain⟨y0,h0,e0⟩:=hfs 0 _ rfl
      obtain⟨a0,r0,g0,t0⟩:=oSteps n n (Nat.le_refl _) _ _ h0
      have r0:(rSl rStep).R (HW W) [c0] a0:=r0
      obtain⟨v0,q0,k0⟩:=r0
      cases q0
      obtain⟨y1,h1,e1⟩:=hfs 1 _ rfl
      obtain⟨a1,r1,g1⟩:=o51 n n (Nat.le_refl _) _ _ h1
      have r1:(rSl rBig).R (HW W) [c1] a1:=r1
      obtain⟨v1,q1,k1⟩:=r1
      cases q1
      obtain⟨y2,h2,e2⟩:=hfs 2 _ rfl
      obtain⟨a2,r2,g2⟩:=o57 n n (Nat.le_refl _) _ _ h2
      have r2:rBig.R (HW W) [c2,c3] a2:=r2
      obtain⟨v2,q2,k2,-⟩:=r2
      cases q2
      obtain⟨y3,h3,e3⟩:=hfs 3 _ rfl
      obtain⟨a3,r3,g3,t3⟩:=(OpnT.slice Tryz.underlying68 (by kernel_rfl) rfl ih) n (by omega) _ _ h3
      have r3:(rSl rProof).R (HW W) [c4] a3:=r3
      obtain⟨v3,q3,k3⟩:=r3
      cases q3
      refine⟨⟨a0,a1,a2,a3⟩,rProof_close ⟨_,_,_,_,rfl,k0,k1,k2,k3,trivial⟩,.mk (fun s hs=>(g0.2 s hs).1.1) g1.1 g0.1 g3.1 g3.2,?_⟩
      show bkP _≤Rows.uptoBulk x.1
      rw[bkP_eq,hx]
      have b0:=slT_len t0
      have b3:=slT_sum t3
      rw[←bkPs_sum]at b3
      have:Rows.uptoBulk y0.1+Rows.uptoBulk y3.1≤Rows.uptoBulkAll ds:=by
        match ds,hdl with
        |[d0,d1,d2,d3],_=>
          cases e0
          cases e3
          simp only[Rows.uptoBulkAll];omega
      show a0.length+bkPs a3+1≤Rows.uptoBulk (.agg ds)
      simp only[Rows.uptoBulk];omega
theorem oRefut:∀N,OpnT enc Tryz.prog W N rRefut 73 InR (fun p d=>bkR p≤Rows.uptoBulk d):=by
  intro N
  induction N with
  | zero => intro fuel hf cs x h; obtain rfl : fuel = 0 := by omega
            simp[DataW.trod]at h
  |succ N ih=>
    intro fuel hf cs x h
    obtain⟨hl,n,hn,ds,hx,hdl,hfs⟩:=trod_fieldsT Tryz.underlying73 h
    have hl:cs.length=9:=hl
    match cs,hl with
    |[c0,c1,c2,c3,c4,c5,c6,c7,c8],_=>
      obtain⟨y0,h0,e0⟩:=hfs 0 _ rfl
      obtain⟨a0,r0,g0⟩:=o3 n n (Nat.le_refl _) _ _ h0
      have r0:[c0]=[.int .i64 a0]:=r0
      cases r0
      obtain⟨y1,h1,e1⟩:=hfs 1 _ rfl
      obtain⟨a1,r1,g1⟩:=o3 n n (Nat.le_refl _) _ _ h1
      have r1:[c1]=[.int .i64 a1]:=r1
      cases r1
      obtain⟨y2,h2,e2⟩:=hfs 2 _ rfl
      obtain⟨a2,r2,g2⟩:=o3 n n (Nat.le_refl _) _ _ h2
      have r2:[c2]=[.int .i64 a2]:=r2
      cases r2
      obtain⟨y3,h3,e3⟩:=hfs 3 _ rfl
      obtain⟨a3,r3,g3,t3⟩:=oProof n n (Nat.le_refl _) _ _ h3
      have r3:rProof.R (HW W) [c3,c4,c5,c6,c7] a3:=r3
      obtain⟨v0,v1,v2,v3,q3,k0,k1,k2,k3,-⟩:=rProof_open r3
      cases q3
      obtain⟨y4,h4,e4⟩:=hfs 4 _ rfl
      obtain⟨a4,r4,g4,t4⟩:=(OpnT.slice Tryz.underlying71 (by kernel_rfl) rfl ih) n (by omega) _ _ h4
      have r4:(rSl rRefut).R (HW W) [c8] a4:=r4
      obtain⟨v4,q4,k4⟩:=r4
      cases q4
      refine⟨⟨a0,a1,a2,a3,a4⟩,rRefut_close ⟨_,_,_,_,_,rfl,k0,k1,k2,k3,k4,trivial⟩,.mk (bounds_i64 g1) (bounds_i64 g2) g3 g4.1 g4.2,?_⟩
      show bkR _≤Rows.uptoBulk x.1
      rw[bkR_eq,hx]
      have b4:=slT_sum t4
      rw[←bkRs_sum]at b4
      have:Rows.uptoBulk y3.1+Rows.uptoBulk y4.1≤Rows.uptoBulkAll ds:=by
        match ds,hdl with
        |[d0,d1,d2,d3,d4],_=>
          cases e3
          cases e4
          simp only[Rows.uptoBulkAll];omega
      show bkP a3+bkRs a4+1≤Rows.uptoBulk (.agg ds)
      simp only[Rows.uptoBulk];omega
theorem oCla:∀N,OpnT enc Tryz.prog W N rRClause 29 G29 (fun c d=>c.Null.length≤Rows.uptoBulk d∧c.NotNull.length≤Rows.uptoBulk d∧c.Auxiliary.length≤Rows.uptoBulk d∧c.Ints.length≤Rows.uptoBulk d∧c.Tests.length≤Rows.uptoBulk d∧c.Same.length≤Rows.uptoBulk d∧c.Different.length≤Rows.uptoBulk d):=by
 intro N fuel hf cs x h
 obtain⟨hl,n,hn,ds,hx,hdl,hfs⟩:=trod_fieldsT Tryz.underlying29 h
 have hl:cs.length=7:=hl
 match cs,hl with
 |[c0,c1,c2,c3,c4,c5,c6],_=>
  obtain⟨y0,h0,e0⟩:=hfs 0 _ rfl
  obtain⟨a0,r0,g0,t0⟩:=(OpnT.less (OpnT.slice Tryz.underlying23 (by kernel_rfl) rfl (Opn.t (o3 n)))) n (Nat.le_refl _) _ _ h0
  have r0:(rSl (rInt .i64)).R (HW W) [c0] a0:=r0
  obtain⟨v0,q0,k0⟩:=r0
  cases q0
  have b0:=slT_len t0
  obtain⟨y1,h1,e1⟩:=hfs 1 _ rfl
  obtain⟨a1,r1,g1,t1⟩:=(OpnT.less (OpnT.slice Tryz.underlying23 (by kernel_rfl) rfl (Opn.t (o3 n)))) n (Nat.le_refl _) _ _ h1
  have r1:(rSl (rInt .i64)).R (HW W) [c1] a1:=r1
  obtain⟨v1,q1,k1⟩:=r1
  cases q1
  have b1:=slT_len t1
  obtain⟨y2,h2,e2⟩:=hfs 2 _ rfl
  obtain⟨a2,r2,g2,t2⟩:=(OpnT.less (OpnT.slice Tryz.underlying24 (by kernel_rfl) rfl (Opn.t (o104 n)))) n (Nat.le_refl _) _ _ h2
  have r2:(rSl rRAux).R (HW W) [c2] a2:=r2
  obtain⟨v2,q2,k2⟩:=r2
  cases q2
  have b2:=slT_len t2
  obtain⟨y3,h3,e3⟩:=hfs 3 _ rfl
  obtain⟨a3,r3,g3,t3⟩:=(OpnT.less (OpnT.slice Tryz.underlying25 (by kernel_rfl) rfl (Opn.t (o92 n)))) n (Nat.le_refl _) _ _ h3
  have r3:(rSl rConstraint).R (HW W) [c3] a3:=r3
  obtain⟨v3,q3,k3⟩:=r3
  cases q3
  have b3:=slT_len t3
  obtain⟨y4,h4,e4⟩:=hfs 4 _ rfl
  obtain⟨a4,r4,g4,t4⟩:=(OpnT.less (OpnT.slice Tryz.underlying26 (by kernel_rfl) rfl (Opn.t (o112 n)))) n (Nat.le_refl _) _ _ h4
  have r4:(rSl rTTest).R (HW W) [c4] a4:=r4
  obtain⟨v4,q4,k4⟩:=r4
  cases q4
  have b4:=slT_len t4
  obtain⟨y5,h5,e5⟩:=hfs 5 _ rfl
  obtain⟨a5,r5,g5,t5⟩:=(OpnT.less (OpnT.slice Tryz.underlying27 (by kernel_rfl) rfl (Opn.t (o54 n)))) n (Nat.le_refl _) _ _ h5
  have r5:(rSl rArr2Int).R (HW W) [c5] a5:=r5
  obtain⟨v5,q5,k5⟩:=r5
  cases q5
  have b5:=slT_len t5
  obtain⟨y6,h6,e6⟩:=hfs 6 _ rfl
  obtain⟨a6,r6,g6,t6⟩:=(OpnT.less (OpnT.slice Tryz.underlying27 (by kernel_rfl) rfl (Opn.t (o54 n)))) n (Nat.le_refl _) _ _ h6
  have r6:(rSl rArr2Int).R (HW W) [c6] a6:=r6
  obtain⟨v6,q6,k6⟩:=r6
  cases q6
  have b6:=slT_len t6
  have hb:Rows.uptoBulk y0.1≤Rows.uptoBulkAll ds∧Rows.uptoBulk y1.1≤Rows.uptoBulkAll ds∧Rows.uptoBulk y2.1≤Rows.uptoBulkAll ds∧Rows.uptoBulk y3.1≤Rows.uptoBulkAll ds∧Rows.uptoBulk y4.1≤Rows.uptoBulkAll ds∧Rows.uptoBulk y5.1≤Rows.uptoBulkAll ds∧Rows.uptoBulk y6.1≤Rows.uptoBulkAll ds:=by
   match ds,hdl with
   |[d0,d1,d2,d3,d4,d5,d6],_=>
    cases e0
    cases e1
    cases e2
    cases e3
    cases e4
    cases e5
    cases e6
    simp only[Rows.uptoBulkAll];omega
  refine⟨⟨a0,a1,a2,a3,a4,a5,a6⟩,rRClause_close ⟨_,_,_,_,_,_,_,rfl,k0,k1,k2,k3,k4,k5,k6,trivial⟩,⟨g0,g1,g2,g3,g4,g5,g6,trivial⟩,?_⟩
  have hx2:Rows.uptoBulkAll ds≤Rows.uptoBulk x.1:=by
   rw[hx];show _≤Rows.uptoBulk (.agg ds);simp only[Rows.uptoBulk];omega
  dsimp only
  exact⟨by omega,by omega,by omega,by omega,by omega,by omega,by omega⟩
theorem oVars:∀N,OpnT enc Tryz.prog W N (rSl rRVar) 22 (fun xs=>xs.length≤9223372036854775807∧∀x∈xs,G83 x) (SlT fun _ _=>True):=fun N=>OpnT.less (OpnT.slice Tryz.underlying22 (by kernel_rfl) rfl (Opn.t (o83 N)))
theorem limc_of{c:RClause}(h:G29 c):LimC c:=⟨h.1.1,h.2.1.1,fun a ha=>(h.2.2.1.2 a ha).1.2.1.1,fun k hk=>(h.2.2.2.1.2 k hk).1.2.1.1,fun t ht=>(h.2.2.2.2.1.2 t ht).2.2.2.1⟩
end
end Go.Proofs.YtcakdidcpoolcaaGreatDoor.Q25
namespace Go.Proofs
open Go.Shelf
def Tryz.lays171_ren:Go.Shelf.Ren:=⟨fun|171=>67|243=>103|246=>142|283=>161|284=>162|285=>163|286=>164|129=>177|317=>176|318=>178|319=>179|320=>180|337=>193|338=>194|n=>n,fun|3=>3|9=>9|2=>2|4=>4|171=>221|0=>0|53=>149|37=>133|5=>5|173=>224|212=>242|51=>177|20=>20|213=>243|46=>220|232=>256|233=>257|n=>n,fun|17=>0|18=>1|19=>2|n=>n⟩
theorem Tryz.lays171:Go.Proofs.Lays.n171 Tryz.prog Tryz.lays171_ren:={
 mixed:=by kernel_rfl
 f129:=Tryz.func177.trans (congrArg some (by kernel_rfl))
 f171:=Tryz.func67.trans (congrArg some (by kernel_rfl))
 f243:=Tryz.func103.trans (congrArg some (by kernel_rfl))
 f246:=Tryz.func142.trans (congrArg some (by kernel_rfl))
 f283:=Tryz.func161.trans (congrArg some (by kernel_rfl))
 f284:=Tryz.func162.trans (congrArg some (by kernel_rfl))
 f285:=Tryz.func163.trans (congrArg some (by kernel_rfl))
 f286:=Tryz.func164.trans (congrArg some (by kernel_rfl))
 f317:=Tryz.func176.trans (congrArg some (by kernel_rfl))
 f318:=Tryz.func178.trans (congrArg some (by kernel_rfl))
 f319:=Tryz.func179.trans (congrArg some (by kernel_rfl))
 f320:=Tryz.func180.trans (congrArg some (by kernel_rfl))
 f337:=Tryz.func193.trans (congrArg some (by kernel_rfl))
 f338:=Tryz.func194.trans (congrArg some (by kernel_rfl))
 t0:=Tryz.underlying0
 a0:=Tryz.isAgg0
 z0:=Tryz.sizeOf0
 v0:=Tryz.zeroValue0
 t2:=Tryz.underlying2
 a2:=Tryz.isAgg2
 z2:=Tryz.sizeOf2
 v2:=Tryz.zeroValue2
 t3:=Tryz.underlying3
 a3:=Tryz.isAgg3
 z3:=Tryz.sizeOf3
 v3:=Tryz.zeroValue3
 t4:=Tryz.underlying4
 a4:=Tryz.isAgg4
 z4:=Tryz.sizeOf4
 v4:=Tryz.zeroValue4
 t5:=Tryz.underlying5
 a5:=Tryz.isAgg5
 z5:=Tryz.sizeOf5
 v5:=Tryz.zeroValue5
 t9:=Tryz.underlying9
 a9:=Tryz.isAgg9
 z9:=Tryz.sizeOf9
 v9:=Tryz.zeroValue9
 t20:=Tryz.underlying20
 a20:=Tryz.isAgg20
 z20:=Tryz.sizeOf20
 v20:=Tryz.zeroValue20
 t37:=Tryz.underlying133
 a37:=Tryz.isAgg133
 z37:=Tryz.sizeOf133
 v37:=Tryz.zeroValue133
 t46:=Tryz.underlying220
 a46:=Tryz.isAgg220
 z46:=Tryz.sizeOf220
 v46:=Tryz.zeroValue220
 t51:=Tryz.underlying177
 a51:=Tryz.isAgg177
 z51:=Tryz.sizeOf177
 v51:=Tryz.zeroValue177
 t53:=Tryz.underlying149
 a53:=Tryz.isAgg149
 z53:=Tryz.sizeOf149
 v53:=Tryz.zeroValue149
 t171:=Tryz.underlying221
 a171:=Tryz.isAgg221
 z171:=Tryz.sizeOf221
 v171:=Tryz.zeroValue221
 t173:=Tryz.underlying224
 a173:=Tryz.isAgg224
 z173:=Tryz.sizeOf224
 v173:=Tryz.zeroValue224
 t212:=Tryz.underlying242
 a212:=Tryz.isAgg242
 z212:=Tryz.sizeOf242
 v212:=Tryz.zeroValue242
 t213:=Tryz.underlying243
 a213:=Tryz.isAgg243
 z213:=Tryz.sizeOf243
 t232:=Tryz.underlying256
 a232:=Tryz.isAgg256
 z232:=Tryz.sizeOf256
 v232:=Tryz.zeroValue256
 t233:=Tryz.underlying257
 a233:=Tryz.isAgg257
 z233:=Tryz.sizeOf257
 v233:=Tryz.zeroValue257
 g17:=by kernel_rfl
 g18:=by kernel_rfl
 g19:=by kernel_rfl}
open Go.RowKit Go.Sort Go.Lib in
theorem Tryz.strconv_Itoa_small(i:Nat)(hi:i<100)(w:World):
 Calls Tryz.prog 67 #[.int .i64 i] w fun e w'=>e=.returned (.string ⟨(Lib.decDigits i).toArray⟩)∧w'=w:=Any.strconv_Itoa_small Tryz.lays171 i hi w
end Go.Proofs
namespace Go.Proofs.YtcakdidcpoolcaaGreatDoor.WF
open Go Go.X Go.D Go.Lib Go.Proofs
theorem fmtI_w(N:Nat)(n:Int)(w:World)(S:Nat→Prop)(r:List UInt8)(h:fmtI N n=some r):
 Calls Tryz.prog 67 #[.int .i64 n] w (Ret w (fun v w'=>Value.string (s8 r)=v∧True)):=by
 unfold fmtI at h;split at h
 · rename_i hc
   cases h
   obtain⟨k,rfl⟩:∃k:Nat,n=(k:Int):=⟨n.toNat,by omega⟩
   refine(Tryz.strconv_Itoa_small k (by omega) w).mono ?_
   rintro e w' ⟨rfl,rfl⟩
   exact⟨_,rfl,Ext.refl _,rfl,trivial⟩
 · cases h
end Go.Proofs.YtcakdidcpoolcaaGreatDoor.WF
namespace Go.Proofs.YtcakdidcpoolcaaGreatDoor.FS
open Go Go.RowKit Go.X Go.D Go.Q
theorem en67:Go.X.Enters Tryz.prog 67:=⟨Tryz.f67,Tryz.func67,by kernel_rfl,by kernel_rfl⟩
theorem fmtI_c(N:Nat)(n:Int)(r:List UInt8)(h:fmtI N n=some r):Cn Tryz.prog 67 [sI .i64 n] [] [sT r]:=by
 refine in_calls en67 fun ν H w l hl=>?_
 obtain⟨a,b,rfl,⟨h1,h2⟩,rfl⟩:=hl
 rw[h1]
 refine(WF.fmtI_w N n w (fun _=>True) r h).mono ?_
 rintro e w' ⟨v,rfl,hE,hv,_⟩
 exact⟨[v],rfl,hE,fun ν' H'=>⟨v,[],rfl,⟨hv.symm,rfl⟩,rfl⟩⟩
end Go.Proofs.YtcakdidcpoolcaaGreatDoor.FS

/- Plain theorems and definitions of this seat, several texts in one. -/
import Derived.Test.YtcakdidcpoolcaaGreatDoorAe
import Derived.Test.YtcakdidcpoolcaaGreatDoorProg
import Derived.Test.YtcakdidcpoolcaaGreatDoorAa
import Derived.Test.YtcakdidcpoolcaaGreatDoorAd
import Derived.Test.YtcakdidcpoolcaaGreatDoorRows
import Derived.ChangeMaps5
import Derived.Stop.LaidErr
import Derived.Shelf.Strconv.Itoa0
import Derived.Shelf.Strconv.Itoa1
import Derived.Shelf.LaysM
import Derived.Shelf.Strconv.Itoa2
import Derived.Shelf.Strconv.Itoa3
import Derived.Ground.SlgnProg
import Derived.Test.YtcakdidcpoolcaaGreatDoorAb
set_option linter.unusedVariables false
set_option linter.unusedSimpArgs false
set_option linter.unusedSectionVars false
namespace Go.D
open Go Go.X
theorem hi0{l:List Int}{m:Nat}(h:InB W32 l)(hv:val W32 l<W32^m):∀j,m≤j→l.getD j 0=0:=by
 intro j hj;rcases Nat.lt_or_ge j l.length with hl|hl
 · rw[getD_ok hl];have h1:=h.get hl;rcases Int.lt_or_le 0 l[j]with h2|h2
   · exfalso;have e:=val_split (B:=W32) (l:=l) j (by omega);rw[List.drop_eq_getElem_cons hl,val_cons]at e;have p0:=val_nonneg (B:=W32) (by decide) (h.take j);have p1:=val_nonneg (B:=W32) (by decide) (h.drop (j+1));have p2:=pow_pos' (B:=W32) (by decide) j;have p3:=pow_mono (B:=W32) (by decide) hj;have p4:W32^j*1≤W32^j*(l[j]+W32*val W32 (l.drop (j+1))):=Int.mul_le_mul_of_nonneg_left (by have:=Int.mul_nonneg (show(0:Int)≤W32 by decide) p1;omega) (by omega);omega
   · omega
 · exact getD_out hl
theorem val_hi{l:List Int}{m:Nat}(h:InB W32 l)(hz:∀j,m≤j→l.getD j 0=0):val W32 l<W32^m:=by
 rcases Nat.lt_or_ge m l.length with hm|hm
 · have:=val_cut (B:=W32) (l:=l) (n:=m) (by omega) (fun k hk hmk=>by have:=hz k hmk;rwa[getD_ok hk]at this);rw[←this];have h2:=val_lt (B:=W32) (by decide) (h.take m);rwa[List.length_take,Nat.min_eq_left (by omega)]at h2
 · have h2:=val_lt (B:=W32) (by decide) h;have h3:=pow_mono (B:=W32) (by decide) hm;omega
theorem getD_drop{l:List Int}{n j:Nat}:(l.drop n).getD j 0=l.getD (n+j) 0:=by
 rw[List.getD_eq_getElem?_getD,List.getD_eq_getElem?_getD,List.getElem?_drop]
theorem b3_tm{b v u:List Int}{n m:Nat}{g:Int}(hb:b.length=m)(hv:v.length=m)(hvB:InB W32 v)(huB:InB W32 u)(hu:n+m<u.length)(hul:u.length≤35184372088832)(g0:0≤g)(g1:g<4294967296):
 Tm (fun N=>loopM (bbelow_b1 N g ((n+m+1:Nat):Int) (n:Int) v) N (u,0,0,0)) (fun r=>InB W32 r.1∧r.1.length=u.length∧r.1.take n=u.take n∧(∀k,n+m<k→r.1.getD k 0=u.getD k 0)∧0≤r.2∧r.2≤1∧val W32 r.1=val W32 u-W32^n*(g*val W32 v)+W32^(n+(m+1))*r.2):=by
 refine Tm.loop (fun t:List Int×Int×Int×Int=>∃j:Nat,t.2.2.2=j∧j≤m+1∧InB W32 t.1∧t.1.length=u.length∧t.1.take n=u.take n∧(∀k,n+j≤k→t.1.getD k 0=u.getD k 0)∧0≤t.2.1∧t.2.1<4294967296∧(m<j→t.2.1=0)∧0≤t.2.2.1∧t.2.2.1≤1∧val W32 t.1=val W32 u-W32^n*(g*val W32 (v.take j))+W32^(n+j)*(t.2.1+t.2.2.1)) (fun t=>m+1-t.2.2.2.toNat)
  ⟨0,rfl,by omega,huB,rfl,rfl,fun _ _=>rfl,by simp,by simp,fun _=>rfl,by simp,by simp,by simp[val]⟩ ?_
 rintro⟨x,carry,borrow,jj⟩ ⟨j,rfl,hj,hB,hx,htk,hup,c0,c1,hc,b0,b1,hval⟩;dsimp only[bbelow_b1]at*;refine Tm.ite (fun h=>?_) (fun h=>Tm.pure ?_)
 · have hjm:j≤m:=by omega
   refine Tm.bind (digit_tm hvB) ?_;rintro d rfl;have hij:(n:Int)+(j:Int)=((n+j:Nat):Int):=by omega
   refine Tm.step (chk_ok (by omega)) (Tm.step (idx_g hij (by omega)) (Tm.step (chk_ok (by omega)) (Tm.step (idx_g hij (by omega)) (Tm.step (upd1_i hij (by omega)) (Tm.pure ?_)))));have hd:=hvB.getD (by decide) j;have hvt:=val_take (B:=W32) (l:=v) (n:=j);have hd0:m≤j→v.getD j 0=0:=fun h=>getD_out (by omega);have huu:=hB.getD (by decide) (n+j);have hset:=fun y=>val_set (B:=W32) (l:=x) (n:=n+j) (y:=y) (by omega);rw[←getD_ok (l:=x) (n:=n+j) (by omega)]at hset;generalize v.getD j 0=d at*;generalize hUU:x.getD (n+j) 0=uu at*;simp only[W32]at hd huu;have hgd:0≤g*d∧g*d≤4294967295*4294967295:=⟨Int.mul_nonneg g0 hd.1,Int.mul_le_mul (by omega) (by omega) hd.1 (by decide)⟩;rw[uw_id hgd.1 (by omega)];have hgd0:m≤j→g*d=0:=fun h=>by rw[hd0 h];simp
   generalize hC:g*d=gd at*;rw[uw_id (show 0≤carry+gd by omega) (by omega),band_lo (by omega) (by omega),bshr32];have e1:uw (uw (uw uu-(carry+gd)%4294967296)-borrow)=(uu-(carry+gd)%4294967296-borrow)%18446744073709551616:=by
    rw[uw_mod,uw_mod,uw_mod];omega
   rw[e1,bshr63,uw32_mod];have hy:(uu-(carry+gd)%4294967296-borrow)%18446744073709551616%4294967296=uu-(carry+gd)%4294967296-borrow+4294967296*((uu-(carry+gd)%4294967296-borrow)%18446744073709551616/9223372036854775808):=by omega
   have hb':0≤(uu-(carry+gd)%4294967296-borrow)%18446744073709551616/9223372036854775808∧(uu-(carry+gd)%4294967296-borrow)%18446744073709551616/9223372036854775808≤1:=by omega
   have hy2:0≤(uu-(carry+gd)%4294967296-borrow)%18446744073709551616%4294967296∧(uu-(carry+gd)%4294967296-borrow)%18446744073709551616%4294967296<4294967296:=by omega
   generalize(uu-(carry+gd)%4294967296-borrow)%18446744073709551616%4294967296=y at*;generalize(uu-(carry+gd)%4294967296-borrow)%18446744073709551616/9223372036854775808=bb at*;have hdm:=Int.emod_add_mul_ediv (carry+gd) 4294967296;refine⟨⟨j+1,by show iw ((j:Int)+1)=_;rw[iw_eq]<;>omega,by omega,hB.set (by simp only[W32];omega),by simp;omega,?_,?_,?_,?_,?_,hb'.1,hb'.2,?_⟩,?_⟩
   · show(x.set (n+j) y).take n=_;rw[List.take_set_of_le (by omega)];exact htk
   · intro k hk;show(x.set (n+j) y).getD k 0=_;rw[getD_set (by omega),if_neg (by omega)];exact hup k (by omega)
   · show 0≤(carry+gd)/4294967296;omega
   · show(carry+gd)/4294967296<4294967296;omega
   · intro h1;show(carry+gd)/4294967296=0;have:=hgd0 (by omega);omega
   · show val W32 (x.set (n+j) y)=_+W32^(n+(j+1))*((carry+gd)/4294967296+bb);rw[hset,hval,hvt,hy];have hw:W32=4294967296:=rfl;have hp:W32^(n+(j+1))=W32^n*W32^j*4294967296:=by rw[Int.pow_add,Int.pow_succ,hw];grind
     rw[hp,Int.pow_add];generalize W32^n=P at*;generalize W32^j=Q at*;have e3:g*(val W32 (v.take j)+Q*d)=g*val W32 (v.take j)+Q*gd:=by rw[←hC];grind
     rw[e3];generalize(carry+gd)/4294967296=cc at*;generalize(carry+gd)%4294967296=c2 at*;have e4:gd=c2+4294967296*cc-carry:=by omega
     rw[e4];grind
   · show m+1-(iw ((j:Int)+1)).toNat<m+1-((j:Int)).toNat;rw[iw_eq]<;>omega
 · have hjm:j=m+1:=by omega
   subst hjm;refine⟨hB,hx,htk,fun k hk=>hup k (by omega),b0,b1,?_⟩;show val W32 x=_;rw[hval,hc (by omega),take_all (by omega),Int.zero_add]
theorem b4_tm{v u:List Int}{n m:Nat}(hv:v.length=m)(hvB:InB W32 v)(huB:InB W32 u)(hu:n+m<u.length)(hul:u.length≤35184372088832):
 Tm (fun N=>loopM (bdivide_b3 N v n) N (u,0,0)) (fun r=>InB W32 r.1∧r.1.length=u.length∧r.1.take n=u.take n∧(∀k,n+m≤k→r.1.getD k 0=u.getD k 0)∧0≤r.2∧r.2≤1∧val W32 r.1=val W32 u+W32^n*val W32 v-W32^(n+m)*r.2):=by
 refine Tm.loop (fun t:List Int×Int×Int=>∃j:Nat,t.2.2=j∧j≤m∧InB W32 t.1∧t.1.length=u.length∧t.1.take n=u.take n∧(∀k,n+j≤k→t.1.getD k 0=u.getD k 0)∧0≤t.2.1∧t.2.1≤1∧val W32 t.1=val W32 u+W32^n*val W32 (v.take j)-W32^(n+j)*t.2.1) (fun t=>m-t.2.2.toNat)
  ⟨0,rfl,by omega,huB,rfl,rfl,fun _ _=>rfl,by simp,by simp,by simp[val]⟩ ?_
 rintro⟨x,carry,jj⟩ ⟨j,rfl,hj,hB,hx,htk,hup,c0,c1,hval⟩;dsimp only[bdivide_b3]at*;refine Tm.ite (fun h=>?_) (fun h=>Tm.pure ?_)
 · have hij:iw ((n:Int)+(j:Int))=((n+j:Nat):Int):=by rw[iw_eq]<;>omega
   refine Tm.step (idx_g hij (by omega)) (Tm.step (idx_g rfl (by omega)) (Tm.step (idx_g hij (by omega)) (Tm.step (upd1_i hij (by omega)) (Tm.pure ?_))));have hd:=hvB.getD (by decide) j;have hvt:=val_take (B:=W32) (l:=v) (n:=j);have huu:=hB.getD (by decide) (n+j);have hset:=fun y=>val_set (B:=W32) (l:=x) (n:=n+j) (y:=y) (by omega);rw[←getD_ok (l:=x) (n:=n+j) (by omega)]at hset;generalize v.getD j 0=d at*;generalize hUU:x.getD (n+j) 0=uu at*;simp only[W32]at hd huu;have e1:uw (carry+uw (uw uu+uw d))=carry+uu+d:=by rw[uw_mod,uw_mod,uw_mod,uw_mod];omega
   rw[e1,bshr32,uw32_mod];have hdm:=Int.emod_add_mul_ediv (carry+uu+d) 4294967296;refine⟨⟨j+1,by show iw ((j:Int)+1)=_;rw[iw_eq]<;>omega,by omega,hB.set (by simp only[W32];omega),by simp;omega,?_,?_,?_,?_,?_⟩,?_⟩
   · show(x.set (n+j) _).take n=_;rw[List.take_set_of_le (by omega)];exact htk
   · intro k hk;show(x.set (n+j) _).getD k 0=_;rw[getD_set (by omega),if_neg (by omega)];exact hup k (by omega)
   · show 0≤(carry+uu+d)/4294967296;omega
   · show(carry+uu+d)/4294967296≤1;omega
   · show val W32 (x.set (n+j) ((carry+uu+d)%4294967296))=_-W32^(n+(j+1))*((carry+uu+d)/4294967296);rw[hset,hval,hvt];have hw:W32=4294967296:=rfl;have hp:W32^(n+(j+1))=W32^n*W32^j*4294967296:=by rw[Int.pow_add,Int.pow_succ,hw];grind
     rw[hp,Int.pow_add];generalize W32^n=P at*;generalize W32^j=Q at*;generalize(carry+uu+d)/4294967296=cc at*;generalize(carry+uu+d)%4294967296=c2 at*;have e4:c2=carry+uu+d-4294967296*cc:=by omega
     rw[e4];grind
   · show m-(iw ((j:Int)+1)).toNat<m-((j:Int)).toNat;rw[iw_eq]<;>omega
 · have hjm:j=m:=by omega
   subst hjm;rw[take_all (by omega)]at hval;exact⟨hB,hx,htk,hup,c0,c1,hval⟩
theorem val_above{u x:List Int}{n:Nat}{t:Int}(hu:n≤u.length)(hx:x.length=u.length)(htk:x.take n=u.take n)(h:val W32 x=val W32 u+W32^n*t):val W32 (x.drop n)=val W32 (u.drop n)+t:=by
 rw[val_split (B:=W32) (l:=x) n (by omega),val_split (B:=W32) (l:=u) n hu,htk]at h;have h1:W32^n*val W32 (x.drop n)=W32^n*(val W32 (u.drop n)+t):=by rw[Int.mul_add];omega
 exact Int.eq_of_mul_eq_mul_left (by have:=pow_pos' (B:=W32) (by decide) n;omega) h1
theorem top3{l:List Int}{m:Nat}(h:InB W32 l)(hm:2≤m)(hl:m<l.length)(hv:val W32 l<W32^(m+1)):val W32 l=((l.getD m 0*W32+l.getD (m-1) 0)*W32+l.getD (m-2) 0)*W32^(m-2)+val W32 (l.take (m-2)):=by
 have h0:=val_cut (B:=W32) (l:=l) (n:=m+1) (by omega) (fun k hk hmk=>by have:=hi0 h hv k hmk;rwa[getD_ok hk]at this);obtain⟨k,rfl⟩:∃k,m=k+2:=⟨m-2,by omega⟩;rw[←h0,val_take,val_take (n:=k+1),val_take (n:=k),show k+2-1=k+1 by omega,show k+2-2=k by omega,Int.pow_succ,Int.pow_succ];grind
theorem top2{l:List Int}{m:Nat}(hm:2≤m)(hl:l.length=m):val W32 l=(l.getD (m-1) 0*W32+l.getD (m-2) 0)*W32^(m-2)+val W32 (l.take (m-2)):=by
 obtain⟨k,rfl⟩:∃k,m=k+2:=⟨m-2,by omega⟩;have h0:l.take (k+1+1)=l:=take_all (by omega);rw[←h0,val_take,val_take (n:=k),h0,show k+2-1=k+1 by omega,show k+2-2=k by omega,Int.pow_succ];grind
theorem b1_tm{b v u q:List Int}{m:Nat}(hb:b.length=m)(hm:2≤m)(hv:v.length=m)(hvB:InB W32 v)(huB:InB W32 u)(hqB:InB W32 q)(hu:u.length=q.length+m)(hul:u.length≤17592186044416)(hv1:0<v.getD (m-1) 0)(h0:val W32 (u.drop q.length)<val W32 v):
 Tm (fun N=>loopM (bdivide_b1 N b v) N (u,q,iw ((q.length:Int)-1))) (fun r=>InB W32 r.1∧r.1.length=u.length∧InB W32 r.2∧r.2.length=q.length∧val W32 u=val W32 r.1+val W32 v*val W32 r.2∧val W32 r.1<val W32 v):=by
 refine Tm.loop (fun t:List Int×List Int×Int=>∃k:Nat,t.2.2=(k:Int)-1∧k≤q.length∧InB W32 t.1∧t.1.length=u.length∧InB W32 t.2.1∧t.2.1.length=q.length∧val W32 u=val W32 t.1+W32^k*(val W32 v*val W32 (t.2.1.drop k))∧val W32 (t.1.drop k)<val W32 v) (fun t=>(t.2.2+1).toNat)
  ⟨q.length,by rw[iw_eq]<;>omega,Nat.le_refl _,huB,rfl,hqB,rfl,by simp[val],h0⟩ ?_
 rintro⟨x,y,ii⟩ ⟨k,rfl,hk,hxB,hx,hyB,hy,hval,hlt⟩;dsimp only[bdivide_b1]at*;refine Tm.ite (fun h=>?_) (fun h=>Tm.pure ?_)
 · obtain⟨n,rfl⟩:∃n,k=n+1:=⟨k-1,by omega⟩;have hi:((n+1:Nat):Int)-1=(n:Int):=by omega
   rw[hi];have him:iw ((n:Int)+(b.length:Int))=((n+m:Nat):Int):=by rw[iw_eq]<;>omega
   have him1:iw (((n+m:Nat):Int)-1)=((n+m-1:Nat):Int):=by rw[iw_eq]<;>omega
   have hbm:iw ((b.length:Int)-1)=((m-1:Nat):Int):=by rw[iw_eq]<;>omega
   rw[him,him1,hbm];refine Tm.step (idx_g rfl (by omega)) (Tm.step (idx_g rfl (by omega)) (Tm.step (idx_g rfl (by omega)) ?_));have hV:=top2 hm hv;have hVl:=val_nonneg (B:=W32) (by decide) (hvB.take (m-2));have hVl':=val_lt (B:=W32) (by decide) (hvB.take (m-2));rw[List.length_take,Nat.min_eq_left (by omega)]at hVl';have hVW:val W32 v<W32^m:=by have:=val_lt (B:=W32) (by decide) hvB;rwa[hv]at this
   have hxn:=hxB.getD (B:=W32) (by decide) n;have hRe:val W32 (x.drop n)=x.getD n 0+W32*val W32 (x.drop (n+1)):=by rw[List.drop_eq_getElem_cons (by omega),val_cons,getD_ok (by omega)]
   have hR0:=val_nonneg (B:=W32) (by decide) (hxB.drop n);have hRV:val W32 (x.drop n)<4294967296*val W32 v:=by
    rw[hRe];simp only[W32]at*;omega
   have hR1:val W32 (x.drop n)<W32^(m+1):=by
    rw[Int.pow_succ];simp only[W32]at*;omega
   have hR:=top3 (hxB.drop n) hm (by simp;omega) hR1;have hRl:=val_nonneg (B:=W32) (by decide) ((hxB.drop n).take (m-2));have hRl':=val_lt (B:=W32) (by decide) ((hxB.drop n).take (m-2));rw[List.length_take,List.length_drop,Nat.min_eq_left (by omega)]at hRl';rw[getD_drop,getD_drop,getD_drop,show n+(m-1)=n+m-1 by omega,show n+(m-2)=n+m-2 by omega]at hR;have d1:=hvB.getD (B:=W32) (by decide) (m-1);have d2:=hvB.getD (B:=W32) (by decide) (m-2);have d3:=hxB.getD (B:=W32) (by decide) (n+m);have d4:=hxB.getD (B:=W32) (by decide) (n+m-1);have d5:=hxB.getD (B:=W32) (by decide) (n+m-2);have hp:=pow_pos' (B:=W32) (by decide) (m-2);have hV0:=val_nonneg (B:=W32) (by decide) hvB;simp only[W32]at d1 d2 d3 d4 d5;rw[uw_id (z:=x.getD (n+m) 0) d3.1 (by omega),uw_id (z:=x.getD (n+m-1) 0) d4.1 (by omega),uw_id (z:=v.getD (m-1) 0) d1.1 (by omega),bor_hi d3.1 d3.2 d4.1 d4.2];have t0:0≤x.getD (n+m) 0*4294967296+x.getD (n+m-1) 0:=by omega
   have t1:x.getD (n+m) 0*4294967296+x.getD (n+m-1) 0<18446744073709551616:=by omega
   refine Tm.step (sdiv_ok (by omega)) (Tm.step (idx_g rfl (by omega)) ?_);rw[uw_id (z:=v.getD (m-1) 0) d1.1 (by omega)];refine Tm.step (srem_ok (by omega)) ?_;rw[tdivP t0,tmodP t0];have hq0:=Int.ediv_nonneg t0 (show 0≤v.getD (m-1) 0 by omega);have hq1:(x.getD (n+m) 0*4294967296+x.getD (n+m-1) 0)/v.getD (m-1) 0≤x.getD (n+m) 0*4294967296+x.getD (n+m-1) 0:=Int.ediv_le_self _ t0;have hm0:=Int.emod_nonneg (x.getD (n+m) 0*4294967296+x.getD (n+m-1) 0) (show v.getD (m-1) 0≠0 by omega);have hm1:=Int.emod_lt_of_pos (x.getD (n+m) 0*4294967296+x.getD (n+m-1) 0) hv1;have hdm:=Int.emod_add_mul_ediv (x.getD (n+m) 0*4294967296+x.getD (n+m-1) 0) (v.getD (m-1) 0);rw[show IntKind.u64.wrap ((x.getD (n+m) 0*4294967296+x.getD (n+m-1) 0)/v.getD (m-1) 0)=(x.getD (n+m) 0*4294967296+x.getD (n+m-1) 0)/v.getD (m-1) 0 from uw_id hq0 (by omega)];refine Tm.bind (b2_tm (b:=b) (v:=v) (u:=x) (n:=n) (m:=m) (V:=val W32 v) (R:=val W32 (x.drop n)) (top:=x.getD (n+m) 0*4294967296+x.getD (n+m-1) 0) hb hv hm (by omega) (by omega) rfl rfl rfl ⟨hv1,d1.2⟩ d2 d5 hp hV ⟨hVl,hVl'⟩ hR ⟨hRl,hRl'⟩ hRV
    (by have:=Int.mul_comm (v.getD (m-1) 0) ((x.getD (n+m) 0*4294967296+x.getD (n+m-1) 0)/v.getD (m-1) 0);omega) ⟨hm0,hm1⟩ ⟨hq0,by omega⟩) ?_
   rintro g ⟨g0,g1,hgR,hgV⟩;clear hdm hm0 hm1 hq0 hq1;generalize hRR:val W32 (x.drop n)=R at*;generalize hVV:val W32 v=V at*;have hsg:iw (((n+m:Nat):Int)+1)=((n+m+1:Nat):Int):=by rw[iw_eq]<;>omega
   rw[hsg];refine Tm.step (f:=seg _ _ _) (a:=()) (by unfold seg;rw[if_pos (by omega)]) ?_;refine Tm.bind (Q:=fun r:Bool×List Int=>InB W32 r.2∧r.2.length=x.length∧r.2.take n=x.take n∧(∀k,n+m<k→r.2.getD k 0=x.getD k 0)∧((r.1=false∧val W32 (r.2.drop n)=R-g*V)∨(r.1=true∧val W32 (r.2.drop n)=R-g*V+W32^(m+1)))) ?_ ?_
   · unfold bbelow;refine Tm.bind (b3_tm (b:=b) (v:=v) (u:=x) (n:=n) (m:=m) (g:=g) hb hv hvB hxB (by omega) (by omega) g0 g1) ?_;rintro⟨z,bo⟩ ⟨z1,z2,z3,z4,z5,z6,z7⟩;dsimp only at*;refine Tm.pure ⟨z1,z2,z3,z4,?_⟩;have hva:=val_above (u:=x) (x:=z) (n:=n) (t:=-(g*V)+W32^(m+1)*bo) (by omega) z2 z3 (by rw[z7,hVV,Int.pow_add W32 n (m+1)];grind);rw[hRR]at hva;rcases(show bo=0∨bo=1 by omega)with rfl|rfl
     · exact .inl ⟨rfl,by rw[hva,Int.mul_zero];omega⟩
     · exact .inr ⟨rfl,by rw[hva,Int.mul_one];omega⟩
   rintro⟨bz,z⟩ ⟨z1,z2,z3,z4,z5⟩;dsimp only at*;have hzn:=val_nonneg (B:=W32) (by decide) (z1.drop n);have hzW:val W32 (z.drop n)<W32^(m+1):=val_hi (z1.drop n) (fun j hj=>by rw[getD_drop,z4 _ (by omega)];have:=hi0 (hxB.drop n) (by rw[hRR];exact hR1) j hj;rwa[getD_drop]at this);have e1:(g+1)*V=g*V+V:=by grind
   refine Tm.bind (Q:=fun r:List Int×Int=>InB W32 r.1∧r.1.length=x.length∧r.1.take n=x.take n∧0≤r.2∧r.2<4294967296∧val W32 (r.1.drop n)=R-r.2*V∧val W32 (r.1.drop n)<V) ?_ ?_
   · refine Tm.ite (fun hz=>?_) (fun hz=>Tm.pure ?_)
     · have z6:val W32 (z.drop n)=R-g*V+W32^(m+1):=by
        rcases z5 with z5|z5
        · rw[z5.1]at hz;cases hz
        · exact z5.2
       refine Tm.bind (b4_tm (v:=v) (u:=z) (n:=n) (m:=m) hv hvB z1 (by omega) (by omega)) ?_;rintro⟨s,carry⟩ ⟨s1,s2,s3,s4,s5,s6,s7⟩;dsimp only at*;have hset:=fun y=>val_set (B:=W32) (l:=s) (n:=n+m) (y:=y) (by omega);rw[←getD_ok (l:=s) (n:=n+m) (by omega)]at hset;have hsd:=s1.getD (B:=W32) (by decide) (n+m);refine Tm.step (idx_g rfl (by omega)) (Tm.step (idx_g rfl (by omega)) (Tm.step (upd1_i rfl (by omega)) (Tm.pure ?_)));have hsu:=fun k hk=>s4 k hk;generalize hD:s.getD (n+m) 0=D at*;simp only[W32]at hsd;have ec:uw32 (D+uw32 carry)=(D+carry)%4294967296:=by rw[uw32_mod,uw32_mod];omega
       rw[ec];have hdm:=Int.emod_add_mul_ediv (D+carry) 4294967296;have hdb:0≤(D+carry)%4294967296∧(D+carry)%4294967296<4294967296:=by omega
       generalize(D+carry)%4294967296=D' at*;generalize(D+carry)/4294967296=tt at*;have hB':InB W32 (s.set (n+m) D'):=s1.set (by simp only[W32];omega);have hva:=val_above (u:=z) (x:=s.set (n+m) D') (n:=n) (t:=V-W32^(m+1)*tt) (by omega) (by simp;omega) (by rw[List.take_set_of_le (by omega)];exact s3) (by
        rw[hset,s7,hVV,Int.pow_add,Int.pow_succ];have hw:W32=4294967296:=rfl;have e4:D'=D+carry-4294967296*tt:=by omega
        rw[e4];generalize W32^n=P at*;generalize W32^m=Q at*;rw[hw];grind)
       have hlo:=val_nonneg (B:=W32) (by decide) (hB'.drop n);have hhi:val W32 ((s.set (n+m) D').drop n)<W32^(m+1):=val_hi (hB'.drop n) (fun j hj=>by
        rw[getD_drop,getD_set (by omega),if_neg (by omega),s4 _ (by omega),z4 _ (by omega)];have:=hi0 (hxB.drop n) (by rw[hRR];exact hR1) j hj;rwa[getD_drop]at this)
       have hpp:=pow_pos' (B:=W32) (by decide) (m+1);have hgp:0<g:=by
        rcases Int.lt_or_le 0 g with h'|h'
        · exact h'
        · have:g=0:=by omega
          subst this;rw[Int.zero_mul]at z6;omega
       have htt:tt=1:=by
        have e3:tt=0∨tt=1:=by omega
        rcases e3 with e3|e3
        · subst e3;rw[hva,z6,Int.mul_zero]at hhi;omega
        · exact e3
       subst htt;have e5:(g-1)*V=g*V-V:=by grind
       refine⟨hB',by simp;omega,by dsimp only;rw[List.take_set_of_le (by omega)];exact s3.trans z3,?_,?_,?_,?_⟩
       · show 0≤uw (g-1);rw[uw_id]<;>omega
       · show uw (g-1)<_;rw[uw_id]<;>omega
       · show val W32 ((s.set (n+m) D').drop n)=R-uw (g-1)*V;rw[uw_id (show 0≤g-1 by omega) (by omega),hva,z6,e5,Int.mul_one];omega
       · show val W32 ((s.set (n+m) D').drop n)<V;rw[hva,z6,Int.mul_one];omega
     · have z6:val W32 (z.drop n)=R-g*V:=by
        rcases z5 with z5|z5
        · exact z5.2
        · exact absurd z5.1 hz
       exact⟨z1,z2,z3,g0,g1,z6,by dsimp only;omega⟩
   rintro⟨s,g'⟩ ⟨s1,s2,s3,s4,s5,s6,s7⟩;dsimp only at*;refine Tm.step (idx_g rfl (by omega)) (Tm.step (upd1_i rfl (by omega)) (Tm.pure ?_));have eg:uw32 g'=g':=by rw[uw32_mod];omega
   rw[eg];refine⟨⟨n,by show iw ((n:Int)-1)=_;rw[iw_eq]<;>omega,by omega,s1,s2.trans hx,hyB.set (by simp only[W32];omega),by simp;omega,?_,s7⟩,?_⟩
   · show val W32 u=val W32 s+W32^n*(V*val W32 ((y.set n g').drop n));rw[List.drop_eq_getElem_cons (by simp;omega),val_cons,List.getElem_set_self,List.drop_set_of_lt (by omega),hval,val_split (B:=W32) (l:=s) n (by omega),s6,s3,val_split (B:=W32) (l:=x) n (by omega),hRR,Int.pow_succ];generalize W32^n=P at*;generalize W32=W at*;grind
   · show(iw ((n:Int)-1)+1).toNat<((n:Int)+1).toNat;rw[iw_eq]<;>omega
 · obtain rfl:k=0:=by omega
   simp only[List.drop_zero,Int.pow_zero,Int.one_mul]at hval hlt;exact⟨hxB,hx,hyB,hy,hval,hlt⟩
open Go Go.X
theorem dvd_emod_of{x:Int}{s:Nat}(hs:s≤31)(z:Int)(h:x=2^s*z):x%4294967296%2^s=0:=by
 have hPQ:=pow_dvd32 hs;rw[←hPQ,Int.emod_emod_of_dvd _ (Int.dvd_mul_right _ _),h,Int.mul_emod_right]
theorem b5_tm{u z:List Int}{n:Int}{s m:Nat}{t:Int}(hn:uw n=s)(hs:s≤31)(hz:z=List.replicate m 0)(huB:InB W32 u)(hu:m<u.length)(hul:u.length≤17592186044416)(hm:0<m)(hv:val W32 u<W32^m)(ht:val W32 u=t*2^s):
 Tm (fun N=>loopM (bdivide_b4 N n u z) N (z,0)) (fun r=>InB W32 r∧r.length=m∧val W32 r=t):=by
 subst hz;have hPQ:=pow_dvd32 hs;have hP:(0:Int)<2^s:=Int.pow_pos (by decide);have hQ:(0:Int)<2^(32-s):=Int.pow_pos (by decide);have hP31:(2:Int)^s≤2147483648:=pow_mono (B:=2) (by decide) hs;have c0:u.getD 0 0%2^s=0:=by
  have h1:val W32 u%4294967296=u.getD 0 0:=by
   cases u with
   |nil=>simp at hu
   |cons x l=>
    have:=huB.head;simp only[val,List.getD_cons_zero];rw[show W32*val W32 l=4294967296*val W32 l from rfl,Int.add_mul_emod_self_left];simp only[W32]at this;omega
  rw[←h1];exact dvd_emod_of hs t (by rw[ht,Int.mul_comm])
 refine Tm.loop (fun r:List Int×Int=>∃j:Nat,r.2=j∧j≤m∧InB W32 r.1∧r.1.length=m∧val W32 (r.1.take j)*2^s=val W32 (u.take j)+W32^j*(u.getD j 0%2^s)) (fun r=>m-r.2.toNat)
  ⟨0,rfl,by omega,InB.rep (by decide),by simp,by rw[c0];simp[val]⟩ ?_
 rintro⟨r,jj⟩ ⟨j,rfl,hj,hB,hr,hval⟩;dsimp only[bdivide_b4]at*;rw[List.length_replicate];refine Tm.ite (fun h=>?_) (fun h=>Tm.pure ?_)
 · have hj1:iw ((j:Int)+1)=((j+1:Nat):Int):=by rw[iw_eq]<;>omega
   rw[hj1,hn];refine Tm.step (idx_g rfl (by omega)) (Tm.step (idx_g rfl (by omega)) (Tm.step (chk_ok (by omega)) (Tm.step (idx_g rfl (by omega)) (Tm.step (upd1_i rfl (by omega)) (Tm.pure ?_)))));have hx:=huB.getD (B:=W32) (by decide) j;have hy:=huB.getD (B:=W32) (by decide) (j+1);have hut:=val_take (B:=W32) (l:=u) (n:=j);have hts:=fun y=>take_set (l:=r) (n:=j) (y:=y) (by omega);generalize u.getD j 0=x at*;generalize hY:u.getD (j+1) 0=y at*;simp only[W32]at hx hy;rw[uw_id hx.1 (by omega),uw_id hy.1 (by omega),bor_hi hy.1 hy.2 hx.1 hx.2];have esh:bshr .u64 (y*4294967296+x) (s:Int)=(y*4294967296+x)/2^s:=by
    unfold bshr;rw[show min ((s:Int)).toNat IntKind.u64.bits=s by show min _ 64=s;omega];exact Int.fdiv_eq_ediv_of_nonneg _ (Int.le_of_lt hP)
   rw[esh];have hx1:=Int.emod_add_mul_ediv x (2^s);have hy1:=Int.emod_add_mul_ediv y (2^s);have hxm0:=Int.emod_nonneg x (show(2:Int)^s≠0 by omega);have hxm1:=Int.emod_lt_of_pos x hP;have hym0:=Int.emod_nonneg y (show(2:Int)^s≠0 by omega);have hym1:=Int.emod_lt_of_pos y hP;have hxd1:x/2^s<2^(32-s):=Int.ediv_lt_of_lt_mul hP (by rw[Int.mul_comm,hPQ];omega);have hxd0:0≤x/2^s:=Int.ediv_nonneg hx.1 (by omega);have e1:(y*4294967296+x)/2^s=y*2^(32-s)+x/2^s:=by
    rw[←hPQ,show y*(2^s*2^(32-s))+x=x+2^s*(y*2^(32-s)) by grind,Int.add_mul_ediv_left _ _ (by omega),Int.add_comm]
   have e2:uw32 (y*2^(32-s)+x/2^s)=(y%2^s)*2^(32-s)+x/2^s:=by
    have hle:(y%2^s)*2^(32-s)+2^(32-s)≤4294967296:=by
     have:=Int.mul_le_mul_of_nonneg_right (show y%2^s+1≤2^s by omega) (show(0:Int)≤2^(32-s) by omega);rw[hPQ]at this;have e:(y%2^s+1)*2^(32-s)=(y%2^s)*2^(32-s)+2^(32-s):=by grind
     omega
    have hge:0≤(y%2^s)*2^(32-s):=Int.mul_nonneg hym0 (by omega);have e3:y*2^(32-s)+x/2^s=(y%2^s)*2^(32-s)+x/2^s+4294967296*(y/2^s):=by
     have e4:4294967296*(y/2^s)=2^s*2^(32-s)*(y/2^s):=by rw[hPQ]
     have e5:y*2^(32-s)=(y%2^s+2^s*(y/2^s))*2^(32-s):=by rw[hy1]
     rw[e4,e5];grind
    rw[uw32_mod,e3,Int.add_mul_emod_self_left,Int.emod_eq_of_lt (by omega) (by omega)]
   rw[e1,e2];have hdig:0≤(y%2^s)*2^(32-s)+x/2^s∧(y%2^s)*2^(32-s)+x/2^s<4294967296:=by
    rw[←e2,uw32_mod];omega
   refine⟨⟨j+1,rfl,by omega,hB.set (by simp only[W32];exact hdig),by simp;omega,?_⟩,?_⟩
   · show val W32 ((r.set j _).take (j+1))*2^s=val W32 (u.take (j+1))+W32^(j+1)*(u.getD (j+1) 0%2^s);rw[hY];rw[hts,hut,Int.pow_succ];have hw:W32=2^s*2^(32-s):=hPQ.symm;have e6:W32^j*W32*(y%2^s)=W32^j*(2^s*2^(32-s))*(y%2^s):=by rw[←hw]
     rw[e6];have e7:W32^j*x=W32^j*(x%2^s+2^s*(x/2^s)):=by rw[hx1]
     rw[e7];generalize W32^j=P at*;generalize val W32 (r.take j)=a1 at*;generalize val W32 (u.take j)=a2 at*;have:(a1+P*((y%2^s)*2^(32-s)+x/2^s))*2^s=a1*2^s+P*((y%2^s)*2^(32-s)+x/2^s)*2^s:=by grind
     rw[this,hval];grind
   · show m-(((j+1:Nat):Int)).toNat<m-((j:Int)).toNat;omega
 · obtain rfl:j=m:=by omega
   rw[take_all (by omega),hi0 huB hv j (Nat.le_refl _)]at hval;have h1:=val_cut (B:=W32) (l:=u) (n:=j) (by omega) (fun k hk hmk=>by have:=hi0 huB hv k hmk;rwa[getD_ok hk]at this);rw[h1,ht]at hval;simp only[Int.zero_emod,Int.mul_zero,Int.add_zero]at hval;exact⟨hB,hr,Int.eq_of_mul_eq_mul_right (by omega) hval⟩
theorem nrm_last{l:List Int}(h:InB W32 l)(hn:Nrm l)(hl:0<l.length):0<l.getD (l.length-1) 0:=by
 have h1:=h.getD (B:=W32) (by decide) (l.length-1);have h2:l.getD (l.length-1) 0≠0:=by
  intro e;apply hn;rw[List.getLast?_eq_getElem?,List.getElem?_eq_getElem (by omega)];rw[getD_ok (by omega)]at e;rw[e]
 omega
theorem bdivide_tm{a b:List Int}(ha:InB W32 a)(hb:InB W32 b)(na:Nrm a)(nb:Nrm b)(hb0:0<b.length)(hl:a.length≤8796093022208)(hl':b.length≤8796093022208):
 Tm (fun N=>bdivide N a b) (fun r=>Dg W32 r.1 (val W32 a/val W32 b)∧Dg W32 r.2 (val W32 a%val W32 b)∧r.1.length≤a.length∧r.2.length≤a.length+1):=by
 unfold bdivide;have hA0:=val_nonneg (B:=W32) (by decide) ha;have hB0:=nrm_pos (B:=W32) (by decide) hb nb (by intro e;rw[e]at hb0;simp at hb0);refine Tm.bind (bcompare_tm ha hb na nb (by omega) (by omega)) ?_;rintro _ rfl;refine Tm.ite (fun h=>?_) (fun h=>?_)
 · have hlt:val W32 a<val W32 b:=by revert h;unfold sgn;split<;>(try split)<;>omega
   refine Tm.bind (btrim_tm ha (by omega)) ?_;rintro r ⟨hr,hrl⟩;refine Tm.pure ⟨?_,?_,by simp,by dsimp only;omega⟩
   · rw[Int.ediv_eq_zero_of_lt hA0 hlt];exact Dg.nil
   · rw[Int.emod_eq_of_lt hA0 hlt];exact hr
 · have hge:val W32 b≤val W32 a:=by revert h;unfold sgn;split<;>(try split)<;>omega
   have hle:b.length≤a.length:=by
    rcases Nat.lt_or_ge a.length b.length with h'|h'
    · have:=len_cmp w32_pos ha hb nb h';omega
    · exact h'
   have hlast:=nrm_last hb nb hb0;have hlast':=hb.getD (B:=W32) (by decide) (b.length-1);refine Tm.ite (fun h1=>?_) (fun h1=>?_)
   · have hb1:b.length=1:=by omega
     refine Tm.step (idx_g (n:=0) rfl (by omega)) ?_;have hbv:val W32 b=b.getD 0 0:=by
      match b,hb1 with
      |[x],_=>simp[val]
     rw[hb1]at hlast hlast';simp only[Nat.sub_self]at hlast hlast';refine Tm.bind (bshort_tm ha hlast hlast'.2 (by omega)) ?_;rintro⟨q,r⟩ ⟨hq,hqv,hrv,hql⟩;dsimp only at*;refine Tm.bind (btrim_tm hq (by omega)) ?_;rintro q' ⟨hq',hql'⟩;have hr0:=Int.emod_nonneg (val W32 a) (show b.getD 0 0≠0 by omega);have hr1:=Int.emod_lt_of_pos (val W32 a) hlast;refine Tm.bind (btrim_tm (d:=[r]) (InB.cons (by rw[hrv];omega) InB.nil) (by simp)) ?_;rintro r' ⟨hr',hrl'⟩;refine Tm.pure ⟨?_,?_,by dsimp only;omega,by simp at hrl';dsimp only;omega⟩
     · rw[hbv,←hqv];exact hq'
     · rw[hbv,←hrv];simpa[val]using hr'
   · have hm:2≤b.length:=by omega
     generalize hmm:b.length=m at*;have hbm:iw ((m:Int)-1)=((m-1:Nat):Int):=by rw[iw_eq]<;>omega
     rw[hbm];refine Tm.step (idx_g rfl (by omega)) ?_;generalize hx:b.getD (m-1) 0=x at*;refine Tm.bind (lz32_tm hlast hlast'.2) ?_;rintro _ ⟨s,rfl,hs,s1,s2⟩;have eus:uw (s:Int)=s:=uw_id (by omega) (by omega);refine Tm.bind (bshift_tm eus hs ha (by omega)) ?_;rintro u ⟨huB,huv,hul⟩;refine Tm.bind (bshift_tm eus hs hb (by omega)) ?_;rintro v0 ⟨hvB0,hvv0,hvl0⟩;refine Tm.step (cut_i (m:=0) (n:=m) rfl rfl (by omega) (by omega)) ?_;simp only[List.drop_zero];have hPQ:=pow_dvd32 hs;have hP:(0:Int)<2^s:=Int.pow_pos (by decide);have hQ:(0:Int)<2^(32-s):=Int.pow_pos (by decide);have hP31:(2:Int)^s≤2147483648:=pow_mono (B:=2) (by decide) hs;have hbt:val W32 b=val W32 (b.take (m-1))+W32^(m-1)*x:=by
      have:=val_take (B:=W32) (l:=b) (n:=m-1);rwa[take_all (by omega),hx]at this
     have hbl:=val_lt (B:=W32) (by decide) (hb.take (m-1));rw[List.length_take,Nat.min_eq_left (by omega)]at hbl;have hbl0:=val_nonneg (B:=W32) (by decide) (hb.take (m-1));have pm:=pow_pos' (B:=W32) (by decide) (m-1);have pm1:W32^m=W32^(m-1)*W32:=by rw[←Int.pow_succ];congr 1;omega
     have hx32:(x+1)*2^s≤4294967296:=by
      have h1:x*2^s<2^(32-s)*2^s:=by rw[Int.mul_comm (2^(32-s)),hPQ];exact s2
      have h2:=Int.lt_of_mul_lt_mul_right h1 (by omega);have h3:=Int.mul_le_mul_of_nonneg_right (show x+1≤2^(32-s) by omega) (show(0:Int)≤2^s by omega);rw[Int.mul_comm (2^(32-s)),hPQ]at h3;exact h3
     have hv0m:val W32 v0<W32^m:=by
      have h1:val W32 b<W32^(m-1)*(x+1):=by rw[Int.mul_add];omega
      have h2:=Int.mul_lt_mul_of_pos_right h1 hP;have h3:=Int.mul_le_mul_of_nonneg_left hx32 (show 0≤W32^(m-1) by omega);have e:W32^(m-1)*(x+1)*2^s=W32^(m-1)*((x+1)*2^s):=by grind
      rw[hvv0,pm1];simp only[W32]at*;omega
     have hvv:val W32 (v0.take m)=val W32 b*2^s:=by
      rw[←hvv0];exact val_cut (by omega) (fun k hk hmk=>by have:=hi0 hvB0 hv0m k hmk;rwa[getD_ok hk]at this)
     have hvl:(v0.take m).length=m:=by simp;omega
     have hvB:=hvB0.take m;generalize v0.take m=v at*;have hvge:2147483648*W32^(m-1)≤val W32 v:=by
      rw[hvv];have h1:=Int.mul_le_mul_of_nonneg_right (show W32^(m-1)*x≤val W32 b by omega) (show(0:Int)≤2^s by omega);have h2:=Int.mul_le_mul_of_nonneg_left s1 (show 0≤W32^(m-1) by omega);have e:W32^(m-1)*x*2^s=W32^(m-1)*(x*2^s):=by grind
      rw[Int.mul_comm 2147483648];omega
     have hv1:0<v.getD (m-1) 0:=by
      have h1:val W32 v=val W32 (v.take (m-1))+W32^(m-1)*v.getD (m-1) 0:=by
       have:=val_take (B:=W32) (l:=v) (n:=m-1);rwa[take_all (by omega)]at this
      have h2:=val_lt (B:=W32) (by decide) (hvB.take (m-1));rw[List.length_take,Nat.min_eq_left (by omega)]at h2;have h3:=hvB.getD (B:=W32) (by decide) (m-1);rcases Int.lt_or_le 0 (v.getD (m-1) 0)with h4|h4
      · exact h4
      · have h5:v.getD (m-1) 0=0:=by omega
        rw[h5]at h1;omega
     refine Tm.step (mk1_ok (n:=a.length+1-m) (by rw[hul,iw_eq]<;>omega) (by omega) (by decide)) ?_;have hul2:u.length=(List.replicate (a.length+1-m) (0:Int)).length+m:=by simp;omega
     refine Tm.bind (b1_tm (b:=b) (v:=v) (u:=u) (q:=List.replicate (a.length+1-m) 0) (m:=m) hmm hm hvl hvB huB (InB.rep (by decide)) hul2 (by omega) hv1 ?_) ?_
     · have h1:=val_split (B:=W32) (l:=u) (List.replicate (a.length+1-m) (0:Int)).length (by omega);rw[List.length_replicate]at h1⊢;have h2:=val_nonneg (B:=W32) (by decide) (huB.take (a.length+1-m));have h3:=Int.mul_lt_mul_of_pos_right (val_lt (B:=W32) (by decide) ha) hP;have p1:W32^a.length=W32^(a.length+1-m)*W32^(m-1):=by rw[←Int.pow_add];congr 1;omega
       have h4:W32^(a.length+1-m)*val W32 (u.drop (a.length+1-m))<W32^(a.length+1-m)*(W32^(m-1)*2^s):=by
        rw[←Int.mul_assoc,←p1];omega
       have h5:=Int.lt_of_mul_lt_mul_left h4 (by have:=pow_pos' (B:=W32) (by decide) (a.length+1-m);omega);have h6:=Int.mul_le_mul_of_nonneg_left hP31 (show 0≤W32^(m-1) by omega);rw[Int.mul_comm 2147483648]at hvge;omega
     rintro⟨u',q⟩ ⟨hu'B,hu'l,hqB,hql,hAv,hlt⟩;dsimp only at*;refine Tm.step (mk1_ok (n:=m) rfl (by omega) (by decide)) ?_;have hu0:=val_nonneg (B:=W32) (by decide) hu'B;have ht:val W32 u'=(val W32 a-val W32 b*val W32 q)*2^s:=by
      rw[huv,hvv]at hAv;have e:(val W32 a-val W32 b*val W32 q)*2^s=val W32 a*2^s-val W32 b*2^s*val W32 q:=by grind
      omega
     have hr0:0≤val W32 a-val W32 b*val W32 q:=by
      rcases Int.lt_or_le (val W32 a-val W32 b*val W32 q) 0 with h1|h1
      · have:=Int.mul_le_mul_of_nonneg_right (show val W32 a-val W32 b*val W32 q≤-1 by omega) (show(0:Int)≤2^s by omega);omega
      · exact h1
     have hr1:val W32 a-val W32 b*val W32 q<val W32 b:=by
      rw[ht,hvv]at hlt;exact Int.lt_of_mul_lt_mul_right hlt (by omega)
     refine Tm.bind (b5_tm (u:=u') (n:=(s:Int)) (s:=s) (m:=m) eus hs rfl hu'B (by omega) (by omega) (by omega) (by have:=val_lt (B:=W32) (by decide) hvB;rw[hvl]at this;omega) ht) ?_;rintro r ⟨hrB,hrl,hrv⟩;refine Tm.bind (btrim_tm hqB (by rw[hql];simp;omega)) ?_;rintro q' ⟨hq',hql'⟩;refine Tm.bind (btrim_tm hrB (by omega)) ?_;rintro r' ⟨hr',hrl'⟩;have hdm:=(Int.ediv_emod_unique (a:=val W32 a) (b:=val W32 b) (r:=val W32 a-val W32 b*val W32 q) (q:=val W32 q) hB0).2 ⟨by omega,hr0,hr1⟩;rw[List.length_replicate]at hql;refine Tm.pure ⟨?_,?_,by dsimp only;omega,by dsimp only;omega⟩
     · rw[hdm.1];exact hq'
     · rw[hdm.2,←hrv];exact hr'
structure DivP (a b:Int)(r:Big×Big×Bool):Prop where
 ok:r.2.2=decide (b≠0)
 quo:Is r.1 (a.fdiv b)
 rem:Is r.2.1 (if b=0 then 0 else a.fmod b)
theorem dv_same{x y:Int}(hx:0≤x)(hy:0<y):(-x).fdiv (-y)=x/y∧(-x).fmod (-y)=-(x%y):=by
 have h1:(-x).fdiv (-y)=x.fdiv y:=Int.neg_fdiv_neg _ _;rw[h1,Int.fdiv_eq_ediv_of_nonneg _ (by omega)];refine⟨rfl,?_⟩;have h2:=Int.mul_fdiv_add_fmod (-x) (-y);rw[h1,Int.fdiv_eq_ediv_of_nonneg _ (by omega)]at h2;have h3:=Int.emod_add_mul_ediv x y;have e:-y*(x/y)=-(y*(x/y)):=by grind
 omega
theorem dv_diff{x y:Int}(hy:0<y):(-x).fdiv y=(if x%y=0 then-(x/y)else-(x/y+1))∧(-x).fmod y=(if x%y=0 then 0 else y-x%y):=by
 rw[Int.fdiv_eq_ediv_of_nonneg _ (by omega),Int.fmod_eq_emod_of_nonneg _ (by omega)];have h3:=Int.emod_add_mul_ediv x y;have h4:=Int.emod_nonneg x (show y≠0 by omega);have h5:=Int.emod_lt_of_pos x hy;split
 · rename_i h;have:=(Int.ediv_emod_unique (a:=-x) (b:=y) (r:=0) (q:=-(x/y)) hy).2 ⟨by have e:y*-(x/y)=-(y*(x/y)):=(by grind);omega,by omega,by omega⟩;exact this
 · have:=(Int.ediv_emod_unique (a:=-x) (b:=y) (r:=y-x%y) (q:=-(x/y+1)) hy).2 ⟨by have e:y*-(x/y+1)=-(y*(x/y))-y:=(by grind);omega,by omega,by omega⟩;exact this
theorem dv_neg{x y:Int}:x.fdiv (-y)=(-x).fdiv y∧x.fmod (-y)=-((-x).fmod y):=by
 have h1:x.fdiv (-y)=(-x).fdiv y:=by rw[←Int.neg_fdiv_neg x,Int.neg_neg]
 refine⟨h1,?_⟩;have h2:=Int.mul_fdiv_add_fmod x (-y);have h3:=Int.mul_fdiv_add_fmod (-x) y;rw[h1]at h2;have e:-y*(-x).fdiv y=-(y*(-x).fdiv y):=by grind
 omega
theorem inB1:InB W32 [1]:=InB.cons (by decide) InB.nil
theorem bDivFloor_tm{a b:Big}(ha:InB W32 a.Digits)(hb:InB W32 b.Digits)(hl:a.Digits.length≤4398046511104)(hl':b.Digits.length≤4398046511104):
 Tm (fun N=>bDivFloor N a b) (fun r=>DivP (bv a) (bv b) r∧r.1.Digits.length≤a.Digits.length+2∧r.2.1.Digits.length≤max (a.Digits.length+1) b.Digits.length):=by
 unfold bDivFloor;refine Tm.bind (bNormal_tm ha (by omega)) ?_;rintro x ⟨hx,hxl⟩;refine Tm.bind (bNormal_tm hb (by omega)) ?_;rintro y ⟨hy,hyl⟩;have hz:=hy.dg.zero (by decide);refine Tm.ite (fun h=>Tm.pure ?_) (fun h=>?_)
 · have h0:bv b=0:=by have:=hz.1 (List.length_eq_zero_iff.1 (by omega));omega
   refine⟨⟨by simp[h0],?_,?_⟩,by simp,by simp⟩
   · rw[h0,Int.fdiv_zero];exact⟨Dg.nil,rfl⟩
   · rw[if_pos h0];exact⟨Dg.nil,rfl⟩
 · have h0:bv b≠0:=fun e=>h (by rw[hz.2 (by omega)];rfl);have hyl0:0<y.Digits.length:=by omega
   have vx:=hx.val_pos;have vy:=hy.val_pos;have n1:=hx.neg;have n2:=hy.neg;have X0:=val_nonneg (B:=W32) (by decide) hx.dg.inB;refine Tm.bind (bdivide_tm hx.dg.inB hy.dg.inB hx.dg.nrm hy.dg.nrm hyl0 (by omega) (by omega)) ?_;rintro⟨q,r⟩ ⟨hq,hr,hql,hrl⟩;dsimp only at*;generalize hX:val W32 x.Digits=X at*;generalize hY:val W32 y.Digits=Y at*;have Y0:0<Y:=by rw[vy];split<;>omega
   have hr0:=Int.emod_nonneg X (show Y≠0 by omega);have hr1:=Int.emod_lt_of_pos X Y0;have hq0:=Int.ediv_nonneg X0 (show 0≤Y by omega);have hrz:=hr.zero (by decide);refine Tm.ite (fun hs=>?_) (fun hs=>?_)
   · 
     have hab:(bv a).fdiv (bv b)=(-X).fdiv Y∧(bv a).fmod (bv b)=if y.Negative=true then-((-X).fmod Y)else(-X).fmod Y:=by
      have hs':¬x.Negative=y.Negative:=by simpa using hs
      by_cases p:bv a<0<;>by_cases p':bv b<0<;>simp only[p,p',decide_true,decide_false,if_true,if_false]at n1 n2 vx vy
      · rw[n1,n2]at hs';exact absurd rfl hs'
      · rw[n2,show bv a=-X by omega,show bv b=Y by omega];simp
      · rw[n2,show bv a=X by omega,show bv b=-Y by omega];simpa using dv_neg
      · rw[n1,n2]at hs';exact absurd rfl hs'
     have hdd:=dv_diff (x:=X) Y0;refine Tm.bind (Q:=fun t:List Int×List Int=>InB W32 t.1∧InB W32 t.2∧-(val W32 t.1)=(-X).fdiv Y∧val W32 t.2=(-X).fmod Y∧t.1.length≤x.Digits.length+2∧t.2.length≤max (x.Digits.length+1) y.Digits.length) (Tm.ite (fun hrp=>?_) (fun hrp=>Tm.pure ?_)) ?_
     · have hrne:X%Y≠0:=fun e=>by have:=hrz.2 e;rw[this]at hrp;simp at hrp
       rw[if_neg hrne,if_neg hrne]at hdd;refine Tm.bind (bplus_tm hq.inB inB1 (by omega) (by simp)) ?_;rintro q1 ⟨hq1,hq1v,hq1l⟩;have hle:r.length≤y.Digits.length:=by
        rcases Nat.lt_or_ge y.Digits.length r.length with h'|h'
        · have:=len_cmp w32_pos hy.dg.inB hr.inB hr.nrm h';rw[hY,hr.val]at this;omega
        · exact h'
       refine Tm.bind (bminus_tm hy.dg.inB hr.inB (by omega) hle (by rw[hY,hr.val];omega)) ?_;rintro r1 ⟨hr1B,hr1v,hr1l⟩;refine Tm.pure ⟨hq1,hr1B,?_,?_,?_,by dsimp only;omega⟩
       · rw[hdd.1,hq1v,hq.val];simp[val]
       · rw[hdd.2,hr1v,hY,hr.val]
       · simp only[List.length_cons,List.length_nil]at hq1l;dsimp only;omega
     · have hre:r=[]:=List.length_eq_zero_iff.1 (by omega);have hrz':=hrz.1 hre;rw[if_pos hrz',if_pos hrz']at hdd;refine⟨hq.inB,hr.inB,?_,?_,by dsimp only;omega,by dsimp only;omega⟩
       · rw[hdd.1,hq.val]
       · rw[hdd.2,hr.val,hrz']
     rintro⟨q1,r1⟩ ⟨hq1,hr1B,hq1v,hr1v,hq1l,hr1l⟩;dsimp only at*;refine Tm.bind (bnormal_tm hq1 (by omega)) ?_;rintro q2 ⟨hq2,hq2l⟩;refine Tm.bind (bnormal_tm hr1B (by omega)) ?_;rintro r2 ⟨hr2,hr2l⟩;refine Tm.pure ⟨⟨by simp[h0],?_,?_⟩,by dsimp only;omega,by dsimp only;omega⟩
     · rw[hab.1,←hq1v];simpa using hq2
     · rw[if_neg h0,hab.2,←hr1v];exact hr2
   · 
     have hs':x.Negative=y.Negative:=by simpa using hs
     have hab:(bv a).fdiv (bv b)=X/Y∧(bv a).fmod (bv b)=if y.Negative=true then-(X%Y)else X%Y:=by
      by_cases p:bv a<0<;>by_cases p':bv b<0<;>simp only[p,p',decide_true,decide_false,if_true,if_false]at n1 n2 vx vy
      · rw[n2,show bv a=-X by omega,show bv b=-Y by omega];simpa using dv_same X0 Y0
      · rw[n1,n2]at hs';cases hs'
      · rw[n1,n2]at hs';cases hs'
      · rw[n2,show bv a=X by omega,show bv b=Y by omega,Int.fdiv_eq_ediv_of_nonneg _ (by omega),Int.fmod_eq_emod_of_nonneg _ (by omega)];simp
     refine Tm.bind (bnormal_tm hq.inB (by omega)) ?_;rintro q2 ⟨hq2,hq2l⟩;refine Tm.bind (bnormal_tm hr.inB (by omega)) ?_;rintro r2 ⟨hr2,hr2l⟩;refine Tm.pure ⟨⟨by simp[h0],?_,?_⟩,by dsimp only;omega,by dsimp only;omega⟩
     · rw[hab.1,←hq.val];simpa using hq2
     · rw[if_neg h0,hab.2,←hr.val];exact hr2
open Go Go.X
theorem len_le{B:Int}(hB:1<B){a b:List Int}(ha:InB B a)(hb:InB B b)(nb:Nrm b)(h:val B b≤val B a):b.length≤a.length:=by
 rcases Nat.lt_or_ge a.length b.length with h'|h'
 · have:=len_cmp hB ha hb nb h';omega
 · exact h'
def bitv(j:Nat):Int:=if j=0 then 0 else 2^(j-1)
theorem bitv_succ(j:Nat):bitv (j+1)=2^j:=by simp[bitv]
theorem bitv_half(j:Nat)(hj:j<16):iw (Int.tdiv (bitv (j+1)) 2)=bitv j:=by
 rw[bitv_succ];cases j with
 |zero=>decide
 |succ j=>
  rw[bitv_succ,tdivP (Int.le_of_lt (Int.pow_pos (by decide))),Int.pow_succ,Int.mul_ediv_cancel _ (by decide)];have h1:=pow_pos' (B:=2) (by decide) j;have h2:=pow_mono (B:=2) (by decide) (show j≤15 by omega);have e:(2:Int)^15=32768:=by decide
  rw[iw_eq]<;>omega
theorem half_bit{x:Int}(hx:0≤x)(j:Nat):x/2^j=2*(x/2^(j+1))+x/2^j%2:=by
 have h:=Int.emod_add_mul_ediv (x/2^j) 2;have e:x/2^j/2=x/2^(j+1):=by rw[Int.ediv_ediv_of_nonneg (Int.le_of_lt (Int.pow_pos (by decide))),Int.pow_succ]
 rw[e]at h;omega
theorem rsplit2_tm{a b q r:List Int}{n:Nat}{H Qh:Int}(ha:InB W16 a)(hb:InB W16 b)(nb:Nrm b)(hb0:0<val W16 b)(hla:a.length≤4398046511104)(hlb:b.length≤4398046511104)(hn:n<a.length)(hq:q.length=a.length)(hqB:InB W16 q)(hqn:q.getD n 0=0)
 (hr:Dg W16 r (val W16 r))(hrlt:val W16 r<val W16 b)(hI:H=val W16 b*Qh+val W16 r):
 Tm (fun N=>loopM (rsplit_b2 N a b n) N (q,r,32768)) (fun t=>t.1.length=a.length∧InB W16 t.1∧Dg W16 t.2 (val W16 t.2)∧val W16 t.2<val W16 b∧(∀m,m≠n→t.1.getD m 0=q.getD m 0)∧H*65536+a.getD n 0=val W16 b*(Qh*65536+t.1.getD n 0)+val W16 t.2):=by
 have hx:=ha.getD (B:=W16) (by decide) n;generalize hxx:a.getD n 0=x at*;simp only[W16]at hx;have key:∀r:List Int,Dg W16 r (val W16 r)→val W16 r<val W16 b→r.length≤b.length:=fun r h1 h2=>len_le w16_pos hb h1.inB h1.nrm (by omega);refine Tm.loop (fun t:List Int×List Int×Int=>∃(j:Nat) (y:Int),t.2.2=bitv j∧j≤16∧t.1.length=a.length∧InB W16 t.1∧Dg W16 t.2.1 (val W16 t.2.1)∧val W16 t.2.1<val W16 b∧(∀m,m≠n→t.1.getD m 0=q.getD m 0)∧0≤y∧y<2^(16-j)∧t.1.getD n 0=y*2^j∧H*2^(16-j)+x/2^j=val W16 b*(Qh*2^(16-j)+y)+val W16 t.2.1) (fun t=>t.2.2.toNat)
  ⟨16,0,rfl,Nat.le_refl _,hq,hqB,hr,hrlt,fun _ _=>rfl,by simp,by simp,by rw[hqn];simp,?_⟩ ?_
 · show H*2^(16-16)+x/2^16=_;have e:(2:Int)^16=65536:=by decide
   rw[e,Int.ediv_eq_zero_of_lt hx.1 hx.2];simp;omega
 rintro⟨qq,rr,bit⟩ ⟨j,y,rfl,hj,hql,hqqB,hrr,hrrlt,hoth,y0,y1,hy,hI2⟩;dsimp only[rsplit_b2]at*;have hr0:=hrr.nonneg (by decide);cases j with
 |zero=>
  refine Tm.neg (by decide) (Tm.pure ⟨hql,hqqB,hrr,hrrlt,hoth,?_⟩);simp only[Nat.sub_zero,Int.pow_zero,Int.mul_one,Int.ediv_one]at hy hI2;have e:(2:Int)^16=65536:=by decide
  rw[e]at hI2;show H*65536+x=val W16 b*(Qh*65536+qq.getD n 0)+val W16 rr;rw[hy];exact hI2
 |succ j=>
  have hhalf:=bitv_half j (by omega);rw[hhalf];rw[bitv_succ];have hP:=Int.pow_pos (n:=2) (m:=j) (by decide);have hP2:(2:Int)^j≤32768:=pow_mono (B:=2) (by decide) (show j≤15 by omega);refine Tm.pos (by omega) ?_;have hrl:=key rr hrr hrrlt;refine Tm.bind (rplus_tm hrr.inB hrr.inB (by omega) (by omega)) ?_;rintro r2 ⟨hr2,hr2l⟩;refine Tm.step (idx_g rfl (by omega)) ?_;rw[hxx];refine Tm.step (sdiv_ok (by omega)) ?_;rw[tdivP hx.1];have hd0:=Int.ediv_nonneg hx.1 (show(0:Int)≤2^j by omega);have hd1:x/2^j≤x:=Int.ediv_le_self _ hx.1;rw[show IntKind.i64.wrap (x/2^j)=x/2^j from wi64 (by omega) (by omega),tmodP hd0];have hhb:=half_bit hx.1 j;have hv:val W16 r2=val W16 rr+val W16 rr:=hr2.val;have r3:Tm (fun N=>if x/2^j%2=1 then(rplus N r2 [1]).bind fun r1352=>some r1352 else some r2) (fun t=>Dg W16 t (2*val W16 rr+x/2^j%2)∧t.length≤b.length+2):=by
   refine Tm.ite (fun h=>?_) (fun h=>Tm.pure ⟨?_,by omega⟩)
   · refine Tm.bind (rplus_tm hr2.inB (InB.cons (by decide) InB.nil) (by omega) (by simp)) ?_;rintro t ⟨ht,htl⟩;refine Tm.pure ⟨?_,by simp only[List.length_cons,List.length_nil]at htl;omega⟩;rw[hv]at ht;simp only[val]at ht;rw[h,show 2*val W16 rr+1=val W16 rr+val W16 rr+(1+W16*0) by omega];exact ht
   · rw[show 2*val W16 rr+x/2^j%2=val W16 rr+val W16 rr by omega];exact hr2
  refine Tm.bind r3 ?_;rintro r3 ⟨h3,h3l⟩;refine Tm.bind (rorder_tm h3.inB hb h3.nrm nb (by omega) (by omega)) ?_;rintro _ rfl;rw[h3.val];have hbit:0≤x/2^j%2∧x/2^j%2≤1:=by omega
  have hsub:16-j=(16-(j+1))+1:=by omega
  have hy2:(2:Int)^(16-j)=2*2^(16-(j+1)):=by rw[hsub,Int.pow_succ,Int.mul_comm]
  have hyj:y*2^(j+1)=2*y*2^j:=by rw[Int.pow_succ];grind
  have hmeas:(bitv j).toNat<((2:Int)^j).toNat:=by
   cases j with
   |zero=>decide
   |succ j=>
    rw[bitv_succ,Int.pow_succ];have:=Int.pow_pos (n:=2) (m:=j) (by decide);omega
  refine Tm.ite (fun h=>?_) (fun h=>Tm.pure ⟨⟨j,2*y,rfl,by omega,hql,hqqB,by rw[h3.val];exact h3,?_,hoth,by omega,by omega,by rw[hy,hyj],?_⟩,hmeas⟩)
  · have hge:val W16 b≤2*val W16 rr+x/2^j%2:=by revert h;unfold sgn;split<;>(try split)<;>omega
    have hle:b.length≤r3.length:=len_le w16_pos h3.inB hb nb (by rw[h3.val];exact hge);refine Tm.bind (rminus_tm h3.inB hb (by omega) hle (by rw[h3.val];exact hge)) ?_;rintro r4 ⟨h4,h4l⟩;rw[h3.val]at h4;have hqn:=hqqB.getD (B:=W16) (by decide) n;refine Tm.step (idx_g rfl (by omega)) (Tm.step (idx_g rfl (by omega)) (Tm.step (upd1_i rfl (by omega)) (Tm.pure ?_)));simp only[W16]at hqn;rw[hy,hyj]at hqn⊢;have hq2:2*y*2^j+2^j=(2*y+1)*2^j:=by grind
    have hlt:(2*y+1)*2^j<65536:=by
     have h5:=Int.mul_le_mul_of_nonneg_right (show 2*y+1+1≤2^(16-j) by omega) (show(0:Int)≤2^j by omega);rw[←Int.pow_add,show 16-j+j=16 by omega]at h5;have e:(2:Int)^16=65536:=by decide
     have e2:(2*y+1+1)*2^j=(2*y+1)*2^j+2^j:=by grind
     omega
    rw[show iw (2*y*2^j+2^j)=(2*y+1)*2^j by rw[iw_eq]<;>omega];refine⟨⟨j,2*y+1,rfl,by omega,by simp;omega,hqqB.set (by simp only[W16];omega),by rw[h4.val];exact h4,by dsimp only;rw[h4.val];omega,fun m hm=>?_,by omega,by omega,?_,?_⟩,hmeas⟩
    · show(qq.set n _).getD m 0=_;rw[getD_set (by omega),if_neg (fun e=>hm e.symm)];exact hoth m hm
    · show(qq.set n _).getD n 0=_;rw[getD_set (by omega),if_pos rfl]
    · show H*2^(16-j)+x/2^j=val W16 b*(Qh*2^(16-j)+(2*y+1))+val W16 r4;rw[h4.val,hy2,hhb];generalize val W16 b=B at*;generalize val W16 rr=R at*;generalize(2:Int)^(16-(j+1))=T at*;generalize x/2^(j+1)=X at*;generalize x/2^j%2=z at*;grind
  · show val W16 r3<val W16 b;rw[h3.val];revert h;unfold sgn;split<;>(try split)<;>omega
  · show H*2^(16-j)+x/2^j=val W16 b*(Qh*2^(16-j)+2*y)+val W16 r3;rw[h3.val,hy2,hhb];generalize val W16 b=B at*;generalize val W16 rr=R at*;generalize(2:Int)^(16-(j+1))=T at*;generalize x/2^(j+1)=X at*;generalize x/2^j%2=z at*;grind
theorem rsplit_tm{a b:List Int}(ha:InB W16 a)(hb:InB W16 b)(nb:Nrm b)(hb0:0<val W16 b)(hla:a.length≤4398046511104)(hlb:b.length≤4398046511104):
 Tm (fun N=>rsplit N a b) (fun t=>Dg W16 t.1 (val W16 a/val W16 b)∧Dg W16 t.2 (val W16 a%val W16 b)∧t.1.length≤a.length∧t.2.length≤b.length):=by
 unfold rsplit;refine Tm.step (mk1_ok rfl (by omega) (by decide)) ?_;refine Tm.bind (Q:=fun t:List Int×List Int=>t.1.length=a.length∧InB W16 t.1∧Dg W16 t.2 (val W16 t.2)∧val W16 t.2<val W16 b∧val W16 a=val W16 b*val W16 t.1+val W16 t.2)
  (Tm.loop (fun t:List Int×List Int×Int=>∃k:Nat,t.2.2=(k:Int)-1∧k≤a.length∧t.1.length=a.length∧InB W16 t.1∧Dg W16 t.2.1 (val W16 t.2.1)∧val W16 t.2.1<val W16 b∧(∀m,m<k→t.1.getD m 0=0)∧val W16 (a.drop k)=val W16 b*val W16 (t.1.drop k)+val W16 t.2.1) (fun t=>(t.2.2+1).toNat)
   ⟨a.length,by rw[iw_eq]<;>omega,Nat.le_refl _,by simp,InB.rep (by decide),Dg.nil,by simpa[val]using hb0,fun m hm=>by rw[getD_ok (by simpa using hm)];simp,by simp[val]⟩ ?_) ?_
 · rintro⟨q,r,i⟩ ⟨k,rfl,hk,hq,hqB,hr,hrlt,hz,hv⟩;dsimp only[rsplit_b1]at*;refine Tm.ite (fun h=>?_) (fun h=>Tm.pure ?_)
   · obtain⟨n,rfl⟩:∃n,k=n+1:=⟨k-1,by omega⟩;have hi:((n+1:Nat):Int)-1=(n:Int):=by omega
     rw[hi];refine Tm.bind (rsplit2_tm (n:=n) ha hb nb hb0 hla hlb (by omega) hq hqB (hz n (by omega)) hr hrlt hv) ?_;rintro⟨q',r'⟩ ⟨h1,h2,h3,h4,h5,h6⟩;dsimp only at*;refine Tm.pure ⟨⟨n,by show iw ((n:Int)-1)=_;rw[iw_eq]<;>omega,by omega,h1,h2,h3,h4,fun m hm=>?_,?_⟩,?_⟩
     · show q'.getD m 0=0;rw[h5 m (by omega)];exact hz m (by omega)
     · show val W16 (a.drop n)=val W16 b*val W16 (q'.drop n)+val W16 r';have hqd:q'.drop (n+1)=q.drop (n+1):=by
        apply List.ext_getElem (by simp;omega);intro i g1 g2;rw[List.getElem_drop,List.getElem_drop];have:=h5 (n+1+i) (by omega);simp only[List.length_drop]at g1 g2;rwa[getD_ok (by omega),getD_ok (by omega)]at this
       rw[List.drop_eq_getElem_cons (l:=a) (by omega),List.drop_eq_getElem_cons (l:=q') (by omega),val_cons,val_cons,hqd,←getD_ok (l:=a),←getD_ok (l:=q')];have hw:W16=65536:=rfl;rw[hw]at*;generalize val 65536 (a.drop (n+1))=H at*;generalize val 65536 (q.drop (n+1))=Qh at*;have e1:a.getD n 0+65536*H=H*65536+a.getD n 0:=by omega
       have e2:q'.getD n 0+65536*Qh=Qh*65536+q'.getD n 0:=by omega
       rw[e1,e2];exact h6
     · show(iw ((n:Int)-1)+1).toNat<((n:Int)+1).toNat;rw[iw_eq]<;>omega
   · obtain rfl:k=0:=by omega
     simp only[List.drop_zero]at hv;exact⟨hq,hqB,hr,hrlt,hv⟩
 · rintro⟨q,r⟩ ⟨hq,hqB,hr,hrlt,hv⟩;dsimp only at*;refine Tm.bind (rtrim_tm hqB (by omega)) ?_;rintro q' ⟨hq',hql⟩;have hr0:=hr.nonneg (by decide);have hdm:=(Int.ediv_emod_unique (a:=val W16 a) (b:=val W16 b) (r:=val W16 r) (q:=val W16 q) hb0).2 ⟨by omega,hr0,hrlt⟩;refine Tm.pure ⟨?_,?_,by dsimp only;omega,len_le w16_pos hb hr.inB hr.nrm (show val W16 r≤val W16 b by omega)⟩
   · rw[hdm.1];exact hq'
   · rw[hdm.2];exact hr
theorem rDivFloor_tm{a b:Big}(ha:InB W32 a.Digits)(hb:InB W32 b.Digits)(hl:a.Digits.length≤1099511627776)(hl':b.Digits.length≤1099511627776):
 Tm (fun N=>rDivFloor N a b) (fun r=>DivP (bv a) (bv b) r):=by
 unfold rDivFloor;refine Tm.bind (rSign_tm hb (by omega)) ?_;rintro _ rfl;refine Tm.ite (fun h=>Tm.pure ?_) (fun h=>?_)
 · have h0:bv b=0:=by revert h;unfold sgn;split<;>(try split)<;>omega
   exact⟨by simp[h0],by rw[h0,Int.fdiv_zero];exact⟨Dg.nil,rfl⟩,by rw[if_pos h0];exact⟨Dg.nil,rfl⟩⟩
 · have h0:bv b≠0:=by revert h;unfold sgn;split<;>(try split)<;>omega
   refine Tm.bind (halves_tm ha (by omega)) ?_;rintro l ⟨hl1,hl2⟩;refine Tm.bind (halves_tm hb (by omega)) ?_;rintro m ⟨hm1,hm2⟩;have A0:=val_nonneg (B:=W32) (by decide) ha;have B0:=val_nonneg (B:=W32) (by decide) hb;have hbv:bv b=if b.Negative=true then-val W32 b.Digits else val W32 b.Digits:=rfl;have hav:bv a=if a.Negative=true then-val W32 a.Digits else val W32 a.Digits:=rfl;have B1:0<val W32 b.Digits:=by revert h0;rw[hbv];split<;>omega
   refine Tm.bind (rsplit_tm hl1.inB hm1.inB hm1.nrm (by rw[hm1.val];exact B1) (by omega) (by omega)) ?_;rintro⟨q,r⟩ ⟨hq,hr,hql,hrl⟩;rw[hl1.val,hm1.val]at hq hr;dsimp only at*;refine Tm.bind (rbig_tm (neg:=!(a.Negative==b.Negative)) hq.inB (by omega)) ?_;rintro q1 ⟨hq1,hq1l⟩;refine Tm.bind (rbig_tm (neg:=a.Negative) hr.inB (by omega)) ?_;rintro r1 ⟨hr1,hr1l⟩;rw[hq.val]at hq1;rw[hr.val]at hr1;generalize hA:val W32 a.Digits=A at*;generalize hB:val W32 b.Digits=B at*;have m0:=Int.emod_nonneg A (show B≠0 by omega);have m1:=Int.emod_lt_of_pos A B1;have hdd:=dv_diff (x:=A) B1;have hds:=dv_same A0 B1;have hdn:=dv_neg (x:=A) (y:=B);generalize hQ:(if(!(a.Negative==b.Negative))=true then-(A/B)else A/B)=Q at*;generalize hR:(if a.Negative=true then-(A%B)else A%B)=R at*;have hfd:(bv a).fdiv (bv b)=(if sgn R 0≠0∧sgn R 0≠sgn (bv b) 0 then Q-1 else Q)∧(bv a).fmod (bv b)=(if sgn R 0≠0∧sgn R 0≠sgn (bv b) 0 then R+bv b else R):=by
    have sp:sgn B 0=1:=by unfold sgn;rw[if_neg (by omega),if_pos (by omega)]
    have sn:sgn (-B) 0=-1:=by unfold sgn;rw[if_pos (by omega)]
    rw[hav,hbv];cases hna:a.Negative<;>cases hnb:b.Negative<;>simp only[hna,hnb]at hQ hR<;>simp at hQ hR<;>subst hQ<;>subst hR
    · simp only[Bool.false_eq_true,if_false,sp];have e:¬(sgn (A%B) 0≠0∧sgn (A%B) 0≠1):=by unfold sgn;rw[if_neg (by omega)];split<;>omega
      rw[if_neg e,if_neg e,Int.fdiv_eq_ediv_of_nonneg _ (by omega),Int.fmod_eq_emod_of_nonneg _ (by omega)];exact⟨rfl,rfl⟩
    · simp only[Bool.false_eq_true,if_false,if_true,sn];rw[hdn.1,hdn.2,hdd.1,hdd.2];by_cases e0:A%B=0
      · have e:¬(sgn (A%B) 0≠0∧sgn (A%B) 0≠-1):=by rw[e0];decide
        rw[if_neg e,if_neg e,if_pos e0,if_pos e0];omega
      · have e:sgn (A%B) 0≠0∧sgn (A%B) 0≠-1:=by unfold sgn;rw[if_neg (by omega),if_pos (by omega)];decide
        rw[if_pos e,if_pos e,if_neg e0,if_neg e0];omega
    · simp only[Bool.false_eq_true,if_false,if_true,sp];rw[hdd.1,hdd.2];by_cases e0:A%B=0
      · have e:¬(sgn (-(A%B)) 0≠0∧sgn (-(A%B)) 0≠1):=by rw[e0];decide
        rw[if_neg e,if_neg e,if_pos e0,if_pos e0];omega
      · have e:sgn (-(A%B)) 0≠0∧sgn (-(A%B)) 0≠1:=by unfold sgn;rw[if_pos (by omega)];decide
        rw[if_pos e,if_pos e,if_neg e0,if_neg e0];omega
    · simp only[if_true,sn];have e:¬(sgn (-(A%B)) 0≠0∧sgn (-(A%B)) 0≠-1):=by unfold sgn;split<;>(try split)<;>omega
      rw[if_neg e,if_neg e];exact hds
   have hr1v:=hr1.bv;refine Tm.bind (Q:=(·=decide (sgn R 0≠0∧sgn R 0≠sgn (bv b) 0))) (Tm.bind (rSign_tm hr1.dg.inB (by omega)) ?_) ?_
   · rintro _ rfl;rw[hr1v];refine Tm.ite (fun h1=>?_) (fun h1=>Tm.pure ?_)
     · refine Tm.bind (rSign_tm hr1.dg.inB (by omega)) ?_;rintro _ rfl;refine Tm.bind (rSign_tm hb (by omega)) ?_;rintro _ rfl;rw[hr1v];refine Tm.pure ?_;simp[h1]
     · simp at h1;simp[h1]
   rintro _ rfl;refine Tm.bind (Q:=fun t:Big×Big=>Is t.1 ((bv a).fdiv (bv b))∧Is t.2 ((bv a).fmod (bv b))) ?_ ?_
   · rw[hfd.1,hfd.2];refine Tm.ite (fun h1=>?_) (fun h1=>Tm.pure ?_)
     · have h1:=of_decide_eq_true h1;refine Tm.bind (rOf_tm (n:=1) (by decide) (by decide)) ?_;rintro o ⟨ho,hol⟩;refine Tm.bind (rSub_tm hq1.dg.inB ho.dg.inB (by omega) (by omega)) ?_;rintro q2 ⟨hq2,_⟩;refine Tm.bind (rAdd_tm hr1.dg.inB hb (by omega) (by omega)) ?_;rintro r2 ⟨hr2,_⟩;rw[hq1.bv,ho.bv]at hq2;rw[hr1v]at hr2;refine Tm.pure ⟨?_,?_⟩
       · rw[if_pos h1];exact hq2
       · rw[if_pos h1];exact hr2
     · have h1:¬(sgn R 0≠0∧sgn R 0≠sgn (bv b) 0):=by simpa using h1
       rw[if_neg h1,if_neg h1];exact⟨hq1,hr1⟩
   · rintro⟨q2,r2⟩ ⟨hq2,hr2⟩;exact Tm.pure ⟨by simp[h0],hq2,by rw[if_neg h0];exact hr2⟩
open Go Go.X
abbrev ineq0:Ineq:=⟨[],⟨false,[]⟩⟩
theorem idx_gb{xs:List Big}{i:Int}{n:Nat}(e:i=(n:Int))(h:n<xs.length):idx xs i=some (xs.getD n big0):=by
 rw[getDb h];exact idx_i e h
theorem idx_gq{xs:List Ineq}{i:Int}{n:Nat}(e:i=(n:Int))(h:n<xs.length):idx xs i=some (xs.getD n ineq0):=by
 rw[List.getD_eq_getElem?_getD,List.getElem?_eq_getElem h];exact idx_i e h
theorem getDb_set{l:List Big}{n m:Nat}{y:Big}(h:n<l.length):(l.set n y).getD m big0=if n=m then y else l.getD m big0:=by
 rw[List.getD_eq_getElem?_getD,List.getD_eq_getElem?_getD,List.getElem?_set];by_cases e:n=m
 · subst e;simp[h]
 · simp[e]
theorem getDq_mem{l:List Ineq}{n:Nat}(h:n<l.length):l.getD n ineq0∈l:=by
 rw[List.getD_eq_getElem?_getD,List.getElem?_eq_getElem h];exact List.getElem_mem h
theorem getDb_mem{l:List Big}{n:Nat}(h:n<l.length):l.getD n big0∈l:=by
 rw[List.getD_eq_getElem?_getD,List.getElem?_eq_getElem h];exact List.getElem_mem h
def IsF(n:Nat)(c:List Big)(f:Nat→Int):Prop:=c.length=n∧∀j,j<n→Is (c.getD j big0) (f j)
theorem IsF.uniq{n:Nat}{c c':List Big}{f:Nat→Int}(h:IsF n c f)(h':IsF n c' f):c=c':=by
 apply List.ext_getElem (h.1.trans h'.1.symm);intro i h1 h2;have g1:=h.2 i (by rw[←h.1];exact h1);have g2:=h'.2 i (by rw[←h.1];exact h1);rw[getDb h1]at g1;rw[getDb h2]at g2;exact g1.uniq g2
theorem pw_loop{ρ:Type}{body:Nat→List Big×Int→Option (Stp (List Big×Int) ρ)}{fin:List Big→ρ}{bad:ρ}{n K K':Nat}{f g:Nat→Int}{F:Nat→Prop}{c0:List Big}(hn:n≤1073741824)(h0:IsF n c0 f)(hk0:∀j,j<n→(c0.getD j big0).Digits.length≤K)
 (step:∀k,k<n→∀c:List Big,c.length=n→Is (c.getD k big0) (f k)→(c.getD k big0).Digits.length≤K→
  Tm (fun N=>body N (c,(k:Int))) (fun s=>(∃y,s=.next (c.set k y,iw ((k:Int)+1))∧Is y (g k)∧y.Digits.length≤K'∧¬F k)∨(s=.done bad∧F k)))
 (stop:∀c:List Big,c.length=n→Tm (fun N=>body N (c,(n:Int))) (fun s=>s=.done (fin c))):
 Tm (fun N=>loopM (body N) N (c0,0)) (fun r=>(∃c,r=fin c∧IsF n c g∧(∀j,j<n→(c.getD j big0).Digits.length≤K')∧∀k,k<n→¬F k)∨(r=bad∧∃k,k<n∧F k)):=by
 refine Tm.loop (fun t:List Big×Int=>∃k:Nat,t.2=k∧k≤n∧t.1.length=n∧(∀j,j<k→Is (t.1.getD j big0) (g j)∧(t.1.getD j big0).Digits.length≤K'∧¬F j)∧∀j,k≤j→j<n→Is (t.1.getD j big0) (f j)∧(t.1.getD j big0).Digits.length≤K) (fun t=>n-t.2.toNat)
  ⟨0,rfl,Nat.zero_le _,h0.1,fun j hj=>absurd hj (by omega),fun j _ hj=>⟨h0.2 j hj,hk0 j hj⟩⟩ ?_
 rintro⟨c,kk⟩ ⟨k,rfl,hk,hc,h1,h2⟩;dsimp only at*;rcases Nat.lt_or_ge k n with hkn|hkn
 · refine(step k hkn c hc (h2 k (Nat.le_refl _) hkn).1 (h2 k (Nat.le_refl _) hkn).2).mono ?_;rintro s (⟨y,rfl,hy,hyl,hF⟩|⟨rfl,hF⟩)
   · refine⟨⟨k+1,by show iw ((k:Int)+1)=_;rw[iw_eq]<;>omega,by omega,by simp;omega,fun j hj=>?_,fun j hj hjn=>?_⟩,?_⟩
     · show Is ((c.set k y).getD j big0) (g j)∧((c.set k y).getD j big0).Digits.length≤K'∧¬F j;rw[getDb_set (by omega)];by_cases e:k=j
       · subst e;rw[if_pos rfl];exact⟨hy,hyl,hF⟩
       · rw[if_neg e];exact h1 j (by omega)
     · show Is ((c.set k y).getD j big0) (f j)∧((c.set k y).getD j big0).Digits.length≤K;rw[getDb_set (by omega),if_neg (by omega)];exact h2 j (by omega) hjn
     · show n-(iw ((k:Int)+1)).toNat<n-((k:Int)).toNat;rw[iw_eq]<;>omega
   · exact .inr ⟨rfl,k,hkn,hF⟩
 · obtain rfl:k=n:=by omega
   refine(stop c hc).mono ?_;rintro s rfl;exact .inl ⟨c,rfl,⟨hc,fun j hj=>(h1 j hj).1⟩,fun j hj=>(h1 j hj).2.1,fun j hj=>(h1 j hj).2.2⟩
def nV(l:List Ineq):Nat:=(l.getD 0 ineq0).Coefs.length
def evenV(l:List Ineq):Prop:=∀q∈l,q.Coefs.length=nV l
instance (l:List Ineq):Decidable (evenV l):=inferInstanceAs (Decidable (∀q∈l,q.Coefs.length=nV l))
def badU(l:List Ineq)(u:Use):Prop:=u.Index<0∨(l.length:Int)≤u.Index∨bv u.N<0
instance (l:List Ineq)(u:Use):Decidable (badU l u):=inferInstanceAs (Decidable (_∨_∨_))
def addF(l:List Ineq)(u:Use)(a:(Nat→Int)×Int):(Nat→Int)×Int:=(fun j=>a.1 j+bv u.N*bv ((l.getD u.Index.toNat ineq0).Coefs.getD j big0),a.2+bv u.N*bv (l.getD u.Index.toNat ineq0).Bound)
def sumF(l:List Ineq):List Use→(Nat→Int)×Int→Option ((Nat→Int)×Int)
 |[],a=>some a
 |u::us,a=>if badU l u then none else sumF l us (addF l u a)
def ApplyP(l:List Ineq)(s:Step)(r:Ineq×Bool):Prop:= if evenV l∧0<bv s.Divisor then match sumF l s.Uses (fun _=>0,0)with
  |none=>r=(ineq0,false)
  |some (f,b)=>if∀j,j<nV l→f j%bv s.Divisor=0 then r.2=true∧IsF (nV l) r.1.Coefs (fun j=>f j/bv s.Divisor)∧Is r.1.Bound (b/bv s.Divisor)else r=(ineq0,false) else r=(ineq0,false)
theorem ApplyP.uniq{l:List Ineq}{s:Step}{r r':Ineq×Bool}(h:ApplyP l s r)(h':ApplyP l s r'):r=r':=by
 unfold ApplyP at h h';split at h
 · rename_i hc;rw[if_pos hc]at h';cases hs:sumF l s.Uses (fun _=>0,0)with
   |none=>rw[hs]at h h';exact h.trans h'.symm
   |some a=>
    rw[hs]at h h';obtain⟨f,b⟩:=a;dsimp only at h h';split at h
    · rename_i hd;rw[if_pos hd]at h';obtain⟨⟨c,d⟩,t⟩:=r;obtain⟨⟨c',d'⟩,t'⟩:=r';have h1:c=c':=h.2.1.uniq h'.2.1;have h2:d=d':=h.2.2.uniq h'.2.2;have h3:t=t':=h.1.trans h'.1.symm;subst h1;subst h2;subst h3;rfl
    · rename_i hd;rw[if_neg hd]at h';exact h.trans h'.symm
 · rename_i hc;rw[if_neg hc]at h';exact h.trans h'.symm
theorem sgn_pos{a:Int}:0<sgn a 0↔0<a:=by unfold sgn;(repeat' split)<;>omega
structure OkS (s:Step):Prop where
 len:s.Uses.length≤12
 use:∀u∈s.Uses,OkB 4 u.N
 div:OkB 4 s.Divisor
theorem containsIneq_tm{f:Nat→Ineq→Option Bool}{p:Ineq→Bool}{s:List Ineq}(hl:s.length≤9223372036854775807)(hf:∀q∈s,Tm (fun N=>f N q) (fun r=>r=p q)):Tm (fun N=>containsIneq N s (f N)) (fun r=>r=s.any p):=by
 unfold containsIneq;refine Tm.bind (Q:=fun r:Int=>(0≤r↔s.any p=true)) ?_ (fun r hr=>Tm.pure ?_)
 · unfold indexIneq;refine Tm.bind (Tm.each (body:=fun N=>indexIneq_b1 N (f N) s) s (fun q=>p q=false) (Q:=fun r=>(r=.inl ()∧s.any p=false)∨∃z:Int,r=.inr z∧0≤z∧s.any p=true) hl ?_ ?_) ?_
   · intro n hn hP;dsimp only[indexIneq_b1];refine Tm.pos (by omega) (Tm.step (idx_ok hn) (Tm.bind (hf _ (List.getElem_mem hn)) ?_));rintro _ rfl;refine Tm.ite (fun h=>Tm.pure (.inr ⟨_,rfl,.inr ⟨_,rfl,by omega,List.any_eq_true.2 ⟨_,List.getElem_mem hn,h⟩⟩⟩)) (fun h=>Tm.pure (.inl ⟨rfl,by simpa using h⟩))
   · intro hP;dsimp only[indexIneq_b1];refine Tm.neg (by omega) (Tm.pure ⟨_,rfl,.inl ⟨rfl,?_⟩⟩);rw[Bool.eq_false_iff];intro h;obtain⟨q,hq,h1⟩:=List.any_eq_true.1 h;rw[hP q hq]at h1;cases h1
   · rintro _ (⟨rfl,h⟩|⟨z,rfl,hz,h⟩)
     · exact Tm.pure (by rw[h];simp)
     · exact Tm.pure (by rw[h];simpa using hz)
 · by_cases h:0≤r
   · rw[hr.1 h];simpa using h
   · have:s.any p=false:=by rw[Bool.eq_false_iff];exact fun e=>h (hr.2 e)
     rw[this];simpa using h
theorem cwidth_tm{l:List Ineq}(hl:l.length≤9223372036854775807):Tm (fun N=>cwidth N l) (fun r=>r=((nV l:Int),decide (evenV l))):=by
 unfold cwidth;refine Tm.ite (fun h=>Tm.pure ?_) (fun h=>?_)
 · have:l=[]:=List.length_eq_zero_iff.1 (by omega);subst this;simp[nV,evenV]
 · refine Tm.step (idx_gq (n:=0) rfl (by omega)) ?_;refine Tm.bind (containsIneq_tm (p:=fun q=>decide (((q.Coefs.length:Int):Int)≠((l.getD 0 ineq0).Coefs.length:Int))) hl (fun q _=>by unfold width1;exact Tm.pure rfl)) ?_;rintro _ rfl;refine Tm.pure ?_;have:(!l.any fun q=>decide (((q.Coefs.length:Int):Int)≠((l.getD 0 ineq0).Coefs.length:Int)))=decide (evenV l):=by
    by_cases he:evenV l
    · have:(l.any fun q=>decide (((q.Coefs.length:Int):Int)≠((l.getD 0 ineq0).Coefs.length:Int)))=false:=by
       rw[Bool.eq_false_iff];intro h;obtain⟨q,hq,h1⟩:=List.any_eq_true.1 h;have:=he q hq;unfold nV at this;simp[this]at h1
      rw[this];simp[he]
    · have:(l.any fun q=>decide (((q.Coefs.length:Int):Int)≠((l.getD 0 ineq0).Coefs.length:Int)))=true:=by
       have:∃q∈l,q.Coefs.length≠nV l:=by
        refine Classical.byContradiction fun h=>he fun q hq=>Classical.byContradiction fun h'=>h ⟨q,hq,h'⟩
       obtain⟨q,hq,h1⟩:=this;refine List.any_eq_true.2 ⟨q,hq,?_⟩;unfold nV at h1;exact decide_eq_true (by omega)
      rw[this];simp[he]
   rw[this];rfl
theorem rEven_tm{l:List Ineq}(hl:l.length≤9223372036854775807):Tm (fun N=>rEven N l) (fun r=>r=decide (evenV l)):=by
 unfold rEven;refine Tm.bind (Tm.each (body:=fun N=>rEven_b1 N l) l (fun q=>q.Coefs.length=nV l) (Q:=fun r=>(r=.inl ()∧evenV l)∨(r=.inr false∧¬evenV l)) hl ?_ ?_) ?_
 · intro n hn hP;dsimp only[rEven_b1];refine Tm.pos (by omega) (Tm.step (idx_ok hn) (Tm.step (idx_gq (n:=0) rfl (by omega)) ?_));refine Tm.ite (fun h=>Tm.pure (.inr ⟨_,rfl,.inr ⟨rfl,fun he=>?_⟩⟩)) (fun h=>Tm.pure (.inl ⟨rfl,?_⟩))
   · have:=he _ (List.getElem_mem hn);unfold nV at this;omega
   · unfold nV;omega
 · intro hP;dsimp only[rEven_b1];exact Tm.neg (by omega) (Tm.pure ⟨_,rfl,.inl ⟨rfl,hP⟩⟩)
 · rintro _ (⟨rfl,h⟩|⟨rfl,h⟩)
   · exact Tm.pure (by simp[h])
   · exact Tm.pure (by simp[h])
theorem evenV.get{l:List Ineq}(h:evenV l){n:Nat}(hn:n<l.length):(l.getD n ineq0).Coefs.length=nV l:=h _ (getDq_mem hn)
theorem IsF.rep{n:Nat}:IsF n (List.replicate n big0) (fun _=>0):=⟨by simp,fun j hj=>by rw[getDb (by simpa using hj)];simpa using is0⟩
theorem drop_cons{l:List Use}{k:Nat}(h:k<l.length):l.drop k=l[k]::l.drop (k+1):=List.drop_eq_getElem_cons h
theorem cApply_tm{K:Nat}{l:List Ineq}{s:Step}(hK:K≤536870912)(hl:l.length≤1073741824)(hq:∀q∈l,OkI K q)(hs:OkS s):Tm (fun N=>cApply N l s) (fun r=>ApplyP l s r∧OkI (K+20) r.1):=by
 have ok0:OkI (K+20) ineq0:=⟨Nat.zero_le _,⟨fun b hb=>(by cases hb),OkB.nil⟩⟩;unfold cApply;refine Tm.bind (cwidth_tm (by omega)) ?_;rintro _ rfl;refine Tm.bind (Q:=(·=decide (¬(evenV l∧0<bv s.Divisor)))) (Tm.ite (fun h=>Tm.pure ?_) (fun h=>?_)) ?_
 · have:¬evenV l:=by simpa using h
   simp[this]
 · have he:evenV l:=by simpa using h
   refine Tm.bind (bSign_tm hs.div.1 (by have:=hs.div.2;omega)) ?_;rintro _ rfl;refine Tm.pure ?_;have:=sgn_pos (a:=bv s.Divisor);by_cases h1:0<bv s.Divisor
   · have h2:=this.2 h1;simp[he,h1];omega
   · have h2:¬0<sgn (bv s.Divisor) 0:=fun e=>h1 (this.1 e);simp[h1];omega
 rintro _ rfl;refine Tm.ite (fun h=>Tm.pure ⟨?_,ok0⟩) (fun h=>?_)
 · unfold ApplyP;rw[if_neg (of_decide_eq_true h)]
 · have hc:evenV l∧0<bv s.Divisor:=by simpa using h
   obtain⟨he,hd⟩:=hc;have hn:nV l≤K:=by
    rcases Nat.eq_zero_or_pos l.length with h0|h0
    · have:l=[]:=List.length_eq_zero_iff.1 h0;subst this;simp[nV]
    · exact(hq _ (getDq_mem h0)).1
   refine Tm.step (mk1_ok rfl (by omega) (by decide)) ?_;refine Tm.bind (Q:=fun r:Sum (List Big×Bool×List Int) (Ineq×Bool)=>(∃f c neg ds,r=.inl (c,neg,ds)∧sumF l s.Uses (fun _=>0,0)=some (f,bv ⟨neg,ds⟩)∧IsF (nV l) c f∧(∀j,j<nV l→(c.getD j big0).Digits.length≤K+16)∧OkB (K+16) ⟨neg,ds⟩)∨(r=.inr (ineq0,false)∧sumF l s.Uses (fun _=>0,0)=none))
    (Tm.loop (fun t:List Big×Bool×List Int×Int=>∃(k:Nat) (f:Nat→Int),t.2.2.2=k∧k≤s.Uses.length∧sumF l s.Uses (fun _=>0,0)=sumF l (s.Uses.drop k) (f,bv ⟨t.2.1,t.2.2.1⟩)∧IsF (nV l) t.1 f∧(∀j,j<nV l→(t.1.getD j big0).Digits.length≤K+4+k)∧OkB (K+4+k) ⟨t.2.1,t.2.2.1⟩) (fun t=>s.Uses.length-t.2.2.2.toNat)
     ⟨0,fun _=>0,rfl,Nat.zero_le _,by rw[List.drop_zero,bv_nil],IsF.rep,fun j hj=>by rw[getDb (by simpa using hj)];simp,.nil⟩ ?_) ?_
   · rintro⟨c,neg,ds,kk⟩ ⟨k,f,rfl,hk,hsum,hcf,hcl,hb⟩;have hlen:=hs.len;dsimp only[cApply_b1]at*;refine Tm.ite (fun h1=>?_) (fun h1=>Tm.pure ?_)
     · have hku:k<s.Uses.length:=by omega
       refine Tm.step (idx_ok hku) ?_;have hu:=hs.use _ (List.getElem_mem hku);rw[drop_cons hku]at hsum;generalize s.Uses[k]=u at*;simp only[sumF]at hsum;refine Tm.bind (Q:=(·=decide (badU l u))) (Tm.ite (fun h2=>Tm.pure ?_) (fun h2=>Tm.ite (fun h3=>Tm.pure ?_) (fun h3=>?_))) ?_
       · have:badU l u:=.inl h2;simp[this]
       · have:badU l u:=.inr (.inl (by omega));simp[this]
       · refine Tm.bind (bSign_tm hu.1 (by have:=hu.2;omega)) ?_;rintro _ rfl;refine Tm.pure ?_;have:=sgn_neg (a:=bv u.N);unfold badU;by_cases h4:bv u.N<0
         · simp[h4,this.2 h4]
         · have:¬sgn (bv u.N) 0<0:=fun e=>h4 (this.1 e);simp[h4,this];omega
       rintro _ rfl;refine Tm.ite (fun h2=>Tm.pure ?_) (fun h2=>?_)
       · rw[if_pos (of_decide_eq_true h2)]at hsum;exact .inr ⟨rfl,hsum⟩
       · have hbu:¬badU l u:=by simpa using h2
         rw[if_neg hbu]at hsum;have hi:0≤u.Index∧u.Index<l.length∧0≤bv u.N:=by unfold badU at hbu;omega
         have hii:u.Index=(u.Index.toNat:Int):=by omega
         have hil:u.Index.toNat<l.length:=by omega
         refine Tm.step (idx_gq hii hil) ?_;have hqq:=hq _ (getDq_mem hil);have hqn:=he.get hil;generalize hQ:l.getD u.Index.toNat ineq0=q at*;have hu4:=hu.2;have hqb:=hqq.2.2.2;have inner:=pw_loop (ρ:=List Big) (body:=fun N=>cApply_b2 N u q) (fin:=fun c=>c) (bad:=[]) (n:=nV l) (K:=K+4+k) (K':=K+4+(k+1)) (f:=f) (g:=fun j=>f j+bv u.N*bv (q.Coefs.getD j big0)) (F:=fun _=>False) (c0:=c) (by omega) hcf hcl
          (fun j hj c' hc' h3 h4=>by
           dsimp only[cApply_b2];have hqj:=hqq.2.1 _ (getDb_mem (l:=q.Coefs) (n:=j) (by omega));have:=hqj.2;refine Tm.pos (by omega) (Tm.step (idx_gb rfl (by omega)) (Tm.step (idx_gb rfl (by omega)) (Tm.bind (bMul_tm hu.1 hqj.1 (by omega) (by omega)) ?_)));rintro m ⟨hm,hml⟩;refine Tm.bind (bAdd_tm h3.dg.inB hm.dg.inB (by omega) (by omega)) ?_;rintro a ⟨ha,hal⟩;refine Tm.step (idx_gb rfl (by omega)) (Tm.step (upd1_i rfl (by omega)) (Tm.pure (.inl ⟨a,rfl,?_,by omega,fun e=>e⟩)));rw[h3.bv,hm.bv]at ha;exact ha)
          (fun c' hc'=>by dsimp only[cApply_b2];exact Tm.neg (by omega) (Tm.pure rfl))
         refine Tm.bind inner ?_;rintro c2 (⟨_,rfl,hc2,hc2l,-⟩|⟨-,j,hj,hF⟩)
         · refine Tm.bind (bMul_tm hu.1 hqq.2.2.1 (by omega) (by omega)) ?_;rintro m ⟨hm,hml⟩;have hb2:ds.length≤K+4+k:=hb.2;refine Tm.bind (bAdd_tm hb.1 hm.dg.inB (show ds.length≤_ by omega) (by omega)) ?_;rintro a ⟨ha,hal⟩;dsimp only at hal;refine Tm.pure ⟨⟨k+1,_,by show iw ((k:Int)+1)=_;rw[iw_eq]<;>omega,by omega,?_,hc2,hc2l,ha.ok ?_⟩,?_⟩
           · show sumF l s.Uses (fun _=>0,0)=sumF l (s.Uses.drop (k+1)) (_,bv a);rw[ha.bv,hm.bv,hsum];unfold addF;rw[hQ]
           · omega
           · show s.Uses.length-(iw ((k:Int)+1)).toNat<s.Uses.length-((k:Int)).toNat;rw[iw_eq]<;>omega
         · exact hF.elim
     · have hkL:k=s.Uses.length:=by omega
       subst hkL;rw[List.drop_length]at hsum;exact .inl ⟨f,c,neg,ds,rfl,hsum,hcf,fun j hj=>by have:=hcl j hj;omega,hb.mono (by omega)⟩
   · rintro _ (⟨f,c,neg,ds,rfl,hsum,hcf,hcl,hb⟩|⟨rfl,hsum⟩)
     · dsimp only;have hb2:ds.length≤K+16:=hb.2;have hdv:=hs.div.2;have inner:=pw_loop (ρ:=Sum (List Big) (Ineq×Bool)) (body:=fun N=>cApply_b3 N s c) (fin:=fun c=>.inl c) (bad:=.inr (ineq0,false)) (n:=nV l) (K:=K+16) (K':=K+20) (f:=f) (g:=fun j=>f j/bv s.Divisor) (F:=fun j=>¬f j%bv s.Divisor=0) (c0:=c) (by omega) hcf hcl
        (fun j hj c' hc' h3 h4=>by
         dsimp only[cApply_b3];refine Tm.pos (by have:=hcf.1;omega) (Tm.step (idx_gb rfl (by omega)) (Tm.bind (bDivFloor_tm h3.dg.inB hs.div.1 (by omega) (by omega)) ?_));rintro⟨qq,rr,oo⟩ ⟨hD,hql,hrl⟩;have hquo:=hD.quo;have hrem:=hD.rem;dsimp only at hquo hrem hql hrl;rw[h3.bv,Int.fdiv_eq_ediv_of_nonneg _ (by omega)]at hquo;rw[h3.bv,if_neg (by omega),Int.fmod_eq_emod_of_nonneg _ (by omega)]at hrem;refine Tm.bind (bSign_tm hrem.dg.inB (show rr.Digits.length≤_ by omega)) ?_;rintro _ rfl;rw[hrem.bv];refine Tm.ite (fun h5=>Tm.pure (.inr ⟨rfl,fun e=>h5 (sgn_zero.2 e)⟩)) (fun h5=>?_);refine Tm.step (idx_gb rfl (by omega)) (Tm.step (upd1_i rfl (by omega)) (Tm.pure (.inl ⟨qq,rfl,hquo,by omega,fun e=>e (sgn_zero.1 (by omega))⟩))))
        (fun c' hc'=>by dsimp only[cApply_b3];exact Tm.neg (by have:=hcf.1;omega) (Tm.pure rfl))
       refine Tm.bind inner ?_;rintro _ (⟨c2,rfl,hc2,hc2l,hall⟩|⟨rfl,j,hj,hF⟩)
       · refine Tm.bind (bDivFloor_tm hb.1 hs.div.1 (show ds.length≤_ by omega) (by omega)) ?_;rintro⟨qq,rr,oo⟩ ⟨hD,hql,hrl⟩;have hquo:=hD.quo;dsimp only at hquo hql hrl;rw[Int.fdiv_eq_ediv_of_nonneg _ (by omega)]at hquo;refine Tm.pure ⟨?_,⟨by dsimp only;rw[hc2.1];omega,fun b hb'=>?_,hquo.ok (by omega)⟩⟩
         · unfold ApplyP;rw[if_pos ⟨he,hd⟩,hsum];dsimp only;rw[if_pos (fun j hj=>Classical.not_not.1 (hall j hj))];exact⟨rfl,hc2,hquo⟩
         · obtain⟨j,hj,rfl⟩:=List.mem_iff_getElem.1 hb';have hj':j<nV l:=by have:=hc2.1;dsimp only at hj;omega
           have h1:=hc2.2 j hj';have h2:=hc2l j hj';rw[getDb hj]at h1 h2;exact h1.ok h2
       · refine Tm.pure ⟨?_,ok0⟩;unfold ApplyP;rw[if_pos ⟨he,hd⟩,hsum];dsimp only;rw[if_neg (fun h=>hF (h j hj))]
     · refine Tm.pure ⟨?_,ok0⟩;unfold ApplyP;rw[if_pos ⟨he,hd⟩,hsum]
open Go Go.X
def In32(x:Big):Prop:=InB W32 x.Digits
theorem OkB.abs{K:Nat}{x:Big}(h:OkB K x):((bv x).natAbs:Int)<W32^K:=by
 have h0:=val_nonneg (B:=W32) (by decide) h.1;have h1:=val_lt (B:=W32) (by decide) h.1;have h2:=pow_mono (B:=W32) (by decide) h.2;unfold bv;split<;>omega
theorem rApply_tm{K:Nat}{l:List Ineq}{s:Step}(hK:K≤536870912)(hl:l.length≤1073741824)(hq:∀q∈l,OkI K q)(hs:OkS s):Tm (fun N=>rApply N l s) (fun r=>ApplyP l s r):=by
 unfold rApply;refine Tm.bind (Q:=(·=decide (¬(evenV l∧0<bv s.Divisor)))) (Tm.bind (rEven_tm (by omega)) ?_) ?_
 · rintro _ rfl;refine Tm.ite (fun h=>Tm.pure ?_) (fun h=>?_)
   · have:¬evenV l:=by simpa using h
     simp[this]
   · have he:evenV l:=by simpa using h
     refine Tm.bind (rSign_tm hs.div.1 (by have:=hs.div.2;omega)) ?_;rintro _ rfl;refine Tm.pure ?_;have:=sgn_pos (a:=bv s.Divisor);by_cases h1:0<bv s.Divisor
     · have h2:=this.2 h1;simp[he,h1];omega
     · have h2:¬0<sgn (bv s.Divisor) 0:=fun e=>h1 (this.1 e);simp[h1];omega
 rintro _ rfl;refine Tm.ite (fun h=>Tm.pure ?_) (fun h=>?_)
 · unfold ApplyP;rw[if_neg (of_decide_eq_true h)]
 · have hc:evenV l∧0<bv s.Divisor:=by simpa using h
   obtain⟨he,hd⟩:=hc;have hn:nV l≤K:=by
    rcases Nat.eq_zero_or_pos l.length with h0|h0
    · have:l=[]:=List.length_eq_zero_iff.1 h0;subst this;simp[nV]
    · exact(hq _ (getDq_mem h0)).1
   refine Tm.bind (Q:=(·=(nV l:Int))) (Tm.ite (fun h1=>Tm.step (idx_gq (n:=0) rfl (by omega)) (Tm.pure rfl)) (fun h1=>Tm.pure ?_)) ?_
   · have:l=[]:=List.length_eq_zero_iff.1 (by omega);subst this;simp[nV]
   rintro _ rfl;refine Tm.bind (Q:=(·=⟨List.replicate (nV l) big0,big0⟩)) (by unfold rzero;exact Tm.step (mk1_ok rfl (by omega) (by decide)) (Tm.pure rfl)) ?_;rintro _ rfl;dsimp only;refine Tm.bind (Q:=fun r:Sum (List Big×Bool×List Int) (Ineq×Bool)=>(∃f c neg ds,r=.inl (c,neg,ds)∧sumF l s.Uses (fun _=>0,0)=some (f,bv ⟨neg,ds⟩)∧IsF (nV l) c f∧(∀j,j<nV l→(c.getD j big0).Digits.length≤K+16)∧OkB (K+16) ⟨neg,ds⟩)∨(r=.inr (ineq0,false)∧sumF l s.Uses (fun _=>0,0)=none))
    (Tm.loop (fun t:List Big×Bool×List Int×Int=>∃(k:Nat) (f:Nat→Int),t.2.2.2=k∧k≤s.Uses.length∧sumF l s.Uses (fun _=>0,0)=sumF l (s.Uses.drop k) (f,bv ⟨t.2.1,t.2.2.1⟩)∧IsF (nV l) t.1 f∧(∀j,j<nV l→(t.1.getD j big0).Digits.length≤K+4+k)∧OkB (K+4+k) ⟨t.2.1,t.2.2.1⟩) (fun t=>s.Uses.length-t.2.2.2.toNat)
     ⟨0,fun _=>0,rfl,Nat.zero_le _,by rw[List.drop_zero,bv_nil],IsF.rep,fun j hj=>by rw[getDb (by simpa using hj)];simp,.nil⟩ ?_) ?_
   · rintro⟨c,neg,ds,kk⟩ ⟨k,f,rfl,hk,hsum,hcf,hcl,hb⟩;have hlen:=hs.len;dsimp only[rApply_b1]at*;refine Tm.ite (fun h1=>?_) (fun h1=>Tm.pure ?_)
     · have hku:k<s.Uses.length:=by omega
       refine Tm.step (idx_ok hku) ?_;have hu:=hs.use _ (List.getElem_mem hku);rw[drop_cons hku]at hsum;generalize s.Uses[k]=u at*;simp only[sumF]at hsum;refine Tm.bind (Q:=(·=decide (badU l u))) (Tm.ite (fun h2=>Tm.pure ?_) (fun h2=>Tm.ite (fun h3=>Tm.pure ?_) (fun h3=>?_))) ?_
       · have:badU l u:=.inl h2;simp[this]
       · have:badU l u:=.inr (.inl (by omega));simp[this]
       · refine Tm.bind (rSign_tm hu.1 (by have:=hu.2;omega)) ?_;rintro _ rfl;refine Tm.pure ?_;have:=sgn_neg (a:=bv u.N);unfold badU;by_cases h4:bv u.N<0
         · simp[h4,this.2 h4]
         · have:¬sgn (bv u.N) 0<0:=fun e=>h4 (this.1 e);simp[h4,this];omega
       rintro _ rfl;refine Tm.ite (fun h2=>Tm.pure ?_) (fun h2=>?_)
       · rw[if_pos (of_decide_eq_true h2)]at hsum;exact .inr ⟨rfl,hsum⟩
       · have hbu:¬badU l u:=by simpa using h2
         rw[if_neg hbu]at hsum;have hi:0≤u.Index∧u.Index<l.length∧0≤bv u.N:=by unfold badU at hbu;omega
         have hii:u.Index=(u.Index.toNat:Int):=by omega
         have hil:u.Index.toNat<l.length:=by omega
         refine Tm.step (idx_gq hii hil) ?_;have hqq:=hq _ (getDq_mem hil);have hqn:=he.get hil;generalize hQ:l.getD u.Index.toNat ineq0=q at*;have hu4:=hu.2;have hqb:=hqq.2.2.2;have inner:=pw_loop (ρ:=List Big) (body:=fun N=>rApply_b2 N (nV l:Int) u q) (fin:=fun c=>c) (bad:=[]) (n:=nV l) (K:=K+4+k) (K':=K+4+(k+1)) (f:=f) (g:=fun j=>f j+bv u.N*bv (q.Coefs.getD j big0)) (F:=fun _=>False) (c0:=c) (by omega) hcf hcl
          (fun j hj c' hc' h3 h4=>by
           dsimp only[rApply_b2];have hqj:=hqq.2.1 _ (getDb_mem (l:=q.Coefs) (n:=j) (by omega));have:=hqj.2;refine Tm.pos (by omega) (Tm.step (idx_gb rfl (by omega)) (Tm.step (idx_gb rfl (by omega)) (Tm.bind (rMul_tm hqj.1 hu.1 (by omega) (by omega)) ?_)));rintro m ⟨hm,hml⟩;refine Tm.bind (rAdd_tm h3.dg.inB hm.dg.inB (by omega) (by omega)) ?_;rintro a ⟨ha,hal⟩;refine Tm.step (idx_gb rfl (by omega)) (Tm.step (upd1_i rfl (by omega)) (Tm.pure (.inl ⟨a,rfl,?_,by omega,fun e=>e⟩)));rw[h3.bv,hm.bv,Int.mul_comm]at ha;exact ha)
          (fun c' hc'=>by dsimp only[rApply_b2];exact Tm.neg (by omega) (Tm.pure rfl))
         refine Tm.bind inner ?_;rintro c2 (⟨_,rfl,hc2,hc2l,-⟩|⟨-,j,hj,hF⟩)
         · refine Tm.bind (rMul_tm hqq.2.2.1 hu.1 (by omega) (by omega)) ?_;rintro m ⟨hm,hml⟩;have hb2:ds.length≤K+4+k:=hb.2;refine Tm.bind (rAdd_tm hb.1 hm.dg.inB (show ds.length≤_ by omega) (by omega)) ?_;rintro a ⟨ha,hal⟩;dsimp only at hal;refine Tm.pure ⟨⟨k+1,_,by show iw ((k:Int)+1)=_;rw[iw_eq]<;>omega,by omega,?_,hc2,hc2l,ha.ok ?_⟩,?_⟩
           · show sumF l s.Uses (fun _=>0,0)=sumF l (s.Uses.drop (k+1)) (_,bv a);rw[ha.bv,hm.bv,hsum,Int.mul_comm (bv q.Bound)];unfold addF;rw[hQ]
           · omega
           · show s.Uses.length-(iw ((k:Int)+1)).toNat<s.Uses.length-((k:Int)).toNat;rw[iw_eq]<;>omega
         · exact hF.elim
     · have hkL:k=s.Uses.length:=by omega
       subst hkL;rw[List.drop_length]at hsum;exact .inl ⟨f,c,neg,ds,rfl,hsum,hcf,fun j hj=>by have:=hcl j hj;omega,hb.mono (by omega)⟩
   · rintro _ (⟨f,c,neg,ds,rfl,hsum,hcf,hcl,hb⟩|⟨rfl,hsum⟩)
     · dsimp only;have hb2:ds.length≤K+16:=hb.2;have hdv:=hs.div.2;have inner:=pw_loop (ρ:=Sum (List Big) (Ineq×Bool)) (body:=fun N=>rApply_b3 N s (nV l:Int)) (fin:=fun c=>.inl c) (bad:=.inr (ineq0,false)) (n:=nV l) (K:=K+16) (K':=K+20) (f:=f) (g:=fun j=>f j/bv s.Divisor) (F:=fun j=>¬f j%bv s.Divisor=0) (c0:=c) (by omega) hcf hcl
        (fun j hj c' hc' h3 h4=>by
         dsimp only[rApply_b3];refine Tm.pos (by have:=hcf.1;omega) (Tm.step (idx_gb rfl (by omega)) (Tm.bind (rDivFloor_tm h3.dg.inB hs.div.1 (by omega) (by omega)) ?_));rintro⟨qq,rr,oo⟩ hD;have hquo:=hD.quo;have hrem:=hD.rem;dsimp only at hquo hrem;rw[h3.bv,Int.fdiv_eq_ediv_of_nonneg _ (by omega)]at hquo;rw[h3.bv,if_neg (by omega),Int.fmod_eq_emod_of_nonneg _ (by omega)]at hrem;have hrl:=hrem.len (k:=4) (by have:=hs.div.abs;have m0:=Int.emod_nonneg (f j) (show bv s.Divisor≠0 by omega);have m1:=Int.emod_lt_of_pos (f j) hd;omega);have hql:=hquo.len (k:=K+16) (by have:=(h3.ok h4).abs;rw[h3.bv]at this;have:=Int.natAbs_ediv_le_natAbs (f j) (bv s.Divisor);omega);refine Tm.bind (rSign_tm hrem.dg.inB (show rr.Digits.length≤_ by omega)) ?_;rintro _ rfl;rw[hrem.bv];refine Tm.ite (fun h5=>Tm.pure (.inr ⟨rfl,fun e=>h5 (sgn_zero.2 e)⟩)) (fun h5=>?_);refine Tm.step (idx_gb rfl (by omega)) (Tm.step (upd1_i rfl (by omega)) (Tm.pure (.inl ⟨qq,rfl,hquo,by omega,fun e=>e (sgn_zero.1 (by omega))⟩))))
        (fun c' hc'=>by dsimp only[rApply_b3];exact Tm.neg (by have:=hcf.1;omega) (Tm.pure rfl))
       refine Tm.bind inner ?_;rintro _ (⟨c2,rfl,hc2,hc2l,hall⟩|⟨rfl,j,hj,hF⟩)
       · refine Tm.bind (rDivFloor_tm hb.1 hs.div.1 (show ds.length≤_ by omega) (by omega)) ?_;rintro⟨qq,rr,oo⟩ hD;have hquo:=hD.quo;dsimp only at hquo;rw[Int.fdiv_eq_ediv_of_nonneg _ (by omega)]at hquo;refine Tm.pure ?_;unfold ApplyP;rw[if_pos ⟨he,hd⟩,hsum];dsimp only;rw[if_pos (fun j hj=>Classical.not_not.1 (hall j hj))];exact⟨rfl,hc2,hquo⟩
       · refine Tm.pure ?_;unfold ApplyP;rw[if_pos ⟨he,hd⟩,hsum];dsimp only;rw[if_neg (fun h=>hF (h j hj))]
     · refine Tm.pure ?_;unfold ApplyP;rw[if_pos ⟨he,hd⟩,hsum]
def InS(s:Step):Prop:=s.Uses.length≤9223372036854775807∧(∀u∈s.Uses,In32 u.N)∧In32 s.Divisor
theorem rSmallStep_tm{s:Step}(hs:InS s):Tm (fun N=>rSmallStep N s) (fun r=>r=true→OkS s):=by
 unfold rSmallStep;refine Tm.bind (Tm.each (body:=fun N=>rSmallStep_b1 N s) s.Uses (fun u=>u.N.Digits.length≤4) (Q:=fun r=>r=.inr false∨(r=.inl ()∧∀u∈s.Uses,u.N.Digits.length≤4)) hs.1 ?_ ?_) ?_
 · intro n hn _;dsimp only[rSmallStep_b1];refine Tm.pos (by omega) (Tm.step (idx_ok hn) (Tm.ite (fun h=>Tm.pure (.inr ⟨_,rfl,.inl rfl⟩)) (fun h=>Tm.pure (.inl ⟨rfl,by omega⟩))))
 · intro h;dsimp only[rSmallStep_b1];exact Tm.neg (by omega) (Tm.pure ⟨_,rfl,.inr ⟨rfl,h⟩⟩)
 · rintro _ (rfl|⟨rfl,h⟩)
   · exact Tm.pure (fun h=>by cases h)
   · refine Tm.ite (fun h1=>Tm.pure (fun h2=>?_)) (fun h1=>Tm.pure (fun h2=>by cases h2));have:=of_decide_eq_true h2;exact⟨by omega,fun u hu=>⟨hs.2.1 u hu,h u hu⟩,hs.2.2,by omega⟩
open Go Go.X
theorem IsF.snoc{n:Nat}{c:List Big}{f:Nat→Int}{y:Big}(h:IsF n c f)(hy:Is y (f n)):IsF (n+1) (c++[y]) f:=by
 refine⟨by simp[h.1],fun j hj=>?_⟩;rcases Nat.lt_or_ge j n with h1|h1
 · have:=h.2 j h1;rwa[List.getD_eq_getElem?_getD,List.getElem?_append_left (by rw[h.1];exact h1),←List.getD_eq_getElem?_getD]
 · obtain rfl:j=n:=by omega
   rw[List.getD_eq_getElem?_getD,List.getElem?_append_right (by rw[h.1];exact Nat.le_refl _),h.1];simpa using hy
theorem negated_gen{K:Nat}{l:List Big}{b:Big}(hK:K≤1073741824)(hl:l.length≤K)(hlb:∀x∈l,OkB K x)(hb:OkB K b):
 Tm (fun N=>negated N l b) (fun r=>IsF l.length r.Coefs (fun j=>-bv (l.getD j big0))∧Is r.Bound (bv b)∧OkI K r):=by
 unfold negated;refine Tm.bind (bNormal_tm hb.1 (by have:=hb.2;omega)) ?_;rintro b' ⟨hb',hbl⟩;refine Tm.bind (Q:=fun c:List Big=>IsF l.length c (fun j=>-bv (l.getD j big0))∧∀x∈c,OkB K x)
  (Tm.loop (fun t:List Big×Int=>∃k:Nat,t.2=k∧k≤l.length∧IsF k t.1 (fun j=>-bv (l.getD j big0))∧∀x∈t.1,OkB K x) (fun t=>l.length-t.2.toNat)
   ⟨0,rfl,Nat.zero_le _,⟨rfl,fun j hj=>absurd hj (by omega)⟩,fun x hx=>by cases hx⟩ ?_) ?_
 · rintro⟨c,kk⟩ ⟨k,rfl,hk,hc,hcb⟩;dsimp only[negated_b1]at*;have hcl:=hc.1;refine Tm.ite (fun h=>?_) (fun h=>Tm.pure ?_)
   · refine Tm.step (idx_gb rfl (by omega)) ?_;have hx:=hlb _ (getDb_mem (l:=l) (n:=k) (by omega));refine Tm.bind (bNeg_tm hx.1 (by have:=hx.2;omega)) ?_;rintro y ⟨hy,hyl⟩;refine Tm.step (apnd_ok (by simp only[List.length_cons,List.length_nil];omega) (by decide)) (Tm.pure ⟨⟨k+1,by show iw ((k:Int)+1)=_;rw[iw_eq]<;>omega,by omega,hc.snoc hy,fun z hz=>?_⟩,?_⟩)
     · rcases List.mem_append.1 hz with h1|h1
       · exact hcb z h1
       · rcases List.mem_singleton.1 h1 with rfl;exact hy.ok (by have:=hx.2;omega)
     · show l.length-(iw ((k:Int)+1)).toNat<l.length-((k:Int)).toNat;rw[iw_eq]<;>omega
   · obtain rfl:k=l.length:=by omega
     exact⟨hc,hcb⟩
 · rintro c ⟨hc,hcb⟩;exact Tm.pure ⟨hc,hb',by dsimp only;rw[hc.1];exact hl,hcb,hb'.ok (by have:=hb.2;omega)⟩
theorem rflip_gen{K:Nat}{q:Ineq}{b:Big}(hK:K≤1073741824)(hl:q.Coefs.length≤K)(hlb:∀x∈q.Coefs,OkB K x)(hb:OkB K b):
 Tm (fun N=>rflip N q b) (fun r=>IsF q.Coefs.length r.Coefs (fun j=>-bv (q.Coefs.getD j big0))∧Is r.Bound (bv b)):=by
 unfold rflip;refine Tm.bind (rNormal_tm hb.1 (by have:=hb.2;omega)) ?_;rintro b' ⟨hb',hbl⟩;refine Tm.bind (Q:=fun c:List Big=>IsF q.Coefs.length c (fun j=>-bv (q.Coefs.getD j big0)))
  (Tm.loop (fun t:List Big×Int=>∃k:Nat,t.2=k∧k≤q.Coefs.length∧IsF k t.1 (fun j=>-bv (q.Coefs.getD j big0))) (fun t=>q.Coefs.length-t.2.toNat)
   ⟨0,rfl,Nat.zero_le _,⟨rfl,fun j hj=>absurd hj (by omega)⟩⟩ ?_) ?_
 · rintro⟨c,kk⟩ ⟨k,rfl,hk,hc⟩;dsimp only[rflip_b1]at*;have hcl:=hc.1;refine Tm.ite (fun h=>?_) (fun h=>Tm.pure ?_)
   · refine Tm.step (idx_gb rfl (by omega)) ?_;have hx:=hlb _ (getDb_mem (l:=q.Coefs) (n:=k) (by omega));refine Tm.bind (rNeg_tm hx.1 (by have:=hx.2;omega)) ?_;rintro y ⟨hy,hyl⟩;refine Tm.step (apnd_ok (by simp only[List.length_cons,List.length_nil];omega) (by decide)) (Tm.pure ⟨⟨k+1,by show iw ((k:Int)+1)=_;rw[iw_eq]<;>omega,by omega,hc.snoc hy⟩,?_⟩);show q.Coefs.length-(iw ((k:Int)+1)).toNat<q.Coefs.length-((k:Int)).toNat;rw[iw_eq]<;>omega
   · obtain rfl:k=q.Coefs.length:=by omega
     exact hc
 · intro c hc;exact Tm.pure ⟨hc,hb'⟩
def StepsP:List Ineq→List Step→Option (List Ineq)→Prop
 |l,[],r=>r=some l
 |l,s::ss,r=>∃q,(ApplyP l s (q,true)∧StepsP (l++[q]) ss r)∨(ApplyP l s (q,false)∧r=none)
theorem StepsP.uniq:∀{ss:List Step} {l:List Ineq} {r r':Option (List Ineq)},StepsP l ss r→StepsP l ss r'→r=r'
 |[],l,r,r',h,h'=>h.trans h'.symm
 |s::ss,l,r,r',⟨q,h⟩,⟨q',h'⟩=>by
  rcases h with⟨h1,h2⟩|⟨h1,h2⟩<;>rcases h' with⟨h1',h2'⟩|⟨h1',h2'⟩
  · have:=h1.uniq h1';cases this;exact h2.uniq h2'
  · have:=h1.uniq h1';cases this
  · have:=h1.uniq h1';cases this
  · exact h2.trans h2'.symm
theorem ApplyP.ok{K:Nat}{l:List Ineq}{s:Step}(hK:K≤536870912)(hl:l.length≤1073741824)(hq:∀q∈l,OkI K q)(hs:OkS s){r:Ineq×Bool}(h:ApplyP l s r):OkI (K+20) r.1:=by
 obtain⟨N,a,_,ha,hb⟩:=(cApply_tm hK hl hq hs).get;rw[h.uniq ha];exact hb
theorem snocq{K:Nat}{e:List Ineq}{q:Ineq}(h:∀x∈e,OkI K x)(hq:OkI K q):∀x∈e++[q],OkI K x:=fun x hx=>by
 rcases List.mem_append.1 hx with h1|h1
 · exact h x h1
 · rcases List.mem_singleton.1 h1 with rfl;exact hq
theorem OkI.mono{K K':Nat}{q:Ineq}(h:OkI K q)(hK:K≤K'):OkI K' q:=⟨by have:=h.1;omega,fun b hb=>(h.2.1 b hb).mono hK,h.2.2.mono hK⟩
theorem cSteps_tm{K:Nat}{p:Proof}{l:List Ineq}(hK:K+20*p.Steps.length≤536870912)(hl:l.length+p.Steps.length≤1073741824)(hq:∀q∈l,OkI K q)(hp:∀s∈p.Steps,OkS s):
 Tm (fun N=>loopM (cCheck_b1 N p) N (l,0)) (fun t=>(∃e,t=.inl e∧StepsP l p.Steps (some e)∧(∀q∈e,OkI (K+20*p.Steps.length) q)∧e.length=l.length+p.Steps.length)∨(t=.inr false∧StepsP l p.Steps none)):=by
 refine Tm.loop (fun t:List Ineq×Int=>∃k:Nat,t.2=k∧k≤p.Steps.length∧(∀r,StepsP t.1 (p.Steps.drop k) r→StepsP l p.Steps r)∧(∀q∈t.1,OkI (K+20*k) q)∧t.1.length=l.length+k) (fun t=>p.Steps.length-t.2.toNat)
  ⟨0,rfl,Nat.zero_le _,fun r h=>h,hq,rfl⟩ ?_
 rintro⟨e,kk⟩ ⟨k,rfl,hk,hr,he,hel⟩;dsimp only[cCheck_b1]at*;refine Tm.ite (fun h=>?_) (fun h=>Tm.pure ?_)
 · have hks:k<p.Steps.length:=by omega
   refine Tm.step (idx_ok hks) ?_;have hs:=hp _ (List.getElem_mem hks);rw[List.drop_eq_getElem_cons hks]at hr;generalize p.Steps[k]=s at*;refine Tm.bind (cApply_tm (K:=K+20*k) (by omega) (by omega) he hs) ?_;rintro⟨q,ok⟩ ⟨ha,hao⟩;refine Tm.ite (fun h1=>Tm.pure (.inr ⟨rfl,?_⟩)) (fun h1=>?_)
   · have:ok=false:=by simpa using h1
     subst this;exact hr _ ⟨q,.inr ⟨ha,rfl⟩⟩
   · have:ok=true:=by simpa using h1
     subst this;refine Tm.step (apnd_ok (by simp only[List.length_cons,List.length_nil];omega) (by decide)) (Tm.pure ⟨⟨k+1,by show iw ((k:Int)+1)=_;rw[iw_eq]<;>omega,by omega,fun r h2=>hr r ⟨q,.inl ⟨ha,h2⟩⟩,snocq (fun x hx=>(he x hx).mono (by omega)) (hao.mono (by omega)),by simp;omega⟩,?_⟩);show p.Steps.length-(iw ((k:Int)+1)).toNat<p.Steps.length-((k:Int)).toNat;rw[iw_eq]<;>omega
 · obtain rfl:k=p.Steps.length:=by omega
   rw[List.drop_length]at hr;exact .inl ⟨e,rfl,hr _ rfl,he,hel⟩
theorem rSteps_tm{K:Nat}{p:Proof}{l:List Ineq}(hK:K+20*p.Steps.length≤536870912)(hl:l.length+p.Steps.length≤1073741824)(hq:∀q∈l,OkI K q)(hp:∀s∈p.Steps,OkS s):
 Tm (fun N=>loopM (rCheck_b1 N p) N (l,0)) (fun t=>(∃e,t=.inl e∧StepsP l p.Steps (some e))∨(t=.inr false∧StepsP l p.Steps none)):=by
 refine Tm.loop (fun t:List Ineq×Int=>∃k:Nat,t.2=k∧k≤p.Steps.length∧(∀r,StepsP t.1 (p.Steps.drop k) r→StepsP l p.Steps r)∧(∀q∈t.1,OkI (K+20*k) q)∧t.1.length=l.length+k) (fun t=>p.Steps.length-t.2.toNat)
  ⟨0,rfl,Nat.zero_le _,fun r h=>h,hq,rfl⟩ ?_
 rintro⟨e,kk⟩ ⟨k,rfl,hk,hr,he,hel⟩;dsimp only[rCheck_b1]at*;refine Tm.ite (fun h=>?_) (fun h=>Tm.pure ?_)
 · have hks:k<p.Steps.length:=by omega
   refine Tm.step (idx_ok hks) ?_;have hs:=hp _ (List.getElem_mem hks);rw[List.drop_eq_getElem_cons hks]at hr;generalize p.Steps[k]=s at*;refine Tm.bind (rApply_tm (K:=K+20*k) (by omega) (by omega) he hs) ?_;rintro⟨q,ok⟩ ha;have hao:=ha.ok (K:=K+20*k) (by omega) (by omega) he hs;refine Tm.ite (fun h1=>Tm.pure (.inr ⟨rfl,?_⟩)) (fun h1=>?_)
   · have:ok=false:=by simpa using h1
     subst this;exact hr _ ⟨q,.inr ⟨ha,rfl⟩⟩
   · have:ok=true:=by simpa using h1
     subst this;refine Tm.step (apnd_ok (by simp only[List.length_cons,List.length_nil];omega) (by decide)) (Tm.pure ⟨⟨k+1,by show iw ((k:Int)+1)=_;rw[iw_eq]<;>omega,by omega,fun r h2=>hr r ⟨q,.inl ⟨ha,h2⟩⟩,snocq (fun x hx=>(he x hx).mono (by omega)) (hao.mono (by omega)),by simp;omega⟩,?_⟩);show p.Steps.length-(iw ((k:Int)+1)).toNat<p.Steps.length-((k:Int)).toNat;rw[iw_eq]<;>omega
 · obtain rfl:k=p.Steps.length:=by omega
   rw[List.drop_length]at hr;exact .inl ⟨e,rfl,hr _ rfl⟩
def dotF(f g:Nat→Int):Nat→Int
 |0=>0
 |n+1=>dotF f g n+f n*g n
def cf(q:Ineq)(j:Nat):Int:=bv (q.Coefs.getD j big0)
def Sat(n:Nat)(x:Nat→Int)(q:Ineq):Prop:=q.Coefs.length=n∧dotF (cf q) x n≤bv q.Bound
theorem dotF_congr{f f' g:Nat→Int}:∀{n:Nat},(∀j,j<n→f j=f' j)→dotF f g n=dotF f' g n
 |0,_=>rfl
 |n+1,h=>by simp only[dotF];rw[dotF_congr (n:=n) (fun j hj=>h j (by omega)),h n (by omega)]
theorem dotF_add{f h g:Nat→Int}{k:Int}:∀n,dotF (fun j=>f j+k*h j) g n=dotF f g n+k*dotF h g n
 |0=>by simp[dotF]
 |n+1=>by simp only[dotF,dotF_add n];grind
theorem dotF_mul{f g:Nat→Int}{k:Int}:∀n,dotF (fun j=>k*f j) g n=k*dotF f g n
 |0=>by simp[dotF]
 |n+1=>by simp only[dotF,dotF_mul n];grind
theorem dotF_zero{g:Nat→Int}:∀n,dotF (fun _=>0) g n=0
 |0=>rfl
 |n+1=>by simp[dotF,dotF_zero n]
theorem sum_sat{l:List Ineq}{x:Nat→Int}(hl:∀q∈l,Sat (nV l) x q):∀(us:List Use) (a r:(Nat→Int)×Int),sumF l us a=some r→dotF a.1 x (nV l)≤a.2→dotF r.1 x (nV l)≤r.2
 |[],a,r,h,ha=>by cases h;exact ha
 |u::us,a,r,h,ha=>by
  simp only[sumF]at h;split at h
  · cases h
  · rename_i hb;have hi:0≤u.Index∧u.Index<l.length∧0≤bv u.N:=by unfold badU at hb;omega
    have hs:=hl _ (getDq_mem (l:=l) (n:=u.Index.toNat) (by omega));refine sum_sat hl us _ r h ?_;show dotF (fun j=>a.1 j+bv u.N*cf (l.getD u.Index.toNat ineq0) j) x (nV l)≤a.2+bv u.N*bv (l.getD u.Index.toNat ineq0).Bound;rw[dotF_add];have:=Int.mul_le_mul_of_nonneg_left hs.2 hi.2.2;omega
theorem apply_sat{l:List Ineq}{s:Step}{q:Ineq}{x:Nat→Int}(h:ApplyP l s (q,true))(hl:∀q∈l,Sat (nV l) x q):evenV l∧Sat (nV l) x q:=by
 unfold ApplyP at h;split at h
 · rename_i hc;refine⟨hc.1,?_⟩;cases hs:sumF l s.Uses (fun _=>0,0)with
   |none=>rw[hs]at h;cases h
   |some a=>
    rw[hs]at h;obtain⟨f,b⟩:=a;dsimp only at h;split at h
    · rename_i hd;have h1:=sum_sat hl s.Uses _ _ hs (by rw[dotF_zero];exact Int.le_refl _);refine⟨h.2.1.1,?_⟩;have e1:dotF (cf q) x (nV l)=dotF (fun j=>f j/bv s.Divisor) x (nV l):=dotF_congr fun j hj=>(h.2.1.2 j hj).bv;have e2:dotF f x (nV l)=bv s.Divisor*dotF (fun j=>f j/bv s.Divisor) x (nV l):=by
       rw[←dotF_mul];exact dotF_congr fun j hj=>(Int.mul_ediv_cancel' (Int.dvd_of_emod_eq_zero (hd j hj))).symm
      rw[e1];rw[show bv q.Bound=b/bv s.Divisor from h.2.2.bv];rw[e2]at h1;rw[Int.mul_comm]at h1;exact Int.le_ediv_of_mul_le hc.2 h1
    · cases h
 · cases h
theorem nV_app{l:List Ineq}{q:Ineq}(h:l≠[]):nV (l++[q])=nV l:=by
 cases l with
 |nil=>exact absurd rfl h
 |cons a r=>rfl
theorem steps_sat{x:Nat→Int}:∀(ss:List Step) (l e:List Ineq),l≠[]→StepsP l ss (some e)→(∀q∈l,Sat (nV l) x q)→e≠[]∧nV e=nV l∧∀q∈e,Sat (nV e) x q
 |[],l,e,hn,h,hl=>by cases h;exact⟨hn,rfl,hl⟩
 |s::ss,l,e,hn,⟨q,h⟩,hl=>by
  rcases h with⟨h1,h2⟩|⟨_,h2⟩
  · have h3:=(apply_sat h1 hl).2;have:=steps_sat ss (l++[q]) e (by simp) h2 (fun y hy=>by
     rw[nV_app hn];rcases List.mem_append.1 hy with h4|h4
     · exact hl y h4
     · rcases List.mem_singleton.1 h4 with rfl;exact h3)
    exact⟨this.1,this.2.1.trans (nV_app hn),this.2.2⟩
  · cases h2
theorem bad_sat{n:Nat}{x:Nat→Int}{q:Ineq}(h:badV q=true):¬Sat n x q:=by
 rintro⟨h1,h2⟩;have h:=of_decide_eq_true h;have:dotF (cf q) x n=dotF (fun _=>0) x n:=dotF_congr fun j hj=>h.1 _ (getDb_mem (by omega));rw[this,dotF_zero]at h2;omega
def Sm:Nat→Proof→Prop
 |0,_=>False
 |n+1,p=>p.Steps.length≤n∧(∀s∈p.Steps,OkS s)∧p.Form.length≤6∧(∀b∈p.Form,OkB 4 b)∧OkB 4 p.Bound∧(∀c∈p.Children,Sm n c)∧∀c∈p.Children,c.Children.length≤9223372036854775807
theorem check_tm:∀(n:Nat) (p:Proof) (K:Nat) (l:List Ineq),Sm n p→6≤K→K+20*n*n≤536870912→l.length+(n+1)*(n+1)≤1073741824→p.Children.length≤9223372036854775807→(∀q∈l,OkI K q)→
    ∃v,Tm (fun N=>cCheck N l p) (·=v)∧Tm (fun N=>rCheck N l p) (·=v)∧(v=true→l≠[]→∀x:Nat→Int,¬∀q∈l,Sat (nV l) x q):=by
  intro n
  induction n with
  |zero=>intro p K l h;exact h.elim
  |succ n ih=>
    intro p K l ⟨hsl,hs,hfl,hf,hbd,hch,hcb⟩ hK6 hK hl hcl hq;have hnn:20*(n+1)*(n+1)=20*n*n+40*n+20:=by grind
    have hnn2:(n+1+1)*(n+1+1)=(n+1)*(n+1)+2*n+3:=by grind
    have hlb:l.length≤1073741824:=by omega
    by_cases hev:evenV l
    · obtain⟨N0,ts,hts,hP⟩:=(cSteps_tm (p:=p) (l:=l) (K:=K) (by omega) (by omega) hq hs).get;have hpn:p.Children.length=0∨p.Children.length=2∨(p.Children.length≠0∧p.Children.length≠2):=by omega
      have stepsC:=cSteps_tm (p:=p) (l:=l) (K:=K) (by omega) (by omega) hq hs;have stepsR:=rSteps_tm (p:=p) (l:=l) (K:=K) (by omega) (by omega) hq hs;have cbeg:∀{Q:Bool→Prop},Tm (fun N=>(loopM (cCheck_b1 N p) N (l,0)).bind fun ss=>match ss with
          |(Sum.inl e236)=>
            (if((List.length p.Children:Int):Int)=0 then
              (containsIneq N e236 (fun y344=>cContradictory N y344)).bind fun r345=>
              some r345
            else
              (if((List.length p.Children:Int):Int)=2 then
                (cwidth N e236).bind fun r358=>
                (((if((List.length e236:Int):Int)>0 then
                  some (decide (((List.length p.Form:Int):Int)≠r358.1))
                else
                  some false):Option Bool)).bind fun ss=>
                  match ss with
                  |x370=>
                    (if x370=true then
                      some false
                    else
                      (bNeg N p.Bound).bind fun r392=>
                      (bOf N 1).bind fun r397=>
                      (bSub N r392 r397).bind fun r402=>
                      (negated N p.Form r402).bind fun r407=>
                      (clipIneq N e236).bind fun r505=>
                      (apnd 56 r505 [(Ineq.mk p.Form p.Bound)]).bind fun x523=>
                      (idx p.Children 0).bind fun x538=>
                      (cCheck N x523 x538).bind fun r560=>
                      (if r560=true then
                        (apnd 56 r505 [r407]).bind fun x572=>
                        (idx p.Children 1).bind fun x587=>
                        (cCheck N x572 x587).bind fun r748=>
                        some r748
                      else
                        some false))
              else
                some false))
          |(Sum.inr z891)=>some z891) Q→Tm (fun N=>cCheck N l p) Q:=by
        intro Q h;refine Tm.succ ?_;show Tm (fun N=>cCheck_step N (cCheck N) l p) Q;unfold cCheck_step;refine Tm.bind (cwidth_tm (by omega)) ?_;rintro _ rfl;refine Tm.neg (by simp[hev]) ?_;refine Tm.bind (Q:=(·=l)) (by unfold cloneIneq;exact Tm.step (apnd_ok (by simp only[List.length_nil];omega) (by decide)) (Tm.pure rfl)) ?_;rintro _ rfl;exact h
      have rbeg:∀{Q:Bool→Prop},Tm (fun N=>(loopM (rCheck_b1 N p) N (l,0)).bind fun ss=>match ss with
          |(Sum.inl all222)=>
            (if((List.length p.Children:Int):Int)=0 then
              (loopM (rCheck_b2 N all222) N 0).bind fun ss=>
                match ss with
                |(Sum.inl _)=>
                  some false
                |(Sum.inr z421)=>some z421
            else
              (((if((List.length p.Children:Int):Int)≠2 then
                some true
              else
                (if((List.length all222:Int):Int)>0 then
                  (idx all222 0).bind fun x904=>
                  some (decide (((List.length p.Form:Int):Int)≠(List.length x904.Coefs:Int)))
                else
                  some false)):Option Bool)).bind fun ss=>
                match ss with
                |x785=>
                  (if x785=true then
                    some false
                  else
                    (rNeg N p.Bound).bind fun r1165=>
                    (rOf N 1).bind fun r1170=>
                    (rSub N r1165 r1170).bind fun r1175=>
                    (rflip N (Ineq.mk p.Form p.Bound) r1175).bind fun r1180=>
                    (apnd 56 ([]:(List Ineq)) all222).bind fun x1274=>
                    (apnd 56 x1274 [(Ineq.mk p.Form p.Bound)]).bind fun x1350=>
                    (apnd 56 ([]:(List Ineq)) all222).bind fun x1373=>
                    (apnd 56 x1373 [r1180]).bind fun x1449=>
                    (idx p.Children 0).bind fun x1465=>
                    (rCheck N x1350 x1465).bind fun r1487=>
                    (if r1487=true then
                      (idx p.Children 1).bind fun x1496=>
                      (rCheck N x1449 x1496).bind fun r1518=>
                      some r1518
                    else
                      some false)))
          |(Sum.inr z1526)=>some z1526) Q→Tm (fun N=>rCheck N l p) Q:=by
        intro Q h;refine Tm.succ ?_;show Tm (fun N=>rCheck_step N (rCheck N) l p) Q;unfold rCheck_step;refine Tm.bind (rEven_tm (by omega)) ?_;rintro _ rfl;refine Tm.neg (by simp[hev]) ?_;refine Tm.step (apnd_ok (by simp only[List.length_nil];omega) (by decide)) ?_;exact h
      rcases hP with⟨e,rfl,hse,heo,hel⟩|⟨rfl,hsn⟩
      · 
        have cst:Tm (fun N=>loopM (cCheck_b1 N p) N (l,0)) (·=.inl e):=stepsC.mono (by
          rintro t (⟨e',rfl,h1,_⟩|⟨rfl,h1⟩)
          · have:=h1.uniq hse;cases this;rfl
          · have:=h1.uniq hse;cases this)
        have rst:Tm (fun N=>loopM (rCheck_b1 N p) N (l,0)) (·=.inl e):=stepsR.mono (by
          rintro t (⟨e',rfl,h1⟩|⟨rfl,h1⟩)
          · have:=h1.uniq hse;cases this;rfl
          · have:=h1.uniq hse;cases this)
        have hkb:K+20*p.Steps.length≤536870912:=by omega
        have heb:e.length≤1073741824:=by omega
        rcases hpn with h0|h2|⟨h0,h2⟩
        · 
          refine⟨e.any badV,cbeg (Tm.bind cst ?_),rbeg (Tm.bind rst ?_),fun hv hne x hx=>?_⟩
          · rintro _ rfl;refine Tm.pos (by omega) (Tm.bind (containsIneq_tm (f:=fun N y=>cContradictory N y) (p:=badV) (by omega) (fun q hq'=>cContradictory_tm (K:=K+20*p.Steps.length) (by omega) (heo q hq'))) (fun r hr=>Tm.pure hr))
          · rintro _ rfl;refine Tm.pos (by omega) (Tm.bind (Tm.each (body:=fun N=>rCheck_b2 N e) e (fun q=>badV q=false) (Q:=fun t=>(t=.inr true∧e.any badV=true)∨(t=.inl ()∧e.any badV=false)) (by omega) ?_ ?_) ?_)
            · intro m hm _;dsimp only[rCheck_b2];refine Tm.pos (by omega) (Tm.step (idx_ok hm) (Tm.bind (rBad_tm (K:=K+20*p.Steps.length) (by omega) (heo _ (List.getElem_mem hm))) ?_));rintro _ rfl;refine Tm.ite (fun h=>Tm.pure (.inr ⟨_,rfl,.inl ⟨rfl,List.any_eq_true.2 ⟨_,List.getElem_mem hm,h⟩⟩⟩)) (fun h=>Tm.pure (.inl ⟨rfl,by simpa using h⟩))
            · intro hall;dsimp only[rCheck_b2];refine Tm.neg (by omega) (Tm.pure ⟨_,rfl,.inr ⟨rfl,?_⟩⟩);rw[Bool.eq_false_iff];intro h;obtain⟨q,hq',h1⟩:=List.any_eq_true.1 h;rw[hall q hq']at h1;cases h1
            · rintro _ (⟨rfl,h⟩|⟨rfl,h⟩)<;>exact Tm.pure (by simp[h])
          · obtain⟨q,hq',h1⟩:=List.any_eq_true.1 hv;exact bad_sat h1 ((steps_sat p.Steps l e hne hse hx).2.2 q hq')
        · 
          have hcl:0<p.Children.length:=by omega
          by_cases hw:0<e.length∧p.Form.length≠nV e
          · refine⟨false,cbeg (Tm.bind cst ?_),rbeg (Tm.bind rst ?_),fun hv=>by cases hv⟩
            · rintro _ rfl;refine Tm.neg (by omega) (Tm.pos (by omega) (Tm.bind (cwidth_tm (by omega)) ?_));rintro _ rfl;refine Tm.bind (Q:=(·=true)) (Tm.pos (by omega) (Tm.pure (decide_eq_true (by have:=hw.2;omega)))) ?_;rintro _ rfl;exact Tm.pos rfl (Tm.pure rfl)
            · rintro _ rfl;refine Tm.neg (by omega) (Tm.bind (Q:=(·=true)) (Tm.neg (by omega) (Tm.pos (by omega) (Tm.step (idx_gq (n:=0) rfl hw.1) (Tm.pure (decide_eq_true (by have:=hw.2;unfold nV at this;omega)))))) ?_);rintro _ rfl;exact Tm.pos rfl (Tm.pure rfl)
          · have hK':K+20*(n+1)+20*n*n≤536870912:=by omega
            have he':∀q∈e,OkI (K+20*(n+1)) q:=fun q hq'=>(heo q hq').mono (by omega);have hb1:Tm (fun N=>bNeg N p.Bound) (fun r=>Is r (-bv p.Bound)∧r.Digits.length≤p.Bound.Digits.length):=bNeg_tm hbd.1 (by have:=hbd.2;omega);have hlow:OkI (K+20*(n+1)) (Ineq.mk p.Form p.Bound):=⟨by dsimp only;omega,fun b hb=>(hf b hb).mono (by omega),hbd.mono (by omega)⟩;have highC:Tm (fun N=>(bNeg N p.Bound).bind fun a=>(bOf N 1).bind fun b=>(bSub N a b).bind fun c=>negated N p.Form c) (fun r=>IsF p.Form.length r.Coefs (fun j=>-bv (p.Form.getD j big0))∧Is r.Bound (-bv p.Bound-1)∧OkI (K+20*(n+1)) r):=by
              refine Tm.bind hb1 ?_;rintro a ⟨ha,hal⟩;refine Tm.bind (bOf_tm (n:=1) (by decide) (by decide)) ?_;rintro b ⟨hb,hbl⟩;have hal':=hbd.2;refine Tm.bind (bSub_tm ha.dg.inB hb.dg.inB (by omega) (by omega)) ?_;rintro c ⟨hc,hcl⟩;rw[ha.bv,hb.bv]at hc;refine(negated_gen (K:=K+20*(n+1)) (by omega) (by omega) (fun x hx=>(hf x hx).mono (by omega)) (hc.ok (by omega))).mono ?_;rintro r ⟨h1,h3,h4⟩;rw[hc.bv]at h3;exact⟨h1,h3,h4⟩
            obtain⟨Nh,high,_,hh1,hh2,hh3⟩:=highC.get;have hhu:∀r:Ineq,IsF p.Form.length r.Coefs (fun j=>-bv (p.Form.getD j big0))→Is r.Bound (-bv p.Bound-1)→r=high:=by
              rintro⟨c,d⟩ g1 g2;obtain⟨c',d'⟩:=high;have e1:c=c':=g1.uniq hh1;have e2:d=d':=g2.uniq hh2;rw[e1,e2]
            have hA0:p.Children[0]'(by omega)∈p.Children:=List.getElem_mem _;have hA1:p.Children[1]'(by omega)∈p.Children:=List.getElem_mem _;have hlen:∀q:Ineq,(e++[q]).length+(n+1)*(n+1)≤1073741824:=fun q=>by simp;omega
            have hSm0:=hch _ hA0;have hSm1:=hch _ hA1;have hcc:=hcb;obtain⟨vA,cA,rA,sA⟩:=ih _ (K+20*(n+1)) (e++[Ineq.mk p.Form p.Bound]) hSm0 (by omega) hK' (hlen _) (hcc _ hA0) (snocq he' hlow);obtain⟨vB,cB,rB,sB⟩:=ih _ (K+20*(n+1)) (e++[high]) hSm1 (by omega) hK' (hlen _) (hcc _ hA1) (snocq he' hh3);have hwid:Tm (fun N=>cwidth N e) (fun r=>r=((nV e:Int),decide (evenV e))):=cwidth_tm (by omega);refine⟨vA&&vB,cbeg (Tm.bind cst ?_),rbeg (Tm.bind rst ?_),fun hv hne x hx=>?_⟩
            · rintro _ rfl;refine Tm.neg (by omega) (Tm.pos (by omega) (Tm.bind hwid ?_));rintro _ rfl;refine Tm.bind (Q:=(·=false)) (Tm.ite (fun g=>Tm.pure (decide_eq_false (by omega))) (fun g=>Tm.pure rfl)) ?_;rintro _ rfl;refine Tm.neg (by simp) ?_;refine Tm.bind hb1 ?_;rintro a ⟨ha,hal⟩;refine Tm.bind (bOf_tm (n:=1) (by decide) (by decide)) ?_;rintro b ⟨hb,hbl⟩;have hal':=hbd.2;refine Tm.bind (bSub_tm ha.dg.inB hb.dg.inB (by omega) (by omega)) ?_;rintro c ⟨hc,hcl⟩;rw[ha.bv,hb.bv]at hc;refine Tm.bind (negated_gen (K:=K+20*(n+1)) (by omega) (by omega) (fun x hx=>(hf x hx).mono (by omega)) (hc.ok (by omega))) ?_;rintro r ⟨h1,h3,h4⟩;rw[hc.bv]at h3;obtain rfl:=hhu r h1 h3;refine Tm.bind (Q:=(·=e)) (Tm.pure rfl) ?_;rintro _ rfl;refine Tm.step (apnd_ok (by simp only[List.length_cons,List.length_nil];omega) (by decide)) (Tm.step (idx_i (n:=0) rfl (by omega)) (Tm.bind cA ?_));intro t ht;rw[ht];refine Tm.ite (fun g=>?_) (fun g=>Tm.pure ?_)
              · refine Tm.step (apnd_ok (by simp only[List.length_cons,List.length_nil];omega) (by decide)) (Tm.step (idx_i (n:=1) rfl (by omega)) (Tm.bind cB ?_));rintro _ rfl;exact Tm.pure (by simp[g])
              · have:vA=false:=by simpa using g
                simp[this]
            · rintro _ rfl;refine Tm.neg (by omega) (Tm.bind (Q:=(·=false)) (Tm.neg (by omega) (Tm.ite (fun g=>Tm.step (idx_gq (n:=0) rfl (by omega)) (Tm.pure (decide_eq_false (by unfold nV at hw;omega)))) (fun g=>Tm.pure rfl))) ?_);rintro _ rfl;refine Tm.neg (by simp) ?_;have hal':=hbd.2;refine Tm.bind (rNeg_tm hbd.1 (by omega)) ?_;rintro a ⟨ha,hal⟩;refine Tm.bind (rOf_tm (n:=1) (by decide) (by decide)) ?_;rintro b ⟨hb,hbl⟩;refine Tm.bind (rSub_tm ha.dg.inB hb.dg.inB (by omega) (by omega)) ?_;rintro c ⟨hc,hcl⟩;rw[ha.bv,hb.bv]at hc;refine Tm.bind (rflip_gen (K:=K+20*(n+1)) (q:=Ineq.mk p.Form p.Bound) (by omega) (by dsimp only;omega) (fun x hx=>(hf x hx).mono (by omega)) (hc.ok (by omega))) ?_;rintro r ⟨h1,h3⟩;rw[hc.bv]at h3;obtain rfl:=hhu r h1 h3;refine Tm.step (apnd_ok (by simp only[List.length_nil];omega) (by decide)) (Tm.step (apnd_ok (by simp only[List.nil_append,List.length_cons,List.length_nil];omega) (by decide)) (Tm.step (apnd_ok (by simp only[List.length_nil];omega) (by decide)) (Tm.step (apnd_ok (by simp only[List.nil_append,List.length_cons,List.length_nil];omega) (by decide)) ?_)));simp only[List.nil_append];refine Tm.step (idx_i (n:=0) rfl (by omega)) (Tm.bind rA ?_);intro t ht;rw[ht];refine Tm.ite (fun g=>?_) (fun g=>Tm.pure ?_)
              · refine Tm.step (idx_i (n:=1) rfl (by omega)) (Tm.bind rB ?_);rintro _ rfl;exact Tm.pure (by simp[g])
              · have:vA=false:=by simpa using g
                simp[this]
            · rw[Bool.and_eq_true]at hv;obtain⟨g1,g2,g3⟩:=steps_sat p.Steps l e hne hse hx;have hel0:0<e.length:=List.length_pos_iff.2 g1;have hfn:p.Form.length=nV e:=Classical.byContradiction fun h=>hw ⟨hel0,h⟩;have both:∀q:Ineq,Sat (nV e) x q→∀y∈e++[q],Sat (nV (e++[q])) x y:=fun q hq' y hy=>by
                rw[nV_app g1];rcases List.mem_append.1 hy with h4|h4
                · exact g3 y h4
                · rcases List.mem_singleton.1 h4 with rfl;exact hq'
              rcases Int.lt_or_le (bv p.Bound) (dotF (cf (Ineq.mk p.Form p.Bound)) x (nV e))with h4|h4
              · refine sB hv.2 (by simp) x (both high ⟨by rw[hh1.1];exact hfn,?_⟩);have e1:dotF (cf high) x (nV e)=dotF (fun j=>(-1)*cf (Ineq.mk p.Form p.Bound) j) x (nV e):=dotF_congr fun j hj=>by
                  have:=(hh1.2 j (by omega)).bv;show bv (high.Coefs.getD j big0)=-1*bv (p.Form.getD j big0);rw[this];show-bv (p.Form.getD j big0)=-1*bv (p.Form.getD j big0);omega
                rw[e1,dotF_mul,hh2.bv];omega
              · exact sA hv.1 (by simp) x (both _ ⟨hfn,h4⟩)
        · refine⟨false,cbeg (Tm.bind cst ?_),rbeg (Tm.bind rst ?_),fun hv=>by cases hv⟩
          · rintro _ rfl;exact Tm.neg (by omega) (Tm.neg (by omega) (Tm.pure rfl))
          · rintro _ rfl;refine Tm.neg (by omega) (Tm.bind (Q:=(·=true)) (Tm.pos (by omega) (Tm.pure rfl)) ?_);rintro _ rfl;exact Tm.pos rfl (Tm.pure rfl)
      · have cst:Tm (fun N=>loopM (cCheck_b1 N p) N (l,0)) (·=.inr false):=stepsC.mono (by
          rintro t (⟨e',rfl,h1,_⟩|⟨rfl,h1⟩)
          · have:=h1.uniq hsn;cases this
          · rfl)
        have rst:Tm (fun N=>loopM (rCheck_b1 N p) N (l,0)) (·=.inr false):=stepsR.mono (by
          rintro t (⟨e',rfl,h1⟩|⟨rfl,h1⟩)
          · have:=h1.uniq hsn;cases this
          · rfl)
        refine⟨false,cbeg (Tm.bind cst ?_),rbeg (Tm.bind rst ?_),fun hv=>by cases hv⟩
        · rintro _ rfl;exact Tm.pure rfl
        · rintro _ rfl;exact Tm.pure rfl
    · refine⟨false,Tm.succ ?_,Tm.succ ?_,fun h=>by cases h⟩
      · show Tm (fun N=>cCheck_step N (cCheck N) l p) _;unfold cCheck_step;refine Tm.bind (cwidth_tm (by omega)) ?_;rintro _ rfl;exact Tm.pos (by simp[hev]) (Tm.pure rfl)
      · show Tm (fun N=>rCheck_step N (rCheck N) l p) _;unfold rCheck_step;refine Tm.bind (rEven_tm (by omega)) ?_;rintro _ rfl;exact Tm.pos (by simp[hev]) (Tm.pure rfl)
open Go Go.X
theorem bkPs_mem:∀{l:List Proof} {c:Proof},c∈l→bkP c≤bkPs l
 |a::r,c,h=>by
  simp only[bkPs];rcases List.mem_cons.1 h with rfl|h
  · omega
  · have:=bkPs_mem h;omega
inductive InPr:Proof→Prop
 |mk {p:Proof} (h1:∀s∈p.Steps,InS s) (h2:p.Form.length≤9223372036854775807) (h3:∀b∈p.Form,In32 b) (h4:In32 p.Bound) (h5:p.Children.length≤9223372036854775807) (h6:∀c∈p.Children,InPr c):InPr p
theorem Sm.mono:∀{n m:Nat} {p:Proof},Sm n p→n≤m→Sm m p
 |0,_,_,h,_=>h.elim
 |n+1,0,_,_,h=>by omega
 |n+1,m+1,p,⟨h1,h2,h3,h4,h5,h6,h7⟩,h=>⟨by omega,h2,h3,h4,h5,fun c hc=>(h6 c hc).mono (by omega),h7⟩
theorem rweight_tm:∀(n:Nat) (p:Proof),bkP p≤n→n≤1048576→InPr p→Tm (fun N=>rweight N p) (fun r=>1≤r∧r≤101+101*(bkP p:Int)∧(r≤100→Sm r.toNat p)):=by
 intro n
 induction n with
 |zero=>intro p h;rw[bkP_eq]at h;omega
 |succ n ih=>
  intro p hb hn hp;have hbe:=bkP_eq p;cases hp with
  |mk h1 h2 h3 h4 h5 h6=>
  refine Tm.succ ?_;show Tm (fun N=>rweight_step N (rweight N) p) _;unfold rweight_step;have hw:iw (1+(p.Steps.length:Int))=1+(p.Steps.length:Int):=by rw[iw_eq]<;>omega
  rw[hw];refine Tm.bind (Q:=fun r=>r=false→p.Form.length≤6∧(∀b∈p.Form,OkB 4 b)∧OkB 4 p.Bound) (Tm.bind (rbigs_tm h2) ?_) ?_
  · intro r hr;refine Tm.ite (fun h=>Tm.pure (fun h=>by cases h)) (fun h=>Tm.pure (fun h'=>?_));have:=hr (by simpa using h);have h7:=of_decide_eq_false h';exact⟨this.1,fun b hb=>⟨h3 b hb,this.2 b hb⟩,h4,by omega⟩
  intro r hr;refine Tm.ite (fun h=>Tm.pure ⟨by decide,by omega,fun h'=>absurd h' (by decide)⟩) (fun h=>?_);obtain⟨f1,f2,f3⟩:=hr (by simpa using h);refine Tm.bind (Q:=fun t:Sum Unit Int=>t=.inr 101∨(t=.inl ()∧(p.Steps.length≤99→∀s∈p.Steps,OkS s))) ?_ ?_
  · by_cases hl:p.Steps.length≤99
    · refine Tm.each (body:=fun N=>rweight_b1 N p) p.Steps OkS (by omega) ?_ ?_
      · intro k hk _;dsimp only[rweight_b1];rw[hw];refine Tm.bind (Q:=(·=true)) (Tm.pos (by omega) (Tm.pure (decide_eq_true (by omega)))) ?_;rintro _ rfl;refine Tm.pos rfl (Tm.step (idx_ok hk) (Tm.bind (rSmallStep_tm (h1 _ (List.getElem_mem hk))) ?_));intro t ht;refine Tm.ite (fun h=>Tm.pure (.inr ⟨_,rfl,.inl rfl⟩)) (fun h=>Tm.pure (.inl ⟨rfl,ht (by simpa using h)⟩))
      · intro hall;dsimp only[rweight_b1];refine Tm.bind (Q:=(·=false)) (Tm.neg (by omega) (Tm.pure rfl)) ?_;rintro _ rfl;exact Tm.neg (by simp) (Tm.pure ⟨_,rfl,.inr ⟨rfl,fun _=>hall⟩⟩)
    · refine Tm.loop (fun _=>True) (fun _=>0) trivial ?_;intro i _;dsimp only[rweight_b1];rw[hw];refine Tm.bind (Q:=(·=false)) (Tm.ite (fun _=>Tm.pure (decide_eq_false (by omega))) (fun _=>Tm.pure rfl)) ?_;rintro _ rfl;exact Tm.neg (by simp) (Tm.pure (.inr ⟨rfl,fun h=>absurd h hl⟩))
  rintro _ (rfl|⟨rfl,hsteps⟩)
  · exact Tm.pure ⟨by decide,by omega,fun h'=>absurd h' (by decide)⟩
  refine Tm.bind (Q:=fun r=>1≤r∧r≤101+101*(bkP p:Int)∧(r≤100→Sm r.toNat p))
   (Tm.loop (fun t:Int×Int=>∃k:Nat,t.2=k∧k≤p.Children.length∧1+(p.Steps.length:Int)≤t.1∧t.1≤101+101*(bkP p:Int)∧∀j,(hj:j<p.Children.length)→j<k→∃r:Int,1≤r∧r+1≤t.1∧(r≤100→Sm r.toNat p.Children[j])) (fun t=>p.Children.length-t.2.toNat)
    ⟨0,rfl,Nat.zero_le _,Int.le_refl _,by dsimp only;omega,fun j _ h=>absurd h (by omega)⟩ ?_) (fun r h=>Tm.pure h)
  rintro⟨m,kk⟩ ⟨k,rfl,hk,hm0,hm1,hc⟩;dsimp only[rweight_b2]at*;refine Tm.bind (Q:=(·=decide (k<p.Children.length∧m≤100))) (Tm.ite (fun h=>Tm.pure ?_) (fun h=>Tm.pure ?_)) ?_
  · have:k<p.Children.length:=by omega
    simp[this]
  · have:¬k<p.Children.length:=by omega
    simp[this]
  rintro _ rfl;refine Tm.ite (fun h=>?_) (fun h=>Tm.pure ?_)
  · obtain⟨g1,g2⟩:=of_decide_eq_true h;refine Tm.step (idx_ok g1) ?_;have hmem:=List.getElem_mem g1;have hbk:=bkPs_mem hmem;refine Tm.bind (ih _ (by omega) (by omega) (h6 _ hmem)) ?_;rintro r ⟨r1,r2,r3⟩;have e:iw (m+r)=m+r:=by rw[iw_eq]<;>omega
    refine Tm.pure ⟨⟨k+1,by show iw ((k:Int)+1)=_;rw[iw_eq]<;>omega,by omega,by dsimp only;omega,by dsimp only;omega,fun j hj hjk=>?_⟩,?_⟩
    · dsimp only;rw[e];by_cases hjk':j<k
      · obtain⟨r',q1,q2,q3⟩:=hc j hj hjk';exact⟨r',q1,by omega,q3⟩
      · obtain rfl:j=k:=by omega
        exact⟨r,r1,by omega,r3⟩
    · show p.Children.length-(iw ((k:Int)+1)).toNat<p.Children.length-((k:Int)).toNat;rw[iw_eq]<;>omega
  · have h:¬(k<p.Children.length∧m≤100):=by simpa using h
    refine⟨by omega,hm1,fun hm=>?_⟩;have hkl:k=p.Children.length:=by omega
    obtain⟨q,hq⟩:∃q,m.toNat=q+1:=⟨m.toNat-1,by omega⟩;rw[hq];refine⟨by omega,hsteps (by omega),f1,f2,f3,fun c hcm=>?_,fun c hcm=>?_⟩
    · obtain⟨j,hj,rfl⟩:=List.mem_iff_getElem.1 hcm;obtain⟨r',q1,q2,q3⟩:=hc j hj (by omega);exact(q3 (by omega)).mono (by omega)
    · cases h6 c hcm with
      |mk _ _ _ _ g5 _=>exact g5
theorem rSmallProof_tm{p:Proof}(hb:bkP p≤1048576)(hp:InPr p):Tm (fun N=>rSmallProof N p) (fun t=>t=true→Sm 40 p):=by
 unfold rSmallProof;refine Tm.bind (rweight_tm _ p (Nat.le_refl _) hb hp) ?_;rintro r ⟨h1,h2,h3⟩;refine Tm.pure (fun h=>?_);have:=of_decide_eq_true h;exact(h3 (by omega)).mono (by omega)
open Go Go.X
theorem bkRs_get:∀{l:List Refut} {k:Nat} (h:k<l.length),bkRs (l.take (k+1))=bkRs (l.take k)+bkR l[k]
 |a::r,0,_=>by simp[bkRs]
 |a::r,k+1,h=>by
  have:=bkRs_get (l:=r) (k:=k) (by simpa using h);simp only[List.take_succ_cons,bkRs,List.getElem_cons_succ]at this⊢;omega
theorem bkRs_take:∀{l:List Refut} {k:Nat},bkRs (l.take k)≤bkRs l
 |[],k=>by simp
 |a::r,0=>by simp[bkRs]
 |a::r,k+1=>by
  have:=bkRs_take (l:=r) (k:=k);simp only[List.take_succ_cons,bkRs];omega
theorem bkRs_mem{l:List Refut}{k:Nat}(h:k<l.length):bkR l[k]≤bkRs l:=by
 have h1:=bkRs_get h;have h2:=bkRs_take (l:=l) (k:=k+1);omega
inductive InRr:Refut→Prop
 |mk {r:Refut} (h1:I64 r.Var) (h2:I64 r.At) (h3:InPr r.Proof) (h4:r.Children.length≤9223372036854775807) (h5:∀c∈r.Children,InRr c):InRr r
inductive SmR:Refut→Prop
 |mk {r:Refut} (h1:Sm 40 r.Proof) (h2:r.Proof.Children.length≤9223372036854775807) (h3:∀c∈r.Children,SmR c):SmR r
theorem wparts_tm{r:Refut}(h:InRr r):bkR r≤1048576→Tm (fun N=>wparts N r) (fun v=>(1≤v∧v≤101*(bkR r:Int))∧(v≤30→SmR r)):=by
 induction h with
 |@mk r h1 h2 h3 h4 h5 ih=>
  intro hb;have e:=bkR_eq r;have e2:=bkP_eq r.Proof;have hch:r.Proof.Children.length≤9223372036854775807:=by cases h3;assumption
  refine Tm.succ ?_;show Tm (fun N=>wparts_step N (wparts N) r) _;unfold wparts_step;refine(rSmallProof_tm (by omega) h3).bind fun b hbb=>?_;cases b with
  |false=>exact Tm.pos rfl (Tm.some ⟨⟨by omega,by omega⟩,fun h=>by omega⟩)
  |true=>
   have hS:=hbb rfl;refine Tm.neg (by simp) ?_;refine Tm.bind (Q:=fun v=>(1≤v∧v≤101*(bkR r:Int))∧(v≤30→SmR r)) ?_ fun v hv=>Tm.some hv;refine Tm.up r.Children.length (fun k s=>s.2=(k:Int)∧(1≤s.1∧s.1≤101*(1+(bkRs (r.Children.take k):Int)))∧(s.1≤30→∀j (hj:j<r.Children.length),j<k→SmR r.Children[j])) ⟨rfl,⟨by omega,by omega⟩,fun _ j _ hj=>by omega⟩ ?_;rintro k hk ⟨n,i⟩ ⟨hi,hn,hJ⟩;dsimp only at hi hn hJ;subst hi;unfold wparts_b1;dsimp only;have ht:=bkRs_take (l:=r.Children) (k:=k);have hend:101*(1+(bkRs (r.Children.take k):Int))≤101*(bkR r:Int):=by omega
   rcases Nat.lt_or_ge k r.Children.length with hlt|hge
   · by_cases g:n≤100
     · refine Tm.eq (a:=true) (Tm.pos (by omega) (Tm.some (decide_eq_true g))) (Tm.pos rfl (Tm.step (idx_n hlt) ?_));have hkb:=bkRs_mem hlt;have hget:=bkRs_get hlt;have ht1:=bkRs_take (l:=r.Children) (k:=k+1);refine(ih _ (List.getElem_mem hlt) (by omega)).bind fun v hv=>?_;obtain⟨⟨v1,v2⟩,v3⟩:=hv;have hw:iw (n+v)=n+v:=by rw[iw_eq]<;>omega
       refine Tm.some ⟨hlt,iw_n (by omega),?_,fun hle j hj hjk=>?_⟩
       · dsimp only;rw[hw];exact⟨by omega,by omega⟩
       · dsimp only at hle;rw[hw]at hle;by_cases ejk:j=k
         · subst ejk;exact v3 (by omega)
         · exact hJ (by omega) j hj (by omega)
     · exact Tm.eq (a:=false) (Tm.pos (by omega) (Tm.some (decide_eq_false g))) (Tm.neg (by simp) (Tm.some ⟨⟨by omega,by omega⟩,fun h=>by omega⟩))
   · refine Tm.eq (a:=false) (Tm.neg (by omega) (Tm.some rfl)) (Tm.neg (by simp) (Tm.some ⟨⟨by omega,by omega⟩,fun h=>.mk hS hch fun c hc=>?_⟩));obtain⟨j,hj,rfl⟩:=List.getElem_of_mem hc;exact hJ h j hj (by omega)
theorem wSmall_tm{r:Refut}(h:InRr r)(hb:bkR r≤1048576):Tm (fun N=>wSmall N r) (fun t=>t=true→SmR r):=by
 unfold wSmall;refine(wparts_tm h hb).bind fun v hv=>Tm.some fun e=>hv.2 (of_decide_eq_true e)
open Go Go.X
section
variable {l:List RVar} {c:RClause} {rg:List Arr2Int} {R:List RVal} {a:List Int×Bool} {bs:List Int} {r:Refut}
theorem intsOf_okC(hd:DmOk l)(hv:ClOk c l)(hs:SmC c)(hr:RgOk l rg):∀x∈intsOf l c rg,OkC x:=by
 have hb:Bg=9223372036854775807:=rfl;have hsx:=hs.ax;have hll:=hd.len;intro x hx;have hlen:=intsOf_cf hv hs hll x hx;have one:∀(v n:Int),I64 n→∀k∈[Coef.mk v n],I64 k.N:=fun v n hn k hk=>by rw[List.mem_singleton.1 hk];exact hn
 have hbn:∀(v a b:Int),I64 a→x∈bnds v a b→OkC x:=by
  intro v a b ha hx;unfold bnds at hx;rcases List.mem_cons.1 hx with rfl|hx
  · exact⟨by omega,ha,one v _ (by unfold I64;omega)⟩
  · rcases List.mem_singleton.1 hx with rfl;exact⟨by omega,I64_iw _,one v _ (by unfold I64;omega)⟩
 unfold intsOf at hx;rcases List.mem_append.1 hx with hx|hx
 · rcases List.mem_append.1 hx with hx|hx
   · obtain⟨v,hvm,hx⟩:=List.mem_flatMap.1 hx;unfold nnOf at hx;split at hx
     · rename_i y hy;split at hx
       · rename_i hty;refine hbn _ _ _ ?_ hx;have hm:=List.mem_of_getElem? hy;unfold I64;rcases hd.ty _ hm with⟨_,q1,_⟩|⟨q,_⟩<;>omega
       · cases hx
     · cases hx
   · obtain⟨i,hi,hx⟩:=List.mem_flatMap.1 hx;have hi:=List.mem_range.1 hi;rw[axAt_at hi]at hx;unfold axOf at hx;split at hx
     · refine hbn _ _ _ ?_ hx;unfold I64;split
       · rename_i y hy;have:=hr.bd _ (List.mem_of_getElem? hy);omega
       · omega
     · rename_i g;rcases hv.ax i hi with⟨g1,_⟩|⟨_,hby,_,hf⟩
       · exact absurd g1 g
       unfold quo at hx;rcases List.mem_cons.1 hx with rfl|hx
       · refine⟨by omega,I64_iw _,fun k hk=>?_⟩;rcases List.mem_append.1 (show k∈(c.Auxiliary[i].Of.Coefs.map fun x=>Coef.mk x.Var (iw (0-x.N)))++[Coef.mk _ _] from hk)with hk|hk
         · obtain⟨y,_,rfl⟩:=List.mem_map.1 hk;exact I64_iw _
         · rw[List.mem_singleton.1 hk];show I64 c.Auxiliary[i].By;unfold I64;omega
       · rcases List.mem_singleton.1 hx with rfl;refine⟨by omega,I64_iw _,fun k hk=>?_⟩;rcases List.mem_append.1 (show k∈c.Auxiliary[i].Of.Coefs++[Coef.mk _ _] from hk)with hk|hk
         · have:=(hf.cf k hk).2.2;unfold I64;omega
         · rw[List.mem_singleton.1 hk];exact I64_iw _
 · have hf:=hv.it x hx;have:=hf.cst;refine⟨by omega,by unfold I64;omega,fun k hk=>?_⟩;have:=(hf.cf k hk).2.2;unfold I64;omega
theorem vcheck3F(hk:r.Kind=3)(hv:ClOk c l)(hd:DmOk l)(hr:RgOk l rg):(Tm (fun N=>vcheck N l c r rg) (·=false))∨∃(k:Nat) (hkl:k<l.length) (p q:Refut),r.Var=(k:Int)∧r.Var∈c.NotNull∧l[k].Ty=2∧(rg.getD k (Arr2Int.mk 0 0)).e0≤r.At∧r.At<(rg.getD k (Arr2Int.mk 0 0)).e1∧r.Children=[p,q]:=by
 have hb:Bg=9223372036854775807:=rfl;have n2:=hv.nn.len;have hl:=hd.len;have hrl:=hr.len;have start:∀{g:Nat→Option Bool},Tm g (·=true)→(∀N,vcheck_step N (vcheck N) l c r rg=(g N).bind fun x=>if x=true then some false else((fun N=>(clonePair N rg).bind fun r304=>(clonePair N rg).bind fun r320=>(idx r304 r.Var).bind fun x336=>(upd1 r304 r.Var (Arr2Int.mk x336.e0 r.At)).bind fun x349=>(idx r320 r.Var).bind fun x364=>(upd1 r320 r.Var (Arr2Int.mk (iw (r.At+1)) x364.e1)).bind fun x377=>(idx r.Children 0).bind fun x392=>(vcheck N l c x392 x349).bind fun r416=>if r416=true then(idx r.Children 1).bind fun x433=>(vcheck N l c x433 x377).bind fun r457=>some r457 else some false) N))→Tm (fun N=>vcheck N l c r rg) (·=false):=by
  intro g hg he;refine Tm.succ ?_;show Tm (fun N=>vcheck_step N (vcheck N) l c r rg) _;simp only[he];exact hg.eq (Tm.pos rfl (Tm.some rfl))
 have all:∀N,vcheck_step N (vcheck N) l c r rg=((containsOf N c.NotNull r.Var).bind fun r228=>if(!r228)=true then some true else(idx l r.Var).bind fun x240=>if(x240.Ty:Int)≠2 then some true else(idx rg r.Var).bind fun x259=>if(r.At:Int)<x259.e0 then some true else(idx rg r.Var).bind fun x278=>if(r.At:Int)≥x278.e1 then some true else some (decide (((List.length r.Children:Int):Int)≠2))).bind fun x=>if x=true then some false else((fun N=>(clonePair N rg).bind fun r304=>(clonePair N rg).bind fun r320=>(idx r304 r.Var).bind fun x336=>(upd1 r304 r.Var (Arr2Int.mk x336.e0 r.At)).bind fun x349=>(idx r320 r.Var).bind fun x364=>(upd1 r320 r.Var (Arr2Int.mk (iw (r.At+1)) x364.e1)).bind fun x377=>(idx r.Children 0).bind fun x392=>(vcheck N l c x392 x349).bind fun r416=>if r416=true then(idx r.Children 1).bind fun x433=>(vcheck N l c x433 x377).bind fun r457=>some r457 else some false) N):=by
  intro N;unfold vcheck_step;rw[if_neg (by omega),if_neg (by omega),if_neg (by omega),if_pos hk]
 by_cases hm:r.Var∈c.NotNull
 · obtain⟨k,ek,hkl⟩:=var_n (hv.nn.bd _ hm);have hkr:k<rg.length:=by omega
   by_cases h2:l[k].Ty=2
   · by_cases h3:r.At<rg[k].e0
     · left;refine start ?_ all;refine(containsOf_tm (by omega)).eq ?_;rw[decide_eq_true hm,ek];exact Tm.neg (by simp) (Tm.step (idx_n hkl) (Tm.neg (by simp[h2]) (Tm.step (idx_n hkr) (Tm.pos h3 (Tm.some rfl)))))
     · by_cases h4:r.At≥rg[k].e1
       · left;refine start ?_ all;refine(containsOf_tm (by omega)).eq ?_;rw[decide_eq_true hm,ek];exact Tm.neg (by simp) (Tm.step (idx_n hkl) (Tm.neg (by simp[h2]) (Tm.step (idx_n hkr) (Tm.neg h3 (Tm.step (idx_n hkr) (Tm.pos h4 (Tm.some rfl)))))))
       · by_cases h5:r.Children.length=2
         · right
           match hc:r.Children,h5 with
           |[p,q],_=>
            refine⟨k,hkl,p,q,ek,hm,h2,?_,?_,rfl⟩
            · rw[getD_n hkr];omega
            · rw[getD_n hkr];omega
         · left;refine start ?_ all;refine(containsOf_tm (by omega)).eq ?_;rw[decide_eq_true hm,ek];exact Tm.neg (by simp) (Tm.step (idx_n hkl) (Tm.neg (by simp[h2]) (Tm.step (idx_n hkr) (Tm.neg h3 (Tm.step (idx_n hkr) (Tm.neg h4 (Tm.some (decide_eq_true (by omega)))))))))
   · left;refine start ?_ all;refine(containsOf_tm (by omega)).eq ?_;rw[decide_eq_true hm,ek];exact Tm.neg (by simp) (Tm.step (idx_n hkl) (Tm.pos h2 (Tm.some rfl)))
 · left;refine start ?_ all;refine(containsOf_tm (by omega)).eq ?_;rw[decide_eq_false hm];exact Tm.pos rfl (Tm.some rfl)
end
open Go Go.X
section
variable {p:TProb} {L:List Int}
theorem rLeaders_b1_tm(hp:OkP p):Tm (fun N=>loopM (rLeaders_b1 N p) N (([]:List Int),0)) (fun r=>r.length=p.Min.length∧∀v,v<p.Min.length→r[v]?=some (v:Int)):=by
 have hle:=hp.le;have hlen:=hp.len;refine Tm.up p.Min.length (fun k s=>s.2=(k:Int)∧s.1.length=k∧∀v,v<k→s.1[v]?=some (v:Int)) ⟨rfl,rfl,fun v hv=>by omega⟩ ?_;rintro k hk ⟨s,i⟩ ⟨hi,hsl,hsv⟩;dsimp only at hi hsl hsv;subst hi;unfold rLeaders_b1;dsimp only;rcases Nat.lt_or_ge k p.Min.length with hlt|hge
 · refine Tm.pos (by omega) ?_;rw[apnd_ok (by simp;omega) (by decide)];refine Tm.some ⟨hlt,iw_n (by omega),by simp[hsl],fun v hv=>?_⟩;by_cases e:v<k
   · rw[List.getElem?_append_left (by omega)];exact hsv v e
   · have:v=k:=by omega
     subst this;rw[List.getElem?_append_right (by omega),hsl];simp
 · exact Tm.neg (by omega) (Tm.some ⟨by omega,fun v hv=>hsv v (by omega)⟩)
theorem rLeaders_b3_tm(h:Lb p L)(hf:Fx p L)(hp:OkP p)(hs:p.Same.length≤1000){s0:List Int}(h0:Lb p s0):Tm (fun N=>loopM (rLeaders_b3 N p) N (s0,0)) (fun r=>Rnd p L s0 r):=by
 refine Tm.up p.Same.length (fun k s=>s.2=(k:Int)∧Lb p s.1∧(∀v:Nat,s0[v]?=L[v]?→s.1[v]?=L[v]?)∧∀j (hj:j<p.Same.length),j<k→(s0[p.Same[j].e0.toNat]?=L[p.Same[j].e0.toNat]?∨s0[p.Same[j].e1.toNat]?=L[p.Same[j].e1.toNat]?)→s.1[p.Same[j].e0.toNat]?=L[p.Same[j].e0.toNat]?∧s.1[p.Same[j].e1.toNat]?=L[p.Same[j].e1.toNat]?) ⟨rfl,h0,fun v e=>e,fun j _ hj=>by omega⟩ ?_;rintro k hk ⟨s,i⟩ ⟨hi,hL,h1,h2⟩;dsimp only at hi hL h1 h2;subst hi;unfold rLeaders_b3;dsimp only;rcases Nat.lt_or_ge k p.Same.length with hlt|hge
 · obtain⟨a,b,ea,eb,ha,hb⟩:=same_get hp hlt;have hl:=hL.len;obtain⟨x,ex,hx,_⟩:=hL.ok a ha;obtain⟨y,ey,hy,_⟩:=hL.ok b hb;have ea':p.Same[k].e0.toNat=a:=by omega
   have eb':p.Same[k].e1.toNat=b:=by omega
   refine Tm.pos (by omega) (Tm.step (idx_n hlt) (Tm.step (idx_n hlt) ?_));rw[ea,eb];refine Tm.step (idx_get ex) (Tm.step (idx_get ey) (Tm.step (idx_get ex) ?_));rw[imin_n,upd1_i (n:=a) rfl (by omega)];simp only[Option.bind_some];refine Tm.step (idx_n (by rw[List.length_set];omega)) ?_;rw[upd1_i (n:=b) rfl (by rw[List.length_set];omega)];have hst:=hL.step (List.getElem_mem hlt) (x:=x) (y:=y) (by rw[ea'];exact ha) (by rw[eb'];exact hb) (by rw[ea'];exact ex) (by rw[eb'];exact ey);rw[ea',eb']at hst;obtain⟨l,el,_,_⟩:=h.ok a ha;have eab:L[a]?=L[b]?:=by have:=hf _ (List.getElem_mem hlt);rwa[ea',eb']at this
   have elb:L[b]?=some (l:Int):=by rw[←eab];exact el
   have lx:=h.le hL hf ha el ex;have ly:=h.le hL hf hb elb ey;have hset:∀v:Nat,((s.set a ((min x y:Nat):Int)).set b ((min x y:Nat):Int))[v]?=if v=a∨v=b then some ((min x y:Nat):Int)else s[v]?:=by
    intro v;rw[List.getElem?_set];by_cases g1:b=v
    · subst g1;rw[if_pos rfl,if_pos (by rw[List.length_set];omega),if_pos (.inr rfl)]
    · rw[if_neg g1,List.getElem?_set];by_cases g0:a=v
      · subst g0;rw[if_pos rfl,if_pos (by omega),if_pos (.inl rfl)]
      · rw[if_neg g0,if_neg (by omega)]
   have hmin:s[a]?=L[a]?∨s[b]?=L[b]?→min x y=l:=by
    rintro(g|g)
    · rw[ex,el]at g;have:=Option.some.inj g;omega
    · rw[ey,elb]at g;have:=Option.some.inj g;omega
   have hkeep:∀v:Nat,s[v]?=L[v]?→((s.set a ((min x y:Nat):Int)).set b ((min x y:Nat):Int))[v]?=L[v]?:=by
    intro v g;rw[hset];by_cases g1:v=a∨v=b
    · rw[if_pos g1];rcases g1 with rfl|rfl
      · rw[hmin (.inl g),el]
      · rw[hmin (.inr g),elb]
    · rw[if_neg g1];exact g
   refine Tm.some ⟨hlt,iw_n (by omega),hst,fun v e=>hkeep v (h1 v e),fun j hj hjk hor=>?_⟩;by_cases ejk:j=k
   · subst ejk;rw[ea',eb']at hor⊢;have hmn:=hmin (hor.imp (h1 _) (h1 _));show((s.set a ((min x y:Nat):Int)).set b ((min x y:Nat):Int))[a]?=_∧((s.set a ((min x y:Nat):Int)).set b ((min x y:Nat):Int))[b]?=_;rw[hset,hset,if_pos (.inl rfl),if_pos (.inr rfl),hmn,el,elb];exact⟨rfl,rfl⟩
   · have:=h2 j hj (by omega) hor;exact⟨hkeep _ this.1,hkeep _ this.2⟩
 · refine Tm.neg (by omega) (Tm.some ⟨hL,h1,fun e he=>?_⟩);obtain⟨j,hj,rfl⟩:=List.getElem_of_mem he;exact h2 j hj (by omega)
theorem rLeaders_tm(h:Lb p L)(hf:Fx p L)(hp:OkP p)(hs:p.Same.length≤1000):Tm (fun N=>rLeaders N p) (·=L):=by
 have hle:=hp.le;unfold rLeaders;refine(rLeaders_b1_tm hp).bind fun s0 h0=>?_;refine Tm.bind (Q:=fun r=>r=L) ?_ fun r hr=>Tm.some hr;have hb0:bad L s0 p.Min.length≤p.Min.length:=by
  unfold bad;have:=List.length_filter_le (fun v=>decide (s0[v]?≠L[v]?)) (List.range p.Min.length);simpa using this
 refine Tm.up p.Min.length (fun k s=>s.2=(k:Int)∧Lb p s.1∧bad L s.1 p.Min.length≤p.Min.length-k) ⟨rfl,lb_ids h0.1 h0.2,by simpa using hb0⟩ ?_;rintro k hk ⟨s,i⟩ ⟨hi,hL,hb⟩;dsimp only at hi hL hb;subst hi;have hl:=hL.len;unfold rLeaders_b2;dsimp only;rcases Nat.lt_or_ge k p.Min.length with hlt|hge
 · refine Tm.pos (by omega) ((rLeaders_b3_tm h hf hp hs hL).bind fun r hr=>?_);have h2:=rnd_bad h hf hp hL hr;refine Tm.some ⟨hlt,iw_n (by omega),hr.lb,?_⟩;show bad L r p.Min.length≤_;by_cases hz:0<bad L s p.Min.length
   · have:=h2.2 hz;omega
   · have:=h2.1;omega
 · refine Tm.neg (by omega) (Tm.some ?_);show s=L;apply List.ext_getElem?;intro v;by_cases hv:v<p.Min.length
   · have hz:bad L s p.Min.length=0:=by omega
     unfold bad at hz;have:=List.filter_eq_nil_iff.1 (List.eq_nil_of_length_eq_zero hz) v (List.mem_range.2 hv);simpa using this
   · rw[List.getElem?_eq_none (by omega),List.getElem?_eq_none (by rw[h.len];omega)]
theorem rClasses_b2_tm{i:Nat}(hn:L.length≤1000):Tm (fun N=>loopM (rClasses_b2 N L (i:Int)) N (([]:List Int),0)) (·=fl (fun v=>decide (L[v]?=some (i:Int))) L.length):=by
 refine Tm.up L.length (fun k s=>s.2=(k:Int)∧s.1=fl (fun v=>decide (L[v]?=some (i:Int))) k) ⟨rfl,rfl⟩ ?_;rintro k hk ⟨s,j⟩ ⟨hi,hs⟩;dsimp only at hi hs;subst hi;subst hs;unfold rClasses_b2;dsimp only;rcases Nat.lt_or_ge k L.length with hlt|hge
 · have hfl:=fl_len (P:=fun v=>decide (L[v]?=some (i:Int))) (n:=k);refine Tm.pos (by omega) (Tm.step (idx_n hlt) ?_);by_cases e:L[k]=(i:Int)
   · refine Tm.pos e ?_;rw[apnd_ok (by simp;omega) (by decide)];refine Tm.some ⟨hlt,iw_n (by omega),?_⟩;rw[fl_succ,List.getElem?_eq_getElem hlt,e];simp
   · refine Tm.neg e (Tm.some ⟨hlt,iw_n (by omega),?_⟩);rw[fl_succ,List.getElem?_eq_getElem hlt];simp[e]
 · have:k=L.length:=by omega
   subst this;exact Tm.neg (by omega) (Tm.some rfl)
theorem rClasses_tm(h:Lb p L)(hf:Fx p L)(hp:OkP p)(hs:p.Same.length≤1000):Tm (fun N=>rClasses N p) (·=classesOf L):=by
 have hle:=hp.le;have hl:=h.len;unfold rClasses;refine(rLeaders_tm h hf hp hs).eq ?_;refine Tm.bind (Q:=fun r=>r=classesOf L) ?_ fun r hr=>Tm.some hr;have hlast:((List.range L.length).filter (isL L)).map (fun(i:Nat)=>fl (fun v=>decide (L[v]?=some (i:Int))) L.length)=classesOf L:=by
  unfold classesOf;rw[←rk_range,List.map_map];apply List.map_congr_left;intro i hi;obtain⟨h1,h2⟩:=List.mem_filter.1 hi;show fl _ _=memb L (rk L i);unfold memb fl;congr 1;apply List.filter_congr;intro v hv;exact decide_eq_decide.2 (cls_eq h hf (by rw[←hl];exact List.mem_range.1 hv) h2).symm
 rw[←hlast];refine Tm.up L.length (fun k s=>s.2=(k:Int)∧s.1=((List.range k).filter (isL L)).map (fun(i:Nat)=>fl (fun v=>decide (L[v]?=some (i:Int))) L.length)) ⟨rfl,rfl⟩ ?_;rintro k hk ⟨s,j⟩ ⟨hi,hs⟩;dsimp only at hi hs;subst hi;subst hs;unfold rClasses_b1;dsimp only;rcases Nat.lt_or_ge k L.length with hlt|hge
 · refine Tm.pos (by omega) (Tm.step (idx_n hlt) ?_);have hlen:(((List.range k).filter (isL L)).map (fun(i:Nat)=>fl (fun v=>decide (L[v]?=some (i:Int))) L.length)).length≤k:=by
    rw[List.length_map];have:=List.length_filter_le (isL L) (List.range k);simpa using this
   by_cases e:L[k]=(k:Int)
   · refine Tm.neg (fun g=>g e) ((rClasses_b2_tm (by omega)).eq ?_);rw[apnd_ok (by simp only[List.length_singleton];omega) (by decide)];refine Tm.some ⟨hlt,iw_n (by omega),?_⟩;have:isL L k=true:=decide_eq_true (by rw[List.getElem?_eq_getElem hlt,e]);rw[List.range_succ,List.filter_append,List.map_append];simp[this]
   · refine Tm.pos e (Tm.some ⟨hlt,iw_n (by omega),?_⟩);have:isL L k=false:=decide_eq_false (by rw[List.getElem?_eq_getElem hlt];intro g;exact e (Option.some.inj g));rw[List.range_succ,List.filter_append,List.map_append];simp[this]
 · have:k=L.length:=by omega
   subst this;exact Tm.neg (by omega) (Tm.some rfl)
end
def fr:Nat→List (List UInt8)
 |0=>[[]]
 |n+1=>(fr n).flatMap fun x=>(List.range 95).map fun(c:Nat)=>x++[UInt8.ofNat (32+c)]
theorem u8n{c:Nat}(h:c<95):(UInt8.ofNat (32+c)).toNat=32+c:=by
 have e:(UInt8.ofNat (32+c)).toNat=(32+c)%2^8:=UInt8.toNat_ofNat';rw[e];omega
theorem mem_fr:∀{n:Nat} {s:List UInt8},s∈fr n↔s.length=n∧s.all prn=true
 |0,s=>by
  simp only[fr,List.mem_singleton];constructor
  · rintro rfl;exact⟨rfl,rfl⟩
  · rintro⟨h,_⟩;exact List.eq_nil_of_length_eq_zero h
 |n+1,s=>by
  simp only[fr,List.mem_flatMap,List.mem_map,List.mem_range];constructor
  · rintro⟨x,hx,c,hc,rfl⟩;obtain⟨h1,h2⟩:=mem_fr.1 hx;refine⟨by simp[h1],?_⟩;rw[List.all_append,h2,Bool.true_and,List.all_cons,List.all_nil,Bool.and_true];unfold prn;exact decide_eq_true (by rw[u8n hc];omega)
  · rintro⟨h1,h2⟩;have hne:s≠[]:=by intro e;rw[e]at h1;simp at h1
    have e:s.dropLast++[s.getLast hne]=s:=List.dropLast_concat_getLast hne;rw[←e,List.all_append,Bool.and_eq_true,List.all_cons,List.all_nil,Bool.and_true]at h2;have hb:=of_decide_eq_true (show decide (32≤(s.getLast hne).toNat∧(s.getLast hne).toNat≤126)=true from h2.2);refine⟨s.dropLast,mem_fr.2 ⟨by rw[List.length_dropLast];omega,h2.1⟩,(s.getLast hne).toNat-32,by omega,?_⟩;rw[show 32+((s.getLast hne).toNat-32)=(s.getLast hne).toNat by omega,UInt8.ofNat_toNat];exact e
theorem fr_nodup:∀n,(fr n).Nodup
 |0=>by simp[fr]
 |n+1=>by
  simp only[fr];refine nodup_flatMap (fr_nodup n) (fun a _=>nodup_map List.nodup_range fun c d hc hd e=>?_) fun a b ha hb hab x hx hx'=>?_
  · have hc:=List.mem_range.1 hc;have hd:=List.mem_range.1 hd;have e:=(List.append_inj' e rfl).2;have e:=congrArg UInt8.toNat (List.cons.inj e).1;rw[u8n hc,u8n hd]at e;omega
  · obtain⟨c,hc,rfl⟩:=List.mem_map.1 hx;obtain⟨d,hd,e⟩:=List.mem_map.1 hx';exact hab (List.append_inj' e rfl).1.symm
theorem fr_len:(fr 0).length=1∧(fr 1).length=95∧(fr 2).length=9025:=by
 have h:∀n,(fr (n+1)).length=95*(fr n).length:=by
  intro n;simp only[fr,List.length_flatMap,List.length_map,List.length_range];generalize fr n=l
  induction l with
  |nil=>rfl
  |cons x l ih=>simp only[List.map_cons,List.sum_cons,List.length_cons,ih];omega
 have h0:(fr 0).length=1:=rfl;have h1:(fr 1).length=95*(fr 0).length:=h 0;have h2:(fr 2).length=95*(fr 1).length:=h 1;omega
theorem fr_le{n:Nat}(h:n≤2):(fr n).length≤9025:=by
 have:=fr_len;have hc:n=0∨n=1∨n=2:=by omega
 rcases hc with rfl|rfl|rfl<;>omega
section
variable {p:TProb}
def wB(p:TProb)(s:List UInt8)(v:Int):Bool:=decide (p.Min.getD v.toNat 0≤(s.length:Int)∧(s.length:Int)≤p.Max.getD v.toNat 0)&&p.Tests.all fun t=>!(decide (t.Var=v)&&!pas t s)
theorem rWord_tm{cl:List Int}{s:List UInt8}(hp:OkP p)(hm:Lms p)(hs:s.length≤1000)(hcl:cl.length≤1000)(hv:∀v∈cl,∃q:Nat,v=(q:Int)∧q<p.Min.length):Tm (fun N=>rWord N p cl s) (·=cl.all (wB p s)):=by
 have hb:Bg=9223372036854775807:=rfl;have htl:=hm.c;unfold rWord;refine(Tm.allL (b:=fun N=>rWord_b1 N p s cl) cl (wB p s) (by omega) (fun k hk=>?_) ?_).eq ?_
 · unfold rWord_b1;obtain⟨q,eq,hq⟩:=hv _ (List.getElem_mem hk);have hq2:q<p.Max.length:=by rw[hp.len];exact hq
   refine Tm.pos (by omega) (Tm.step (idx_n hk) ?_);have ew:wB p s cl[k]=(decide (p.Min[q]≤(s.length:Int)∧(s.length:Int)≤p.Max[q])&&p.Tests.all fun t=>!(decide (t.Var=(q:Int))&&!pas t s)):=by
    unfold wB;rw[eq,Int.toNat_natCast,getD_n hq,getD_n hq2]
   rw[ew,eq];have key:Tm (fun N=>(((idx p.Min (q:Int)).bind fun x760=>(if((List.length s:Int):Int)<x760 then some true else(idx p.Max (q:Int)).bind fun x775=>some (decide (((List.length s:Int):Int)>x775))):Option Bool))) (·=!decide (p.Min[q]≤(s.length:Int)∧(s.length:Int)≤p.Max[q])):=by
    refine Tm.step (idx_n hq) ?_;by_cases h1:(s.length:Int)<p.Min[q]
    · exact Tm.pos h1 (Tm.some (by rw[decide_eq_false (by omega)];rfl))
    · refine Tm.neg h1 (Tm.step (idx_n hq2) (Tm.some ?_));by_cases h2:(s.length:Int)>p.Max[q]
      · rw[decide_eq_true h2,decide_eq_false (by omega)];rfl
      · rw[decide_eq_false h2,decide_eq_true (by omega)];rfl
   refine key.eq ?_;cases hd:decide (p.Min[q]≤(s.length:Int)∧(s.length:Int)≤p.Max[q])with
   |false=>exact Tm.pos rfl (Tm.some rfl)
   |true=>
    refine Tm.neg (by simp) ?_;refine(Tm.allL (b:=fun N=>rWord_b2 N p s (q:Int)) p.Tests (fun t=>!(decide (t.Var=(q:Int))&&!pas t s)) (by omega) (fun j hj=>?_) ?_).eq ?_
    · unfold rWord_b2;refine Tm.pos (by omega) ?_;have key2:Tm (fun N=>(((idx p.Tests (j:Int)).bind fun x1013=>(if(x1013.Var:Int)=(q:Int)then(idx p.Tests (j:Int)).bind fun x1028=>(qPasses N x1028 s).bind fun r1041=>some (!r1041)else some false):Option Bool))) (·=(decide (p.Tests[j].Var=(q:Int))&&!pas p.Tests[j] s)):=by
       refine Tm.step (idx_n hj) ?_;by_cases e:p.Tests[j].Var=(q:Int)
       · refine Tm.pos e (Tm.step (idx_n hj) ((qPasses_tm (hp.ts _ (List.getElem_mem hj)).1 (by omega)).eq (Tm.some (by rw[decide_eq_true e];rfl))))
       · exact Tm.neg e (Tm.some (by rw[decide_eq_false e];rfl))
      refine key2.eq ?_;cases(decide (p.Tests[j].Var=(q:Int))&&!pas p.Tests[j] s)<;>exact Tm.some rfl
    · unfold rWord_b2;exact Tm.neg (by omega) (Tm.some rfl)
    · rw[Bool.true_and];cases p.Tests.all fun t=>!(decide (t.Var=(q:Int))&&!pas t s)<;>exact Tm.some rfl
 · unfold rWord_b1;exact Tm.neg (by omega) (Tm.some rfl)
 · cases cl.all (wB p s)<;>exact Tm.some rfl
def wl(W:List UInt8→Bool)(n:Nat):List (List UInt8):=(List.range n).flatMap fun j=>(fr j).filter W
theorem wl_succ{W:List UInt8→Bool}{n:Nat}:wl W (n+1)=wl W n++(fr n).filter W:=by
 unfold wl;rw[List.range_succ,List.flatMap_append];simp
theorem mem_wl{W:List UInt8→Bool}{n:Nat}{s:List UInt8}:s∈wl W n↔s.length<n∧s.all prn=true∧W s=true:=by
 unfold wl;simp only[List.mem_flatMap,List.mem_range,List.mem_filter,mem_fr];constructor
 · rintro⟨j,hj,⟨h1,h2⟩,h3⟩;exact⟨by omega,h2,h3⟩
 · rintro⟨h1,h2,h3⟩;exact⟨_,h1,⟨rfl,h2⟩,h3⟩
theorem wl_nodup{W:List UInt8→Bool}{n:Nat}:(wl W n).Nodup:=by
 unfold wl;refine nodup_flatMap List.nodup_range (fun a _=>(fr_nodup a).sublist List.filter_sublist) fun a b _ _ hab x hx hx'=>?_;have h1:=(mem_fr.1 (List.mem_filter.1 hx).1).1;have h2:=(mem_fr.1 (List.mem_filter.1 hx').1).1;omega
def ext1(x:List UInt8)(k:Nat):List (List UInt8):=(List.range k).map fun(c:Nat)=>x++[UInt8.ofNat (32+c)]
theorem ext1_succ{x:List UInt8}{k:Nat}:ext1 x (k+1)=ext1 x k++[x++[UInt8.ofNat (32+k)]]:=by
 unfold ext1;rw[List.range_succ,List.map_append];rfl
theorem ext1_len{x:List UInt8}{k:Nat}:(ext1 x k).length=k:=by simp[ext1]
theorem rWords_b3_tm{F nx:List (List UInt8)}{n i:Nat}(hi:i<F.length)(hF:F[i].length≤1000)(hn:nx.length≤100000):
 Tm (fun N=>loopM (rWords_b3 N F (n:Int) (i:Int)) N (nx,32)) (·=nx++if n<2 then ext1 F[i] 95 else[]):=by
 refine Tm.up 95 (fun k s=>s.2=((32+k:Nat):Int)∧s.1=nx++(if n<2 then ext1 F[i] k else[])∧(¬n<2→k=0)) ⟨rfl,by unfold ext1;split<;>simp,fun _=>rfl⟩ ?_;rintro k hk ⟨s,c⟩ ⟨hc,hs,h0⟩;dsimp only at hc hs;subst hc;unfold rWords_b3;dsimp only;by_cases hn2:n<2
 · rw[if_pos hn2]at hs;subst hs;rcases Nat.lt_or_ge k 95 with hlt|hge
   · rw[if_pos (by omega)];simp only[Option.bind_some];refine Tm.pos (decide_eq_true (by omega)) (Tm.step (idx_n hi) ?_);have eb:bstr [uw8 ((32+k:Nat):Int)]=[UInt8.ofNat (32+k)]:=by
      rw[uw8_eq (by omega) (by omega)];rfl
     rw[eb];refine Tm.step (chk_ok (by simp only[List.length_singleton];omega)) ?_;rw[apnd_ok (by rw[List.length_append,ext1_len,List.length_singleton];omega) (by decide)];refine Tm.some ⟨hlt,by dsimp only;rw[iw_eq]<;>omega,?_,fun h=>absurd hn2 h⟩;dsimp only;rw[if_pos hn2,ext1_succ,List.append_assoc]
   · rw[if_neg (by omega)];simp only[Option.bind_some];have:k=95:=by omega
     subst this;exact Tm.neg (by simp) (Tm.some (by show _=_;rw[if_pos hn2]))
 · rw[if_neg hn2]at hs;subst hs;have:k=0:=h0 hn2;subst this;rw[if_pos (by omega)];simp only[Option.bind_some];exact Tm.neg (by rw[decide_eq_false (by omega)];simp) (Tm.some (by show _=_;rw[if_neg hn2]))
theorem take_step{α:Type}{A:List α}{m:Nat}{x:α}:(if(A.take m).length<m then A.take m++[x]else A.take m)=(A++[x]).take m:=by
 by_cases h:(A.take m).length<m
 · rw[if_pos h];rw[List.length_take]at h;rw[List.take_of_length_le (l:=A) (by omega),List.take_of_length_le (by rw[List.length_append,List.length_singleton];omega)]
 · rw[if_neg h];rw[List.length_take]at h;rw[List.take_append_of_le_length (by omega)]
theorem rWords_b2_tm{cl:List Int}{m n:Nat}{W:List UInt8→Bool}(hm:m≤1000)(hn:n≤2)(hW:∀s∈fr n,Tm (fun N=>rWord N p cl s) (·=W s)):
 Tm (fun N=>loopM (rWords_b2 N (m:Int) p cl (fr n) (n:Int)) N ((wl W n).take m,([]:List (List UInt8)),false,0)) (·=((wl W (n+1)).take m,(if n<2 then fr (n+1)else[]),(fr n).any W)):=by
 have hfl:=fr_le hn;refine Tm.up (fr n).length (fun k s=>s.2.2.2=(k:Int)∧s.1=(wl W n++((fr n).take k).filter W).take m∧s.2.1=(if n<2 then((fr n).take k).flatMap fun x=>ext1 x 95 else[])∧s.2.2.1=((fr n).take k).any W) ⟨rfl,by simp,by split<;>rfl,rfl⟩ ?_;rintro k hk ⟨out,nx,so,i⟩ ⟨hi,h1,h2,h3⟩;dsimp only at hi h1 h2 h3;subst hi;unfold rWords_b2;dsimp only;rcases Nat.lt_or_ge k (fr n).length with hlt|hge
 · have hmem:=List.getElem_mem hlt;have hsl:=(mem_fr.1 hmem).1;have htk:=List.take_succ_eq_append_getElem hlt;refine Tm.pos (by omega) (Tm.step (idx_n hlt) ((hW _ hmem).eq ?_));refine Tm.bind (Q:=fun z=>z=((wl W n++((fr n).take (k+1)).filter W).take m,((fr n).take (k+1)).any W)) ?_ fun z hz=>?_
   · rw[htk,List.filter_append,List.any_append,←List.append_assoc];cases hw:W (fr n)[k]with
     |true=>
      rw[List.filter_cons_of_pos hw,List.filter_nil];refine Tm.pos rfl ?_;have ht:=take_step (A:=wl W n++((fr n).take k).filter W) (m:=m) (x:=(fr n)[k]);rw[←h1]at ht;rw[←ht];have hol:out.length≤m:=by rw[h1,List.length_take];omega
      by_cases hlm:out.length<m
      · rw[if_pos hlm];refine Tm.pos (by omega) (Tm.step (idx_n hlt) ?_);rw[apnd_ok (by rw[List.length_singleton];omega) (by decide)];exact Tm.some (by simp[hw])
      · rw[if_neg hlm];exact Tm.neg (by omega) (Tm.some (by simp[hw]))
     |false=>
      rw[List.filter_cons_of_neg (by rw[hw];simp),List.filter_nil,List.append_nil,←h1];exact Tm.neg (by simp) (Tm.some (by simp[hw,h3]))
   · subst hz;dsimp only;have hnl:nx.length≤95*k:=by
      rw[h2];by_cases hn2:n<2
      · rw[if_pos hn2];have:∀l:List (List UInt8),(l.flatMap fun x=>ext1 x 95).length=95*l.length:=by
         intro l
         induction l with
         |nil=>rfl
         |cons x l ih=>rw[List.flatMap_cons,List.length_append,ext1_len,ih,List.length_cons];omega
        rw[this,List.length_take];omega
      · rw[if_neg hn2];exact Nat.zero_le _
     have hnl2:nx.length≤100000:=by
      by_cases hn2:n<2
      · have:=fr_len;have:(fr n).length≤95:=by
         have hc:n=0∨n=1:=by omega
         rcases hc with rfl|rfl<;>omega
        omega
      · rw[h2,if_neg hn2];exact Nat.zero_le _
     refine(rWords_b3_tm hlt (by omega) hnl2).eq (Tm.some ⟨hlt,iw_n (by omega),rfl,?_,rfl⟩);rw[h2,htk];by_cases hn2:n<2
     · simp only[if_pos hn2,List.flatMap_append,List.flatMap_cons,List.flatMap_nil,List.append_nil]
     · simp only[if_neg hn2,List.append_nil]
 · have:k=(fr n).length:=by omega
   subst this;refine Tm.neg (by omega) (Tm.some ?_);rw[h1,h2,h3,List.take_length,wl_succ];rfl
def rl(W:List UInt8→Bool)(n:Nat):List Int:=((List.range n).filter fun j=>(fr j).any W).map fun(j:Nat)=>(j:Int)
theorem rl_succ{W:List UInt8→Bool}{n:Nat}:rl W (n+1)=rl W n++(if(fr n).any W=true then[(n:Int)]else[]):=by
 unfold rl;rw[List.range_succ,List.filter_append,List.map_append];cases h:(fr n).any W with
 |true=>simp[h]
 |false=>simp[h]
theorem rl_len{W:List UInt8→Bool}{n:Nat}:(rl W n).length≤n:=by
 unfold rl;rw[List.length_map];have:=List.length_filter_le (fun j=>(fr j).any W) (List.range n);simpa using this
theorem rWords_tm{cl:List Int}{m:Nat}{W:List UInt8→Bool}(hm:m≤1000)(hW:∀n,n≤2→∀s∈fr n,Tm (fun N=>rWord N p cl s) (·=W s)):
 Tm (fun N=>rWords N p cl (m:Int)) (·=((wl W 3).take m,rl W 3)):=by
 unfold rWords;refine Tm.bind (Q:=fun z=>z=((wl W 3).take m,rl W 3)) ?_ fun z hz=>by subst hz;exact Tm.some rfl
 refine Tm.up 3 (fun k s=>s.2.2.2=(k:Int)∧s.1=(wl W k).take m∧s.2.1=rl W k∧(k<3→s.2.2.1=fr k)) ⟨rfl,by simp[wl],rfl,fun _=>rfl⟩ ?_;rintro k hk ⟨out,ls,f,i⟩ ⟨hi,h1,h2,h3⟩;dsimp only at hi h1 h2 h3;subst hi;subst h1;subst h2;unfold rWords_b1;dsimp only;rcases Nat.lt_or_ge k 3 with hlt|hge
 · rw[h3 hlt];refine Tm.pos (by omega) ((rWords_b2_tm hm (by omega) (hW k (by omega))).eq ?_);dsimp only;have hrl:=rl_len (W:=W) (n:=k);have hf:k+1<3→(if k<2 then fr (k+1)else[])=fr (k+1):=fun h=>by rw[if_pos (by omega)]
   cases ha:(fr k).any W with
   |true=>
    refine Tm.pos rfl ?_;rw[apnd_ok (by rw[List.length_singleton];omega) (by decide)];exact Tm.some ⟨hlt,iw_n (by omega),rfl,by rw[rl_succ,ha];simp,hf⟩
   |false=>
    exact Tm.neg (by simp) (Tm.some ⟨hlt,iw_n (by omega),rfl,by rw[rl_succ,ha];simp,hf⟩)
 · have:k=3:=by omega
   subst this;exact Tm.neg (by omega) (Tm.some rfl)
end
open Go Go.X
section
variable {p:TProb} {L:List Int} {l:List TClass}
def Wk(p:TProb)(L:List Int)(k:Nat)(s:List UInt8):Bool:=(memb L k).all (wB p s)
theorem memb_mem(hL:Lb p L){k:Nat}{v:Int}:v∈memb L k↔∃q:Nat,v=(q:Int)∧q<p.Min.length∧cls L q=k:=by
 unfold memb;rw[fl_mem];constructor
 · rintro⟨q,h1,h2,h3⟩;exact⟨q,h1,by rw[←hL.len];exact h2,of_decide_eq_true h3⟩
 · rintro⟨q,h1,h2,h3⟩;exact⟨q,h1,by rw[hL.len];exact h2,decide_eq_true h3⟩
theorem Wk_iff(hp:OkP p)(hm:Lms p)(hL:Lb p L)(hF:Fx p L)(hG:Gat p L l){k:Nat}{c:TClass}(ec:l[k]?=some c){s:List UInt8}(hs:s.all prn=true):Wk p L k s=true↔s∈allw c:=by
 have hk:k<rk L L.length:=by rw[←hG.len];exact(List.getElem?_eq_some_iff.1 ec).1
 obtain⟨c',ec',hC⟩:=hG.ok k hk;rw[ec]at ec';have:c=c':=Option.some.inj ec';subst this;rw[mem_allw (hC.cok hp hm)];unfold Wk;rw[List.all_eq_true];have hw:∀q:Nat,wB p s (q:Int)=true↔(p.Min.getD q 0≤(s.length:Int)∧(s.length:Int)≤p.Max.getD q 0)∧∀t∈p.Tests,t.Var=(q:Int)→pas t s=true:=by
  intro q;unfold wB;rw[Bool.and_eq_true,decide_eq_true_eq,Int.toNat_natCast,List.all_eq_true];refine and_congr Iff.rfl ⟨fun h t ht e=>?_,fun h t ht=>?_⟩
  · have:=h t ht;rw[decide_eq_true e]at this;simpa using this
  · by_cases e:t.Var=(q:Int)
    · rw[h t ht e];simp
    · rw[decide_eq_false e];simp
 constructor
 · intro h;have hv:∀q,q<p.Min.length→cls L q=k→wB p s (q:Int)=true:=fun q hq e=>h _ ((memb_mem hL).2 ⟨q,rfl,hq,e⟩);obtain⟨v,hvl,ev⟩:=cls_surj hL hk;have hmx:=hp.mx (p.Max.getD v 0) (by rw[getD_n (by rw[hp.len];exact hvl)];exact List.getElem_mem _);have h0:=((hw v).1 (hv v hvl ev)).1;refine⟨?_,?_,hs,?_⟩
   · rcases hC.lo2 with g|⟨u,hu,eu,g⟩
     · omega
     · have:=((hw u).1 (hv u hu eu)).1;omega
   · rcases hC.hi2 with g|⟨u,hu,eu,g⟩
     · omega
     · have:=((hw u).1 (hv u hu eu)).1;omega
   · rw[hC.ts,List.take_length,List.all_eq_true];intro t ht;obtain⟨ht1,ht2⟩:=List.mem_filter.1 ht;have hvt:=(hp.ts t ht1).2;exact((hw t.Var.toNat).1 (hv _ (by omega) (of_decide_eq_true ht2))).2 t ht1 (by omega)
 · rintro⟨h1,h2,_,h4⟩ v hv;obtain⟨q,rfl,hq,eq⟩:=(memb_mem hL).1 hv;refine(hw q).2 ⟨⟨by have:=hC.lo1 q hq eq;omega,by have:=hC.hi1 q hq eq;omega⟩,fun t ht e=>?_⟩;refine List.all_eq_true.1 h4 t ?_;rw[hC.ts,List.take_length];exact List.mem_filter.2 ⟨ht,decide_eq_true (by rw[e,Int.toNat_natCast];exact eq)⟩
theorem classes_get{k:Nat}(hk:k<rk L L.length):(classesOf L)[k]?=some (memb L k):=by simp[classesOf,hk]
theorem memb_len(hL:Lb p L){k:Nat}:(memb L k).length≤p.Min.length:=by
 rw[←hL.len];exact fl_len
theorem rWords_k(hp:OkP p)(hm:Lms p)(hL:Lb p L){k m:Nat}(hmm:m≤1000):Tm (fun N=>rWords N p (memb L k) (m:Int)) (·=((wl (Wk p L k) 3).take m,rl (Wk p L k) 3)):=by
 have hle:=hp.le;refine rWords_tm hmm fun n hn s hs=>?_;have h1:=(mem_fr.1 hs).1;have h2:=memb_len hL (k:=k);exact rWord_tm hp hm (by omega) (by omega) fun v hv=>by
  obtain⟨q,e,hq,_⟩:=(memb_mem hL).1 hv;exact⟨q,e,hq⟩
def tx(p:TProb)(L:List Int)(ws:List (List UInt8)):List (List UInt8):=(List.range p.Min.length).map fun v=>ws.getD (cls L v) []
theorem tx_get{ws:List (List UInt8)}{v:Nat}(h:v<p.Min.length):(tx p L ws)[v]?=some (ws.getD (cls L v) []):=by simp[tx,h]
def Cpl(p:TProb)(L:List Int)(choices:List (List (List UInt8)))(chosen:List (List UInt8)):Prop:= ∃es,chosen.length+es.length=rk L L.length∧(∀i,i<es.length→∃cl w,choices[chosen.length+i]?=some cl∧es[i]?=some w∧w∈cl)∧sat p (tx p L (chosen++es))=true
theorem rTry_b1_tm(hp:OkP p)(hL:Lb p L)(hF:Fx p L){chosen:List (List UInt8)}(hc:chosen.length=rk L L.length):
 Tm (fun N=>loopM (rTry_b1 N chosen (classesOf L)) N (List.replicate p.Min.length [],0)) (·=tx p L chosen):=by
 have hle:=hp.le;have hmm:=rk_le' (L:=L);have hll:=hL.len;have hcl:(classesOf L).length=rk L L.length:=by simp[classesOf]
 refine Tm.up (rk L L.length) (fun k s=>s.2=(k:Int)∧s.1.length=p.Min.length∧∀v,v<p.Min.length→cls L v<k→s.1[v]?=some (chosen.getD (cls L v) [])) ⟨rfl,by simp,fun v _ h=>by omega⟩ ?_;rintro k hk ⟨s,i⟩ ⟨hi,h1,h2⟩;dsimp only at hi h1 h2;subst hi;unfold rTry_b1;dsimp only;rcases Nat.lt_or_ge k (rk L L.length)with hlt|hge
 · have eg:=classes_get hlt;refine Tm.pos (by omega) ?_;refine Tm.bind (Q:=fun r=>r.length=p.Min.length∧∀v,v<p.Min.length→cls L v<k+1→r[v]?=some (chosen.getD (cls L v) [])) ?_ fun r hr=>Tm.some ⟨hlt,iw_n (by omega),hr.1,hr.2⟩;have hml:=memb_len hL (k:=k);refine Tm.up (memb L k).length (fun j s=>s.2=(j:Int)∧s.1.length=p.Min.length∧∀v,v<p.Min.length→(cls L v<k∨(v:Int)∈(memb L k).take j)→s.1[v]?=some (chosen.getD (cls L v) [])) ⟨rfl,h1,fun v hv h=>h2 v hv (h.resolve_right (by simp))⟩ ?_;rintro j hj ⟨s,i⟩ ⟨hi,h1,h2⟩;dsimp only at hi h1 h2;subst hi;unfold rTry_b2;dsimp only;refine Tm.step (idx_get eg) ?_;rcases Nat.lt_or_ge j (memb L k).length with hjl|hjg
   · obtain⟨q,eq,hq,hqk⟩:=(memb_mem hL).1 (List.getElem_mem hjl);refine Tm.pos (by omega) (Tm.step (idx_get eg) (Tm.step (idx_n hjl) (Tm.step (idx_n (by omega)) ?_)));rw[eq];refine Tm.step (idx_n (by omega)) ?_;rw[upd1_i (n:=q) rfl (by omega)];refine Tm.some ⟨hjl,iw_n (by omega),by rw[List.length_set];exact h1,fun v hv h=>?_⟩;show(s.set q _)[v]?=_;rw[set_get (by omega)];by_cases e:q=v
     · subst e;rw[if_pos rfl,hqk,getD_n (by omega)]
     · rw[if_neg e];refine h2 v hv (h.imp id fun h=>?_);rw[List.take_succ_eq_append_getElem hjl,List.mem_append,List.mem_singleton,eq]at h;exact h.resolve_right (by omega)
   · refine Tm.neg (by omega) (Tm.some ⟨h1,fun v hv h=>h2 v hv ?_⟩);by_cases e:cls L v<k
     · exact .inl e
     · refine .inr ?_;rw[List.take_of_length_le hjg];exact(memb_mem hL).2 ⟨v,rfl,hv,by omega⟩
 · refine Tm.neg (by omega) (Tm.some ?_);show s=_;apply List.ext_getElem?;intro v;by_cases hv:v<p.Min.length
   · rw[tx_get hv,h2 v hv (by have:=cls_lt hL hF hv;omega)]
   · rw[List.getElem?_eq_none (by omega),List.getElem?_eq_none (by simp[tx];omega)]
theorem rTry_tm(hp:OkP p)(hl:Lim p)(hL:Lb p L)(hF:Fx p L){choices:List (List (List UInt8))}(hch:choices.length=rk L L.length)(hcl:∀cl∈choices,cl.length≤1000∧∀w∈cl,w.length≤1000):
 ∀(j:Nat) (chosen:List (List UInt8)),chosen.length+j=rk L L.length→(∀w∈chosen,w.length≤1000)→Tm (fun N=>rTry N p (classesOf L) choices chosen) (fun r=>r=true↔Cpl p L choices chosen):=by
 have hb:Bg=9223372036854775807:=rfl;have hle:=hp.le;have hmm:=rk_le' (L:=L);have hll:=hL.len;have hcll:(classesOf L).length=rk L L.length:=by simp[classesOf]
 intro j
 induction j with
 |zero=>
  intro chosen hc hw;refine Tm.succ (f:=fun N=>rTry N p (classesOf L) choices chosen) ?_;show Tm (fun N=>rTry_step N (rTry N) p (classesOf L) choices chosen) _;unfold rTry_step;refine Tm.pos (by omega) ?_;rw[mk1_ok (n:=p.Min.length) (by rw[hp.len]) (by omega) (by decide)];simp only[Option.bind_some];refine(rTry_b1_tm hp hL hF (by omega)).eq ?_;have hx:Lx (tx p L chosen):=by
   refine⟨by simp[tx];omega,fun s hs=>?_⟩;unfold tx at hs;obtain⟨v,hv,rfl⟩:=List.mem_map.1 hs;have:=cls_lt hL hF (List.mem_range.1 hv);rw[getD_n (by omega)];have:=hw _ (List.getElem_mem (show cls L v<chosen.length by omega));omega
  refine(rSatisfies_tm hp hl hx).eq (Tm.some ?_);constructor
  · intro h;exact⟨[],by simpa using hc,fun i hi=>by simp at hi,by rw[List.append_nil];exact h⟩
  · rintro⟨es,h1,_,h3⟩;have:es=[]:=List.eq_nil_of_length_eq_zero (by omega);subst this;rw[List.append_nil]at h3;exact h3
 |succ j ih=>
  intro chosen hc hw;refine Tm.succ (f:=fun N=>rTry N p (classesOf L) choices chosen) ?_;show Tm (fun N=>rTry_step N (rTry N) p (classesOf L) choices chosen) _;unfold rTry_step;have hcl0:chosen.length<choices.length:=by omega
  obtain⟨hc1,hc2⟩:=hcl _ (List.getElem_mem hcl0);refine Tm.neg (by omega) (Tm.step (idx_n hcl0) ?_);obtain⟨g,hg⟩:∃g:List UInt8→Bool,∀w,g w=true↔Cpl p L choices (chosen++[w]):=by
   refine⟨fun w=>@decide _ (Classical.propDecidable (Cpl p L choices (chosen++[w]))),fun w=>?_⟩;exact@decide_eq_true_iff _ (Classical.propDecidable _)
  refine(Tm.findL (b:=fun N=>rTry_b3 N (rTry N) choices chosen (classesOf L) p choices[chosen.length]) choices[chosen.length] g (fun _=>true) (by omega) (fun k hk=>?_) ?_).bind fun o ho=>?_
  · unfold rTry_b3;refine Tm.pos (by omega) ?_;rw[apnd_ok (by simp;omega) (by decide)];simp only[Option.bind_some,List.nil_append];refine Tm.step (idx_n hk) ?_;rw[apnd_ok (by rw[List.length_singleton];omega) (by decide)];simp only[Option.bind_some];refine(ih (chosen++[choices[chosen.length][k]]) (by rw[List.length_append,List.length_singleton];omega) fun w hw'=>?_).bind fun r hr=>?_
    · rcases List.mem_append.1 hw' with h|h
      · exact hw w h
      · rw[List.mem_singleton.1 h];exact hc2 _ (List.getElem_mem hk)
    · have:r=g choices[chosen.length][k]:=by
       rw[Bool.eq_iff_iff,hr,hg]
      subst this;cases g choices[chosen.length][k]<;>exact Tm.some rfl
  · unfold rTry_b3;exact Tm.neg (by omega) (Tm.some rfl)
  · have hstep:Cpl p L choices chosen↔∃w∈choices[chosen.length],Cpl p L choices (chosen++[w]):=by
     constructor
     · rintro⟨es,h1,h2,h3⟩;cases es with
       |nil=>simp at h1;omega
       |cons w es=>
        obtain⟨cl,w',e1,e2,e3⟩:=h2 0 (by simp);rw[Nat.add_zero,List.getElem?_eq_getElem hcl0]at e1;rw[List.getElem?_cons_zero]at e2;have e1:=Option.some.inj e1;have e2:=Option.some.inj e2;subst e1;subst e2;refine⟨w,e3,es,by simp at h1⊢;omega,fun i hi=>?_,by rw[List.append_assoc];exact h3⟩;obtain⟨cl,w',e1,e2,e3⟩:=h2 (i+1) (by simp;omega);rw[List.getElem?_cons_succ]at e2;refine⟨cl,w',?_,e2,e3⟩;rw[List.length_append,List.length_singleton,Nat.add_assoc,Nat.add_comm 1 i];exact e1
     · rintro⟨w,hwm,es,h1,h2,h3⟩;refine⟨w::es,by simp at h1⊢;omega,fun i hi=>?_,by rw[List.append_assoc]at h3;exact h3⟩;cases i with
       |zero=>exact⟨_,w,by rw[Nat.add_zero];exact List.getElem?_eq_getElem hcl0,rfl,hwm⟩
       |succ i=>
        obtain⟨cl,w',e1,e2,e3⟩:=h2 i (by simp at hi;omega);refine⟨cl,w',?_,by rw[List.getElem?_cons_succ];exact e2,e3⟩;rw[List.length_append,List.length_singleton,Nat.add_assoc,Nat.add_comm 1 i]at e1;exact e1
    rcases ho with⟨h1,rfl⟩|⟨k,hk,h1,_,rfl⟩
    · refine Tm.some ⟨fun h=>by simp at h,fun h=>?_⟩;obtain⟨w,hw',h2⟩:=hstep.1 h;have:=List.any_eq_false.1 h1 w hw';exact absurd ((hg w).2 h2) this
    · exact Tm.some ⟨fun _=>hstep.2 ⟨_,List.getElem_mem hk,(hg _).1 h1⟩,fun _=>rfl⟩
theorem rSolvable_tm(hp:OkP p)(hl:Lim p)(hm:Lms p)(h2:∀k∈p.Max,k≤2):Tm (fun N=>rSolvable N p) (fun r=>r=true↔∃x,sat p x=true):=by
 have hb:Bg=9223372036854775807:=rfl;have hle:=hp.le;obtain⟨L,hL,hF⟩:=lab_ex hp hm.d;have hmm:=rk_le' (L:=L);have hll:=hL.len;have hcll:(classesOf L).length=rk L L.length:=by simp[classesOf]
 unfold rSolvable;refine(rClasses_tm hL hF hp hm.d).eq ?_
 let ch:=(List.range (rk L L.length)).map fun k=>(wl (Wk p L k) 3).take (rk L L.length)
 refine Tm.bind (Q:=fun r=>r=(List.range (rk L L.length)).map fun k=>(wl (Wk p L k) 3).take (rk L L.length)) ?_ fun r hr=>?_
 · refine Tm.up (rk L L.length) (fun k s=>s.2=(k:Int)∧s.1=(List.range k).map fun k=>(wl (Wk p L k) 3).take (rk L L.length)) ⟨rfl,rfl⟩ ?_;rintro k hk ⟨s,i⟩ ⟨hi,hs⟩;dsimp only at hi hs;subst hi;subst hs;unfold rSolvable_b1;dsimp only;rcases Nat.lt_or_ge k (rk L L.length)with hlt|hge
   · refine Tm.pos (by omega) (Tm.step (idx_get (classes_get hlt)) ?_);rw[hcll];refine(rWords_k hp hm hL (by omega)).eq ?_;rw[apnd_ok (by simp;omega) (by decide)];refine Tm.some ⟨hlt,iw_n (by omega),?_⟩;rw[List.range_succ,List.map_append];rfl
   · have:k=rk L L.length:=by omega
     subst this;exact Tm.neg (by omega) (Tm.some rfl)
 · have hget:∀k,k<rk L L.length→r[k]?=some ((wl (Wk p L k) 3).take (rk L L.length)):=by
    intro k hk;rw[hr];simp[hk]
   have hrl:r.length=rk L L.length:=by rw[hr];simp
   refine(rTry_tm hp hl hL hF hrl (fun cl hcl=>?_) (rk L L.length) [] (by simp) (fun w hw=>by cases hw)).bind fun b hb=>Tm.some ?_
   · rw[hr]at hcl;obtain⟨k,hk,rfl⟩:=List.mem_map.1 hcl;refine⟨by rw[List.length_take];omega,fun w hw=>?_⟩;have:=(mem_wl.1 (List.mem_of_mem_take hw)).1;omega
   · rw[hb];constructor
     · rintro⟨es,_,_,h⟩;exact⟨_,h⟩
     · rintro⟨x,hx⟩;obtain⟨N,r6,_,L',hL',hF',e1,hG,_⟩:=(tgathered_tm hp hm).get;have:L'=L:=hL'.uniq hL hF' hF;subst this;obtain⟨f,hW,_⟩:=sat_split hp hm hL hF hG hx;have hlen:=hG.len;have hDR:∀k q,Df p L' p.Different.length k q→k<rk L' L'.length∧q<rk L' L'.length∧k≠q:=by
        rintro k q ⟨e,he,g⟩;rw[List.take_length]at he;have hve:=hp.df e he;have g0:=cls_lt hL hF (show e.e0.toNat<p.Min.length by omega);have g1:=cls_lt hL hF (show e.e1.toNat<p.Min.length by omega);have hne:cls L' e.e0.toNat≠cls L' e.e1.toNat:=fun h=>hW.df e he (by rw[h]);rcases g with⟨rfl,rfl⟩|⟨rfl,rfl⟩
        · exact⟨g0,g1,hne⟩
        · exact⟨g1,g0,fun h=>hne h.symm⟩
       have hlc:∀k (hk:k<rk L' L'.length),r6.1[k]?=some (r6.1[k]'(by omega)):=fun k hk=>List.getElem?_eq_getElem (by omega);obtain⟨g,hg1,hg2⟩:=trunc (m:=rk L' L'.length) (D:=fun k=>wl (Wk p L' k) 3) (nb:=fun k=>(List.range (rk L' L'.length)).filter fun q=>decide (q≠k)) (t:=fun _=>rk L' L'.length) (R:=fun x y=>Df p L' p.Different.length x y)
        (fun k=>wl_nodup)
        (fun k hk=>by
         have:=filter_lt (P:=fun q=>decide (q≠k)) (Q:=fun _=>true) (l:=List.range (rk L' L'.length)) (fun _ _ _=>rfl) ⟨k,List.mem_range.2 hk,rfl,by simp⟩;rw[List.filter_eq_self.2 fun _ _=>rfl,List.length_range]at this;exact this)
        (fun x y hxy=>by
         obtain⟨h1,h2,h3⟩:=hDR x y hxy;exact⟨List.mem_filter.2 ⟨List.mem_range.2 h2,decide_eq_true fun e=>h3 e.symm⟩,hxy.symm,h3⟩)
        (f:=f)
        (fun k hk=>by
         have ha:=hW.mem k _ (hlc k hk);obtain⟨c',ec',hC⟩:=hG.ok k hk;rw[hlc k hk]at ec';have hc':=Option.some.inj ec';rw[hc']at ha;have hs':=(mem_allw (hC.cok hp hm)).1 ha;obtain⟨v,hvl,ev⟩:=cls_surj hL hk;have hmx:=h2 (p.Max.getD v 0) (by rw[getD_n (by rw[hp.len];exact hvl)];exact List.getElem_mem _);have hh:=hC.hi1 v hvl ev;refine mem_wl.2 ⟨by omega,hs'.2.2.1,(Wk_iff hp hm hL hF hG (c:=c') (by rw[hlc k hk,hc']) hs'.2.2.1).2 ha⟩)
        (fun x y hxy=>by
         obtain⟨e,he,h⟩:=hxy;rw[List.take_length]at he;have:=hW.df e he;rcases h with⟨h1,h2⟩|⟨h1,h2⟩
         · rw[←h1,←h2];exact this
         · rw[←h1,←h2];exact fun e=>this e.symm)
       refine⟨(List.range (rk L' L'.length)).map g,by simp,fun i hi=>?_,?_⟩
       · have hi:i<rk L' L'.length:=by simpa using hi
         refine⟨_,g i,by simpa using hget i hi,by simp[hi],hg1 i hi⟩
       · rw[List.nil_append];refine sat_join hp hm hL hF hG (f:=g) ⟨fun k c ec=>?_,fun e he=>?_⟩ (by simp[tx]) fun v hv=>?_
         · have hk:k<rk L' L'.length:=by rw[←hlen];exact(List.getElem?_eq_some_iff.1 ec).1
           have hm1:=mem_wl.1 (List.mem_of_mem_take (hg1 k hk));exact(Wk_iff hp hm hL hF hG ec hm1.2.1).1 hm1.2.2
         · exact hg2 _ _ ⟨e,by rw[List.take_length];exact he,.inl ⟨rfl,rfl⟩⟩
         · rw[tx_get hv,List.getD_eq_getElem?_getD];have:=cls_lt hL hF hv;simp[this]
end
open Go Go.X
section
variable {l:List RVar} {c:RClause} {rg rg':List Arr2Int} {r:Refut}
theorem whas_tm{s:List Int}{x:Int}(hn:s.length≤Bg):Tm (fun N=>whas N s x) (·=decide (x∈s)):=by
 have hb:Bg=9223372036854775807:=rfl;unfold whas;refine(Tm.findL (b:=fun N=>whas_b1 N s x) s (fun y=>decide (y=x)) (fun _=>true) (by omega) (fun k hk=>?_) ?_).bind fun o ho=>?_
 · unfold whas_b1;refine Tm.pos (by omega) (Tm.step (idx_n hk) ?_);by_cases e:s[k]=x
   · exact Tm.pos e (Tm.some (by rw[if_pos (decide_eq_true e)]))
   · exact Tm.neg e (Tm.some (by rw[if_neg (by simpa using e)]))
 · unfold whas_b1;exact Tm.neg (by omega) (Tm.some rfl)
 · rcases ho with⟨h,rfl⟩|⟨k,hk,h,_,rfl⟩
   · refine Tm.some (decide_eq_false fun hm=>?_).symm;have:=List.any_eq_false.1 h x hm;simp at this
   · refine Tm.some (decide_eq_true ?_).symm;rw[←of_decide_eq_true h];exact List.getElem_mem hk
theorem wShort_tm(h:l.length≤1048576):Tm (fun N=>wShort N l c) (fun b=>b=true→∀x∈l,x.Ty=2→x.Max≤2):=by
 unfold wShort;refine Tm.bind (Q:=fun o=>match o with|.inl _=>∀x∈l,x.Ty=2→x.Max≤2|.inr z=>z=false) ?_ fun o ho=>?_
 · refine Tm.up l.length (fun k s=>s.2=(k:Int)∧∀j (hj:j<l.length),j<k→l[j].Ty=2→l[j].Max≤2) ⟨rfl,fun j _ hj=>by omega⟩ ?_;rintro k hk ⟨n,i⟩ ⟨hi,hJ⟩;dsimp only at hi hJ;subst hi;unfold wShort_b1;dsimp only;rcases Nat.lt_or_ge k l.length with hlt|hge
   · refine Tm.pos (by omega) (Tm.step (idx_n hlt) ?_);by_cases h2:l[k].Ty=2
     · refine Tm.pos h2 (Tm.step (idx_n hlt) ?_);by_cases h3:l[k].Max>2
       · exact Tm.pos h3 (Tm.some rfl)
       · refine Tm.neg h3 (Tm.some ⟨hlt,iw_n (by omega),fun j hj hjk=>?_⟩);by_cases e:j=k
         · subst e;intro _;omega
         · exact hJ j hj (by omega)
     · refine Tm.neg h2 (Tm.some ⟨hlt,iw_n (by omega),fun j hj hjk=>?_⟩);by_cases e:j=k
       · subst e;intro g;exact absurd g h2
       · exact hJ j hj (by omega)
   · refine Tm.neg (by omega) (Tm.some ?_);intro x hx;obtain⟨j,hj,rfl⟩:=List.getElem_of_mem hx;exact hJ j hj (by omega)
 · cases o with
   |inl n=>exact Tm.ite (fun _=>Tm.some fun _=>ho) (fun _=>Tm.some fun e=>by cases e)
   |inr z=>exact Tm.some fun e=>by rw[show z=false from ho]at e;cases e
theorem wcheck0(hk:r.Kind=0)(hv:ClOk c l)(hl:l.length≤10):Tm (fun N=>wCheck N l c r rg) (·=nul c l r.Var):=by
 have hb:Bg=9223372036854775807:=rfl;have n1:=hv.nl.len;have n2:=hv.nn.len;refine Tm.succ ?_;show Tm (fun N=>wCheck_step N (wCheck N) l c r rg) _;unfold wCheck_step nul;refine Tm.pos hk ((whas_tm (by omega)).eq ?_);by_cases h1:r.Var∈c.Null
 · rw[decide_eq_true h1];refine Tm.pos rfl ((whas_tm (by omega)).eq ?_);by_cases h2:r.Var∈c.NotNull
   · rw[decide_eq_true h2];exact Tm.pos rfl (Tm.some rfl)
   · rw[decide_eq_false h2];obtain⟨k,e,hk⟩:=var_n (hv.nl.bd _ h1);refine Tm.neg (by simp) ?_;rw[e];refine Tm.step (idx_n hk) (Tm.some ?_);unfold nulB;rw[Int.toNat_natCast,List.getElem?_eq_getElem hk];rfl
 · rw[decide_eq_false h1];exact Tm.neg (by simp) (Tm.some rfl)
theorem wcheck1(hk:r.Kind=1)(hd:DmOk l)(hv:ClOk c l)(hs:SmC c)(hr:RgOk l rg)(h2:∀x∈l,x.Ty=2→x.Max≤2):Tm (fun N=>wCheck N l c r rg) (fun b=>b=true↔∀x,sat (txtsOf l c rg) x=false):=by
 refine Tm.succ ?_;show Tm (fun N=>wCheck_step N (wCheck N) l c r rg) _;unfold wCheck_step;obtain⟨g1,g2,g3⟩:=txts_lms (rg:=rg) hd hv hs;have hmx:∀k∈(txtsOf l c rg).Max,k≤2:=by
  intro k hk;obtain⟨v,hvm,rfl⟩:=List.mem_map.1 (show k∈(tvs l c).map fun v=>hiOf l rg v.toNat from hk);obtain⟨q,hq,eq,e2,_⟩:=tvs_at hv hvm;rw[eq,Int.toNat_natCast,hiOf_at hr hq];have:=h2 _ (List.getElem_mem hq) e2;rcases imin_or (rg[q]'(by rw[hr.len];exact hq)).e1 l[q].Max with⟨u1,u2⟩|⟨u1,u2⟩<;>omega
 refine Tm.neg (by omega) (Tm.pos hk ((wTexts_tm hv hs hr hd.len).eq ((rSolvable_tm (txts_okP hd hv hr) (txts_lim hd hv hs) g1 hmx).bind fun z hz=>Tm.some ?_)));cases z with
 |true=>
  obtain⟨x,hx⟩:=hz.1 rfl;exact⟨fun h=>by simp at h,fun h=>by have:=h x;rw[hx]at this;cases this⟩
 |false=>
  refine⟨fun _ x=>?_,fun _=>rfl⟩;cases e:sat (txtsOf l c rg) x with
  |false=>rfl
  |true=>have:=hz.2 ⟨x,e⟩;cases this
theorem wcheckX(h0:r.Kind≠0)(h1:r.Kind≠1)(h2:r.Kind≠2)(h3:r.Kind≠3):Tm (fun N=>wCheck N l c r rg) (·=false):=by
 refine Tm.succ ?_;show Tm (fun N=>wCheck_step N (wCheck N) l c r rg) _;unfold wCheck_step;exact Tm.neg h0 (Tm.neg h1 (Tm.neg h2 (Tm.neg h3 (Tm.some rfl))))
theorem both2(hk:r.Kind=2)(hS:Sm 40 r.Proof)(hC:r.Proof.Children.length≤9223372036854775807)(hd:DmOk l)(hv:ClOk c l)(hs:SmC c)(hr:RgOk l rg)
 (hok:∀k∈intsOf l c rg,OkC k):∃b,Tm (fun N=>vcheck N l c r rg) (·=b)∧Tm (fun N=>wCheck N l c r rg) (·=b):=by
 have hl:=hd.len;have hil:=intsOf_len (rg:=rg) hv hs hl;have hax:=hs.ax;obtain⟨sys,K0,hsys,hK0⟩:=cSystem_tm (n:=((l.length+c.Auxiliary.length:Nat):Int)) hok hil;have hR:Tm (fun N=>rSystem N (intsOf l c rg) ((l.length+c.Auxiliary.length:Nat):Int)) (·=sys):=(rSystem_tm hok hil).mono fun s hs'=>hs'.uniq hsys;have hq:=hsys.ok hok;obtain⟨v,hc,hw,_⟩:=check_tm 40 r.Proof 512 sys hS (by decide) (by decide) (by omega) hC hq.2;refine⟨v,?_,?_⟩
 · refine Tm.succ ?_;show Tm (fun N=>vcheck_step N (vcheck N) l c r rg) _;unfold vcheck_step;refine Tm.neg (by omega) (Tm.neg (by omega) (Tm.pos hk ((vInts_tm hv hs hr hl).eq ?_)));exact Tm.eq (a:=sys) ⟨sys,K0,rfl,hK0⟩ (hc.eq (Tm.some rfl))
 · refine Tm.succ ?_;show Tm (fun N=>wCheck_step N (wCheck N) l c r rg) _;unfold wCheck_step;refine Tm.neg (by omega) (Tm.neg (by omega) (Tm.pos hk ((wInts_tm hv hs hr hl).eq ?_)));have e:iw ((List.length l:Int)+(List.length c.Auxiliary:Int))=((l.length+c.Auxiliary.length:Nat):Int):=by rw[iw_eq]<;>omega
   rw[e];exact hR.eq (hw.eq (Tm.some rfl))
theorem wcheck3(hk:r.Kind=3){k:Nat}(hkl:k<l.length)(ev:r.Var=(k:Int))(hm:r.Var∈c.NotNull)(h2:l[k].Ty=2)(hv:ClOk c l)(hd:DmOk l)(hr:RgOk l rg)(ha0:(rg.getD k (Arr2Int.mk 0 0)).e0≤r.At)(ha1:r.At<(rg.getD k (Arr2Int.mk 0 0)).e1)
 {p q:Refut}(hc:r.Children=[p,q]){b1 b2:Bool}(hp:Tm (fun N=>wCheck N l c p (shortR rg k r.At)) (·=b1))(hq:Tm (fun N=>wCheck N l c q (longR rg k r.At)) (·=b2)):Tm (fun N=>wCheck N l c r rg) (·=(b1&&b2)):=by
 have hb:Bg=9223372036854775807:=rfl;have n2:=hv.nn.len;have hl:=hd.len;have hrl:=hr.len;have hkr:k<rg.length:=by omega
 have hbd:=hr.bd _ (List.getElem_mem hkr);rw[getD_n hkr]at ha0 ha1;refine Tm.succ ?_;show Tm (fun N=>wCheck_step N (wCheck N) l c r rg) _;unfold wCheck_step;refine Tm.neg (by omega) (Tm.neg (by omega) (Tm.neg (by omega) (Tm.pos hk ?_)));refine Tm.bind (Q:=(·=false)) ?_ fun b hb'=>?_
 · refine(whas_tm (by omega)).eq ?_;rw[decide_eq_true hm];refine Tm.neg (by simp) ?_;rw[ev];refine Tm.step (idx_n hkl) (Tm.neg (by simp[h2]) (Tm.step (idx_n hkr) (Tm.neg (by omega) (Tm.step (idx_n hkr) (Tm.neg (by omega) (Tm.some ?_))))));rw[hc];rfl
 · subst hb';refine Tm.neg (by simp) ?_;rw[apnd_ok (by simp only[List.length_nil];omega) (by decide)];simp only[Option.bind_some,List.nil_append];have e1:iw (r.At+1)=r.At+1:=by rw[iw_eq]<;>omega
   rw[ev,e1];refine Tm.step (idx_n hkr) ?_;rw[upd1_i (n:=k) rfl hkr];simp only[Option.bind_some];refine Tm.step (idx_n hkr) ?_;rw[upd1_i (n:=k) rfl hkr];simp only[Option.bind_some];unfold shortR at hp;unfold longR at hq;rw[getD_n hkr]at hp hq;rw[hc];refine Tm.step (a:=p) rfl (hp.eq ?_);cases b1 with
   |false=>exact Tm.neg (by simp) (Tm.some rfl)
   |true=>exact Tm.pos rfl (Tm.step (a:=q) rfl (hq.eq (Tm.some rfl)))
theorem both3F(hk:r.Kind=3)(hv:ClOk c l)(hd:DmOk l)(hr:RgOk l rg):(Tm (fun N=>vcheck N l c r rg) (·=false)∧Tm (fun N=>wCheck N l c r rg) (·=false))∨∃(k:Nat) (hkl:k<l.length) (p q:Refut),r.Var=(k:Int)∧r.Var∈c.NotNull∧l[k].Ty=2∧(rg.getD k (Arr2Int.mk 0 0)).e0≤r.At∧r.At<(rg.getD k (Arr2Int.mk 0 0)).e1∧r.Children=[p,q]:=by
 have hb:Bg=9223372036854775807:=rfl;have n2:=hv.nn.len;have hl:=hd.len;have hrl:=hr.len;rcases vcheck3F (r:=r) hk hv hd hr with h|h
 · by_cases hx:∃(k:Nat) (hkl:k<l.length) (p q:Refut),r.Var=(k:Int)∧r.Var∈c.NotNull∧l[k].Ty=2∧(rg.getD k (Arr2Int.mk 0 0)).e0≤r.At∧r.At<(rg.getD k (Arr2Int.mk 0 0)).e1∧r.Children=[p,q]
   · exact .inr hx
   · refine .inl ⟨h,?_⟩;refine Tm.succ ?_;show Tm (fun N=>wCheck_step N (wCheck N) l c r rg) _;unfold wCheck_step;refine Tm.neg (by omega) (Tm.neg (by omega) (Tm.neg (by omega) (Tm.pos hk (Tm.eq (a:=true) ((whas_tm (by omega)).eq ?_) (Tm.pos rfl (Tm.some rfl))))));by_cases hm:r.Var∈c.NotNull
     · obtain⟨k,ek,hkl⟩:=var_n (hv.nn.bd _ hm);have hkr:k<rg.length:=by omega
       rw[decide_eq_true hm,ek];refine Tm.neg (by simp) (Tm.step (idx_n hkl) ?_);by_cases h2:l[k].Ty=2
       · refine Tm.neg (by simp[h2]) (Tm.step (idx_n hkr) ?_);by_cases h3:r.At<rg[k].e0
         · exact Tm.pos h3 (Tm.some rfl)
         · refine Tm.neg h3 (Tm.step (idx_n hkr) ?_);by_cases h4:r.At≥rg[k].e1
           · exact Tm.pos h4 (Tm.some rfl)
           · refine Tm.neg h4 (Tm.some (decide_eq_true fun h5=>hx ?_))
             match hc:r.Children,h5 with
             |[p,q],_=>exact⟨k,hkl,p,q,ek,hm,h2,by rw[getD_n hkr];omega,by rw[getD_n hkr];omega,rfl⟩
       · exact Tm.pos h2 (Tm.some rfl)
     · rw[decide_eq_false hm];exact Tm.pos rfl (Tm.some rfl)
 · exact .inr h
theorem both_tm(hd:DmOk l)(hv:ClOk c l)(hs:SmC c)(h2:∀x∈l,x.Ty=2→x.Max≤2)
 (hok:∀rg,RgOk l rg→∀k∈intsOf l c rg,OkC k){F:Refut}(hF:SmR F):∀rg,RgOk l rg→∃b,Tm (fun N=>vcheck N l c F rg) (·=b)∧Tm (fun N=>wCheck N l c F rg) (·=b):=by
 induction hF with
 |@mk r h1 h2' h3 ih=>
  intro rg hr;by_cases k0:r.Kind=0
  · exact⟨_,vcheck0 k0 hv hd.len,wcheck0 k0 hv hd.len⟩
  · by_cases k1:r.Kind=1
    · obtain⟨b,K,hb',hK⟩:=vcheck1 (rg:=rg) k1 hd hv hs hr;refine⟨b,⟨b,K,rfl,hK⟩,(wcheck1 k1 hd hv hs hr h2).mono fun b' hw=>?_⟩;rw[Bool.eq_iff_iff];exact hw.trans hb'.symm
    · by_cases k2:r.Kind=2
      · exact both2 k2 h1 h2' hd hv hs hr (hok rg hr)
      · by_cases k3:r.Kind=3
        · rcases both3F k3 hv hd hr with h|⟨k,hkl,p,q,ek,hm,t2,a0,a1,hch⟩
          · exact⟨_,h.1,h.2⟩
          · have hkr:k<rg.length:=by rw[hr.len];exact hkl
            have hbd:=hr.bd _ (List.getElem_mem hkr);have a0':=a0;have a1':=a1;rw[getD_n hkr]at a0' a1';have hsA:=shortR_ok (k:=k) (a:=r.At) hr (by omega);have hsB:=longR_ok (k:=k) (a:=r.At) hr (by omega);obtain⟨b1,t1,f1⟩:=ih p (by rw[hch];simp) _ hsA;obtain⟨b2,t2',f2⟩:=ih q (by rw[hch];simp) _ hsB;exact⟨_,vcheck3 k3 hkl ek hm t2 hv hd hr a0 a1 hch t1 t2',wcheck3 k3 hkl ek hm t2 hv hd hr a0 a1 hch f1 f2⟩
        · exact⟨_,vcheckX k0 k1 k2 k3,wcheckX k0 k1 k2 k3⟩
theorem lawCheck_tm(hl:l.length≤1048576)(h:LimX (RCase.mk l c (rg0 l) []))(hF:InRr r)(hb:bkR r≤1048576):Tm (fun N=>lawCheck N l c r) (·=true):=by
 unfold lawCheck;refine(wRanges_tm hl).eq ?_;refine Tm.bind (Q:=fun b=>b=false→∃b,Tm (fun N=>vcheck N l c r (rg0 l)) (·=b)∧Tm (fun N=>wCheck N l c r (rg0 l)) (·=b)) ?_ fun b hb'=>?_
 · refine awake_tm.bind fun r1 h1=>?_;subst h1;refine Tm.neg (by simp) ((wShort_tm hl).bind fun r2 h2=>?_);cases r2 with
   |false=>exact Tm.pos rfl (Tm.some fun e=>by cases e)
   |true=>
    refine Tm.neg (by simp) ((lright_tm h).bind fun r3 hr=>?_);cases r3 with
    |false=>exact Tm.pos rfl (Tm.some fun e=>by cases e)
    |true=>
     have hx:=hr rfl;refine Tm.neg (by simp) ((wSmall_tm hF hb).bind fun r0 hr0=>Tm.some fun e=>?_);have hS:=hr0 (by simpa using e);exact both_tm hx.d hx.v hx.s (h2 rfl) (fun rg hrg k hk=>intsOf_okC hx.d hx.v hx.s hrg k hk) hS (rg0 l) hx.r
 · cases b with
   |true=>exact Tm.pos rfl (awake_end rfl)
   |false=>
    obtain⟨v,h1,h2⟩:=hb' rfl;refine Tm.neg (by simp) (Tm.eq (a:=v) ?_ (h2.eq (Tm.some (by simp))));unfold vCheck;exact(vfirst_tm hl).eq (h1.eq (Tm.some rfl))
end
end Go.D
set_option maxRecDepth 100000
namespace Go.Proofs.YtcakdidcpoolcaaGreatDoor.Q25
open Go Go.ChangeShapes Go.WideShapes Go.ChangeAt Go.RowKit Go.X Go.D
section
variable {H:Type} {enc:TypeId×Value→H} {W:World}
def G3(x:Int):Prop:=(Lit.int .i64 x).wf=true
theorem o3:∀N,Opn enc Tryz.prog W N (rInt .i64) 3 G3:=fun N=>Opn.int Tryz.underlying3
def G2(x:Int):Prop:=(Lit.int .i64 x).wf=true
theorem o2:∀N,Opn enc Tryz.prog W N (rInt .i64) 2 G2:=fun N=>Opn.int Tryz.underlying2
def G4(_:Bool):Prop:=True
theorem o4:∀N,Opn enc Tryz.prog W N rBool 4 G4:=fun N=>Opn.bool Tryz.underlying4
def G83(x:RVar):Prop:=G3 x.Ty∧G2 x.Low∧G2 x.High∧G3 x.Max∧G4 x.Nullable∧True
theorem o83:∀N,Opn enc Tryz.prog W N rRVar 83 G83:=by
 intro N fuel hf cs x h;obtain⟨hl,n,hn,hfs⟩:=trod_fields Tryz.underlying83 h;have hl:cs.length=5:=hl
 match cs,hl with
 |[c0,c1,c2,c3,c4],_=>
  obtain⟨y0,h0⟩:=hfs 0 _ rfl;obtain⟨a0,r0,g0⟩:=o3 n n (Nat.le_refl _) _ _ h0;have r0:(rInt .i64).R (HW W) [c0] a0:=r0;have r0:[c0]=[.int .i64 a0]:=r0;cases r0;obtain⟨y1,h1⟩:=hfs 1 _ rfl;obtain⟨a1,r1,g1⟩:=o2 n n (Nat.le_refl _) _ _ h1;have r1:(rInt .i64).R (HW W) [c1] a1:=r1;have r1:[c1]=[.int .i64 a1]:=r1;cases r1;obtain⟨y2,h2⟩:=hfs 2 _ rfl;obtain⟨a2,r2,g2⟩:=o2 n n (Nat.le_refl _) _ _ h2;have r2:(rInt .i64).R (HW W) [c2] a2:=r2;have r2:[c2]=[.int .i64 a2]:=r2;cases r2;obtain⟨y3,h3⟩:=hfs 3 _ rfl;obtain⟨a3,r3,g3⟩:=o3 n n (Nat.le_refl _) _ _ h3;have r3:(rInt .i64).R (HW W) [c3] a3:=r3;have r3:[c3]=[.int .i64 a3]:=r3;cases r3;obtain⟨y4,h4⟩:=hfs 4 _ rfl;obtain⟨a4,r4,g4⟩:=o4 n n (Nat.le_refl _) _ _ h4;have r4:rBool.R (HW W) [c4] a4:=r4;have r4:[c4]=[.bool a4]:=r4;cases r4;exact⟨⟨a0,a1,a2,a3,a4⟩,⟨rfl,trivial⟩,⟨g0,g1,g2,g3,g4,trivial⟩⟩
def G23(xs:(List Int)):Prop:=xs.length≤9223372036854775807∧∀x∈xs,G3 x
def G87(x:Coef):Prop:=G3 x.Var∧G2 x.N∧True
theorem o87:∀N,Opn enc Tryz.prog W N rCoef 87 G87:=by
 intro N fuel hf cs x h;obtain⟨hl,n,hn,hfs⟩:=trod_fields Tryz.underlying87 h;have hl:cs.length=2:=hl
 match cs,hl with
 |[c0,c1],_=>
  obtain⟨y0,h0⟩:=hfs 0 _ rfl;obtain⟨a0,r0,g0⟩:=o3 n n (Nat.le_refl _) _ _ h0;have r0:(rInt .i64).R (HW W) [c0] a0:=r0;have r0:[c0]=[.int .i64 a0]:=r0;cases r0;obtain⟨y1,h1⟩:=hfs 1 _ rfl;obtain⟨a1,r1,g1⟩:=o2 n n (Nat.le_refl _) _ _ h1;have r1:(rInt .i64).R (HW W) [c1] a1:=r1;have r1:[c1]=[.int .i64 a1]:=r1;cases r1;exact⟨⟨a0,a1⟩,⟨rfl,trivial⟩,⟨g0,g1,trivial⟩⟩
def G88(xs:(List Coef)):Prop:=xs.length≤9223372036854775807∧∀x∈xs,G87 x
theorem o88:∀N,Opn enc Tryz.prog W N (rSl rCoef) 88 G88:=fun N=>Opn.less (Opn.slice Tryz.underlying88 (by kernel_rfl) rfl (o87 N))
def G90(x:Linear):Prop:=G2 x.Const∧G88 x.Coefs∧True
theorem o90:∀N,Opn enc Tryz.prog W N rLinear 90 G90:=by
 intro N fuel hf cs x h;obtain⟨hl,n,hn,hfs⟩:=trod_fields Tryz.underlying90 h;have hl:cs.length=2:=hl
 match cs,hl with
 |[c0,c1],_=>
  obtain⟨y0,h0⟩:=hfs 0 _ rfl;obtain⟨a0,r0,g0⟩:=o2 n n (Nat.le_refl _) _ _ h0;have r0:(rInt .i64).R (HW W) [c0] a0:=r0;have r0:[c0]=[.int .i64 a0]:=r0;cases r0;obtain⟨y1,h1⟩:=hfs 1 _ rfl;obtain⟨a1,r1,g1⟩:=o88 n n (Nat.le_refl _) _ _ h1;have r1:(rSl rCoef).R (HW W) [c1] a1:=r1;obtain⟨v1,e1,k1⟩:=r1;cases e1;exact⟨⟨a0,a1⟩,⟨_,rfl,k1,trivial⟩,⟨g0,g1,trivial⟩⟩
def G104(x:RAux):Prop:=G90 x.Of∧G2 x.By∧G3 x.Text∧True
theorem o104:∀N,Opn enc Tryz.prog W N rRAux 104 G104:=by
 intro N fuel hf cs x h;obtain⟨hl,n,hn,hfs⟩:=trod_fields Tryz.underlying104 h;have hl:cs.length=4:=hl
 match cs,hl with
 |[c0,c1,c2,c3],_=>
  obtain⟨y0,h0⟩:=hfs 0 _ rfl;obtain⟨a0,r0,g0⟩:=o90 n n (Nat.le_refl _) _ _ h0;have r0:rLinear.R (HW W) [c0,c1] a0:=r0;obtain⟨v0_0,e0,k0_0,-⟩:=r0;cases e0;obtain⟨y1,h1⟩:=hfs 1 _ rfl;obtain⟨a1,r1,g1⟩:=o2 n n (Nat.le_refl _) _ _ h1;have r1:(rInt .i64).R (HW W) [c2] a1:=r1;have r1:[c2]=[.int .i64 a1]:=r1;cases r1;obtain⟨y2,h2⟩:=hfs 2 _ rfl;obtain⟨a2,r2,g2⟩:=o3 n n (Nat.le_refl _) _ _ h2;have r2:(rInt .i64).R (HW W) [c3] a2:=r2;have r2:[c3]=[.int .i64 a2]:=r2;cases r2;exact⟨⟨a0,a1,a2⟩,⟨_,rfl,k0_0,trivial⟩,⟨g0,g1,g2,trivial⟩⟩
def G24(xs:(List RAux)):Prop:=xs.length≤9223372036854775807∧∀x∈xs,G104 x
def G92(x:Constraint):Prop:=G90 x.Linear∧G4 x.Equal∧True
theorem o92:∀N,Opn enc Tryz.prog W N rConstraint 92 G92:=by
 intro N fuel hf cs x h;obtain⟨hl,n,hn,hfs⟩:=trod_fields Tryz.underlying92 h;have hl:cs.length=3:=hl
 match cs,hl with
 |[c0,c1,c2],_=>
  obtain⟨y0,h0⟩:=hfs 0 _ rfl;obtain⟨a0,r0,g0⟩:=o90 n n (Nat.le_refl _) _ _ h0;have r0:rLinear.R (HW W) [c0,c1] a0:=r0;obtain⟨v0_0,e0,k0_0,-⟩:=r0;cases e0;obtain⟨y1,h1⟩:=hfs 1 _ rfl;obtain⟨a1,r1,g1⟩:=o4 n n (Nat.le_refl _) _ _ h1;have r1:rBool.R (HW W) [c2] a1:=r1;have r1:[c2]=[.bool a1]:=r1;cases r1;exact⟨⟨a0,a1⟩,⟨_,rfl,k0_0,trivial⟩,⟨g0,g1,trivial⟩⟩
def G25(xs:(List Constraint)):Prop:=xs.length≤9223372036854775807∧∀x∈xs,G92 x
def G9(s:List UInt8):Prop:=s.length≤9223372036854775807
theorem o9:∀N,Opn enc Tryz.prog W N rStr 9 G9:=fun N=>Opn.strL Tryz.underlying9
def G112(x:TTest):Prop:=G3 x.Var∧G3 x.Kind∧G4 x.Negated∧G9 x.Text∧True
theorem o112:∀N,Opn enc Tryz.prog W N rTTest 112 G112:=by
 intro N fuel hf cs x h;obtain⟨hl,n,hn,hfs⟩:=trod_fields Tryz.underlying112 h;have hl:cs.length=4:=hl
 match cs,hl with
 |[c0,c1,c2,c3],_=>
  obtain⟨y0,h0⟩:=hfs 0 _ rfl;obtain⟨a0,r0,g0⟩:=o3 n n (Nat.le_refl _) _ _ h0;have r0:(rInt .i64).R (HW W) [c0] a0:=r0;have r0:[c0]=[.int .i64 a0]:=r0;cases r0;obtain⟨y1,h1⟩:=hfs 1 _ rfl;obtain⟨a1,r1,g1⟩:=o3 n n (Nat.le_refl _) _ _ h1;have r1:(rInt .i64).R (HW W) [c1] a1:=r1;have r1:[c1]=[.int .i64 a1]:=r1;cases r1;obtain⟨y2,h2⟩:=hfs 2 _ rfl;obtain⟨a2,r2,g2⟩:=o4 n n (Nat.le_refl _) _ _ h2;have r2:rBool.R (HW W) [c2] a2:=r2;have r2:[c2]=[.bool a2]:=r2;cases r2;obtain⟨y3,h3⟩:=hfs 3 _ rfl;obtain⟨a3,r3,g3⟩:=o9 n n (Nat.le_refl _) _ _ h3;have r3:rStr.R (HW W) [c3] a3:=r3;have r3:[c3]=[.string (s8 a3)]:=r3;cases r3;exact⟨⟨a0,a1,a2,a3⟩,⟨rfl,trivial⟩,⟨g0,g1,g2,g3,trivial⟩⟩
def G26(xs:(List TTest)):Prop:=xs.length≤9223372036854775807∧∀x∈xs,G112 x
def G54(x:Arr2Int):Prop:=G3 x.e0∧G3 x.e1∧True
theorem o54:∀N,Opn enc Tryz.prog W N rArr2Int 54 G54:=by
 intro N fuel hf cs x h;obtain⟨hl,n,hn,hfs⟩:=trod_elems Tryz.underlying54 h;have hl:cs.length=2:=hl
 match cs,hl with
 |[c0,c1],_=>
  obtain⟨y0,h0⟩:=hfs 0 (by decide);obtain⟨a0,r0,g0⟩:=o3 n n (Nat.le_refl _) _ _ h0;have r0:(rInt .i64).R (HW W) [c0] a0:=r0;have r0:[c0]=[.int .i64 a0]:=r0;cases r0;obtain⟨y1,h1⟩:=hfs 1 (by decide);obtain⟨a1,r1,g1⟩:=o3 n n (Nat.le_refl _) _ _ h1;have r1:(rInt .i64).R (HW W) [c1] a1:=r1;have r1:[c1]=[.int .i64 a1]:=r1;cases r1;exact⟨⟨a0,a1⟩,⟨rfl,trivial⟩,⟨g0,g1,trivial⟩⟩
def G27(xs:(List Arr2Int)):Prop:=xs.length≤9223372036854775807∧∀x∈xs,G54 x
def G29(x:RClause):Prop:=G23 x.Null∧G23 x.NotNull∧G24 x.Auxiliary∧G25 x.Ints∧G26 x.Tests∧G27 x.Same∧G27 x.Different∧True
def G177(x:Int):Prop:=(Lit.int .u32 x).wf=true
theorem o177:∀N,Opn enc Tryz.prog W N (rInt .u32) 177 G177:=fun N=>Opn.int Tryz.underlying177
def G55(xs:(List Int)):Prop:=xs.length≤9223372036854775807∧∀x∈xs,G177 x
theorem o55:∀N,Opn enc Tryz.prog W N (rSl (rInt .u32)) 55 G55:=fun N=>Opn.less (Opn.slice Tryz.underlying55 (by kernel_rfl) rfl (o177 N))
def G57(x:Big):Prop:=G4 x.Negative∧G55 x.Digits∧True
theorem o57:∀N,Opn enc Tryz.prog W N rBig 57 G57:=by
 intro N fuel hf cs x h;obtain⟨hl,n,hn,hfs⟩:=trod_fields Tryz.underlying57 h;have hl:cs.length=2:=hl
 match cs,hl with
 |[c0,c1],_=>
  obtain⟨y0,h0⟩:=hfs 0 _ rfl;obtain⟨a0,r0,g0⟩:=o4 n n (Nat.le_refl _) _ _ h0;have r0:rBool.R (HW W) [c0] a0:=r0;have r0:[c0]=[.bool a0]:=r0;cases r0;obtain⟨y1,h1⟩:=hfs 1 _ rfl;obtain⟨a1,r1,g1⟩:=o55 n n (Nat.le_refl _) _ _ h1;have r1:(rSl (rInt .u32)).R (HW W) [c1] a1:=r1;obtain⟨v1,e1,k1⟩:=r1;cases e1;exact⟨⟨a0,a1⟩,⟨_,rfl,k1,trivial⟩,⟨g0,g1,trivial⟩⟩
def G94(x:Use):Prop:=G3 x.Index∧G57 x.N∧True
theorem o94:∀N,Opn enc Tryz.prog W N rUse 94 G94:=by
 intro N fuel hf cs x h;obtain⟨hl,n,hn,hfs⟩:=trod_fields Tryz.underlying94 h;have hl:cs.length=3:=hl
 match cs,hl with
 |[c0,c1,c2],_=>
  obtain⟨y0,h0⟩:=hfs 0 _ rfl;obtain⟨a0,r0,g0⟩:=o3 n n (Nat.le_refl _) _ _ h0;have r0:(rInt .i64).R (HW W) [c0] a0:=r0;have r0:[c0]=[.int .i64 a0]:=r0;cases r0;obtain⟨y1,h1⟩:=hfs 1 _ rfl;obtain⟨a1,r1,g1⟩:=o57 n n (Nat.le_refl _) _ _ h1;have r1:rBig.R (HW W) [c1,c2] a1:=r1;obtain⟨v1_0,e1,k1_0,-⟩:=r1;cases e1;exact⟨⟨a0,a1⟩,⟨_,rfl,k1_0,trivial⟩,⟨g0,g1,trivial⟩⟩
def G95(xs:(List Use)):Prop:=xs.length≤9223372036854775807∧∀x∈xs,G94 x
theorem o95:∀N,Opn enc Tryz.prog W N (rSl rUse) 95 G95:=fun N=>Opn.less (Opn.slice Tryz.underlying95 (by kernel_rfl) rfl (o94 N))
def G97(x:Step):Prop:=G95 x.Uses∧G57 x.Divisor∧True
theorem o97:∀N,Opn enc Tryz.prog W N rStep 97 G97:=by
 intro N fuel hf cs x h;obtain⟨hl,n,hn,hfs⟩:=trod_fields Tryz.underlying97 h;have hl:cs.length=3:=hl
 match cs,hl with
 |[c0,c1,c2],_=>
  obtain⟨y0,h0⟩:=hfs 0 _ rfl;obtain⟨a0,r0,g0⟩:=o95 n n (Nat.le_refl _) _ _ h0;have r0:(rSl rUse).R (HW W) [c0] a0:=r0;obtain⟨v0,e0,k0⟩:=r0;cases e0;obtain⟨y1,h1⟩:=hfs 1 _ rfl;obtain⟨a1,r1,g1⟩:=o57 n n (Nat.le_refl _) _ _ h1;have r1:rBig.R (HW W) [c1,c2] a1:=r1;obtain⟨v1_0,e1,k1_0,-⟩:=r1;cases e1;exact⟨⟨a0,a1⟩,⟨_,_,rfl,k0,k1_0,trivial⟩,⟨g0,g1,trivial⟩⟩
def G51(xs:(List Big)):Prop:=xs.length≤9223372036854775807∧∀x∈xs,G57 x
theorem o51:∀N,Opn enc Tryz.prog W N (rSl rBig) 51 G51:=fun N=>Opn.less (Opn.slice Tryz.underlying51 (by kernel_rfl) rfl (o57 N))
theorem mem_sum:∀{l:List Nat} {x:Nat},x∈l→x≤l.sum
 |a::r,x,h=>by
  rw[List.sum_cons];rcases List.mem_cons.1 h with rfl|h
  · omega
  · have:=mem_sum h;omega
theorem bk_one(d:DataW H):1≤Rows.uptoBulk d:=by
 cases d with
 |lit l=>cases l<;>simp[Rows.uptoBulk]
 |_=>simp[Rows.uptoBulk]
theorem bk_all:∀l:List (DataW H),Rows.uptoBulkAll l=(l.map Rows.uptoBulk).sum
 |[]=>rfl
 |d::r=>by simp only[Rows.uptoBulkAll,bk_all r,List.map_cons,List.sum_cons]
theorem bk_len:∀l:List (DataW H),l.length≤Rows.uptoBulkAll l
 |[]=>Nat.zero_le _
 |d::r=>by have:=bk_one d;have:=bk_len r;simp only[Rows.uptoBulkAll,List.length_cons];omega
theorem slT_len{α:Type}{T:α→DataW H→Prop}{xs:List α}{d:DataW H}(h:SlT T xs d):xs.length≤Rows.uptoBulk d:=by
 rcases h with⟨_,rfl⟩|⟨es,sp,rfl,hl,_⟩
 · simp
 · have:=bk_len es;simp only[Rows.uptoBulk];omega
theorem slT_sum{α:Type}{B:α→Nat}{xs:List α}{d:DataW H}(h:SlT (fun x y=>B x≤Rows.uptoBulk y) xs d):(xs.map B).sum≤Rows.uptoBulk d:=by
 rcases h with⟨_,rfl⟩|⟨es,sp,rfl,hl,hT⟩
 · simp
 · have:=sum_le hl hT;rw[←bk_all]at this;simp only[Rows.uptoBulk];omega
theorem bkPs_sum:∀l:List Proof,bkPs l=(l.map bkP).sum
 |[]=>rfl
 |c::r=>by simp only[bkPs,bkPs_sum r,List.map_cons,List.sum_cons]
theorem bkRs_sum:∀l:List Refut,bkRs l=(l.map bkR).sum
 |[]=>rfl
 |c::r=>by simp only[bkRs,bkRs_sum r,List.map_cons,List.sum_cons]
theorem bulk_at{ds:List (DataW H)}(hk:Rows.uptoSmall H ds=true){i:Nat}{d:DataW H}(h:ds[i]?=some d):Rows.uptoBulk d≤1048576:=by
 have h1:Rows.uptoBulkAll ds≤1048576:=of_decide_eq_true hk;rw[bk_all]at h1;have:Rows.uptoBulk d≤(ds.map Rows.uptoBulk).sum:=mem_sum (List.mem_map.2 ⟨_,List.mem_of_getElem? h,rfl⟩);omega
theorem inB_of{l:List Int}(h:G55 l):InB W32 l:=fun x hx=>by
 have:=bounds_u32 (h.2 x hx);simp only[W32];omega
theorem in32_of{x:Big}(h:G57 x):In32 x:=inB_of h.2.1
theorem inS_of{s:Step}(h:G97 s):InS s:=⟨h.1.1,fun u hu=>in32_of (h.1.2 u hu).2.1,in32_of h.2.1⟩
theorem oSteps:∀N,OpnT enc Tryz.prog W N (rSl rStep) 67 (fun xs=>xs.length≤9223372036854775807∧∀x∈xs,G97 x) (SlT fun _ _=>True):=fun N=>OpnT.less (OpnT.slice Tryz.underlying67 (by kernel_rfl) rfl (Opn.t (o97 N)))
theorem oProof:∀N,OpnT enc Tryz.prog W N rProof 70 InPr (fun p d=>bkP p≤Rows.uptoBulk d):=by
  intro N
  induction N with
  | zero => intro fuel hf cs x h; obtain rfl : fuel = 0 := by omega
            simp[DataW.trod]at h
  |succ N ih=>
    intro fuel hf cs x h;obtain⟨hl,n,hn,ds,hx,hdl,hfs⟩:=trod_fieldsT Tryz.underlying70 h;have hl:cs.length=5:=hl
    match cs,hl with
    |[c0,c1,c2,c3,c4],_=>
      obtain⟨y0,h0,e0⟩:=hfs 0 _ rfl;obtain⟨a0,r0,g0,t0⟩:=oSteps n n (Nat.le_refl _) _ _ h0;have r0:(rSl rStep).R (HW W) [c0] a0:=r0;obtain⟨v0,q0,k0⟩:=r0;cases q0;obtain⟨y1,h1,e1⟩:=hfs 1 _ rfl;obtain⟨a1,r1,g1⟩:=o51 n n (Nat.le_refl _) _ _ h1;have r1:(rSl rBig).R (HW W) [c1] a1:=r1;obtain⟨v1,q1,k1⟩:=r1;cases q1;obtain⟨y2,h2,e2⟩:=hfs 2 _ rfl;obtain⟨a2,r2,g2⟩:=o57 n n (Nat.le_refl _) _ _ h2;have r2:rBig.R (HW W) [c2,c3] a2:=r2;obtain⟨v2,q2,k2,-⟩:=r2;cases q2;obtain⟨y3,h3,e3⟩:=hfs 3 _ rfl;obtain⟨a3,r3,g3,t3⟩:=(OpnT.slice Tryz.underlying68 (by kernel_rfl) rfl ih) n (by omega) _ _ h3;have r3:(rSl rProof).R (HW W) [c4] a3:=r3;obtain⟨v3,q3,k3⟩:=r3;cases q3;refine⟨⟨a0,a1,a2,a3⟩,rProof_close ⟨_,_,_,_,rfl,k0,k1,k2,k3,trivial⟩,.mk (fun s hs=>inS_of (g0.2 s hs)) g1.1 (fun b hb=>in32_of (g1.2 b hb)) (in32_of g2) g3.1 g3.2,?_⟩;show bkP _≤Rows.uptoBulk x.1;rw[bkP_eq,hx];have b0:=slT_len t0;have b3:=slT_sum t3;rw[←bkPs_sum]at b3;have:Rows.uptoBulk y0.1+Rows.uptoBulk y3.1≤Rows.uptoBulkAll ds:=by
        match ds,hdl with
        |[d0,d1,d2,d3],_=>
          cases e0;cases e3;simp only[Rows.uptoBulkAll];omega
      show a0.length+bkPs a3+1≤Rows.uptoBulk (.agg ds);simp only[Rows.uptoBulk];omega
theorem oRefut:∀N,OpnT enc Tryz.prog W N rRefut 73 InRr (fun p d=>bkR p≤Rows.uptoBulk d):=by
  intro N
  induction N with
  | zero => intro fuel hf cs x h; obtain rfl : fuel = 0 := by omega
            simp[DataW.trod]at h
  |succ N ih=>
    intro fuel hf cs x h;obtain⟨hl,n,hn,ds,hx,hdl,hfs⟩:=trod_fieldsT Tryz.underlying73 h;have hl:cs.length=9:=hl
    match cs,hl with
    |[c0,c1,c2,c3,c4,c5,c6,c7,c8],_=>
      obtain⟨y0,h0,e0⟩:=hfs 0 _ rfl;obtain⟨a0,r0,g0⟩:=o3 n n (Nat.le_refl _) _ _ h0;have r0:[c0]=[.int .i64 a0]:=r0;cases r0;obtain⟨y1,h1,e1⟩:=hfs 1 _ rfl;obtain⟨a1,r1,g1⟩:=o3 n n (Nat.le_refl _) _ _ h1;have r1:[c1]=[.int .i64 a1]:=r1;cases r1;obtain⟨y2,h2,e2⟩:=hfs 2 _ rfl;obtain⟨a2,r2,g2⟩:=o3 n n (Nat.le_refl _) _ _ h2;have r2:[c2]=[.int .i64 a2]:=r2;cases r2;obtain⟨y3,h3,e3⟩:=hfs 3 _ rfl;obtain⟨a3,r3,g3,t3⟩:=oProof n n (Nat.le_refl _) _ _ h3;have r3:rProof.R (HW W) [c3,c4,c5,c6,c7] a3:=r3;obtain⟨v0,v1,v2,v3,q3,k0,k1,k2,k3,-⟩:=rProof_open r3;cases q3;obtain⟨y4,h4,e4⟩:=hfs 4 _ rfl;obtain⟨a4,r4,g4,t4⟩:=(OpnT.slice Tryz.underlying71 (by kernel_rfl) rfl ih) n (by omega) _ _ h4;have r4:(rSl rRefut).R (HW W) [c8] a4:=r4;obtain⟨v4,q4,k4⟩:=r4;cases q4;refine⟨⟨a0,a1,a2,a3,a4⟩,rRefut_close ⟨_,_,_,_,_,rfl,k0,k1,k2,k3,k4,trivial⟩,.mk (bounds_i64 g1) (bounds_i64 g2) g3 g4.1 g4.2,?_⟩;show bkR _≤Rows.uptoBulk x.1;rw[bkR_eq,hx];have b4:=slT_sum t4;rw[←bkRs_sum]at b4;have:Rows.uptoBulk y3.1+Rows.uptoBulk y4.1≤Rows.uptoBulkAll ds:=by
        match ds,hdl with
        |[d0,d1,d2,d3,d4],_=>
          cases e3;cases e4;simp only[Rows.uptoBulkAll];omega
      show bkP a3+bkRs a4+1≤Rows.uptoBulk (.agg ds);simp only[Rows.uptoBulk];omega
theorem oCla:∀N,OpnT enc Tryz.prog W N rRClause 29 G29 (fun c d=>c.Null.length≤Rows.uptoBulk d∧c.NotNull.length≤Rows.uptoBulk d∧c.Auxiliary.length≤Rows.uptoBulk d∧c.Ints.length≤Rows.uptoBulk d∧c.Tests.length≤Rows.uptoBulk d∧c.Same.length≤Rows.uptoBulk d∧c.Different.length≤Rows.uptoBulk d):=by
 intro N fuel hf cs x h;obtain⟨hl,n,hn,ds,hx,hdl,hfs⟩:=trod_fieldsT Tryz.underlying29 h;have hl:cs.length=7:=hl
 match cs,hl with
 |[c0,c1,c2,c3,c4,c5,c6],_=>
  obtain⟨y0,h0,e0⟩:=hfs 0 _ rfl;obtain⟨a0,r0,g0,t0⟩:=(OpnT.less (OpnT.slice Tryz.underlying23 (by kernel_rfl) rfl (Opn.t (o3 n)))) n (Nat.le_refl _) _ _ h0;have r0:(rSl (rInt .i64)).R (HW W) [c0] a0:=r0;obtain⟨v0,q0,k0⟩:=r0;cases q0;have b0:=slT_len t0;obtain⟨y1,h1,e1⟩:=hfs 1 _ rfl;obtain⟨a1,r1,g1,t1⟩:=(OpnT.less (OpnT.slice Tryz.underlying23 (by kernel_rfl) rfl (Opn.t (o3 n)))) n (Nat.le_refl _) _ _ h1;have r1:(rSl (rInt .i64)).R (HW W) [c1] a1:=r1;obtain⟨v1,q1,k1⟩:=r1;cases q1;have b1:=slT_len t1;obtain⟨y2,h2,e2⟩:=hfs 2 _ rfl;obtain⟨a2,r2,g2,t2⟩:=(OpnT.less (OpnT.slice Tryz.underlying24 (by kernel_rfl) rfl (Opn.t (o104 n)))) n (Nat.le_refl _) _ _ h2;have r2:(rSl rRAux).R (HW W) [c2] a2:=r2;obtain⟨v2,q2,k2⟩:=r2;cases q2;have b2:=slT_len t2;obtain⟨y3,h3,e3⟩:=hfs 3 _ rfl;obtain⟨a3,r3,g3,t3⟩:=(OpnT.less (OpnT.slice Tryz.underlying25 (by kernel_rfl) rfl (Opn.t (o92 n)))) n (Nat.le_refl _) _ _ h3;have r3:(rSl rConstraint).R (HW W) [c3] a3:=r3;obtain⟨v3,q3,k3⟩:=r3;cases q3;have b3:=slT_len t3;obtain⟨y4,h4,e4⟩:=hfs 4 _ rfl;obtain⟨a4,r4,g4,t4⟩:=(OpnT.less (OpnT.slice Tryz.underlying26 (by kernel_rfl) rfl (Opn.t (o112 n)))) n (Nat.le_refl _) _ _ h4;have r4:(rSl rTTest).R (HW W) [c4] a4:=r4;obtain⟨v4,q4,k4⟩:=r4;cases q4;have b4:=slT_len t4;obtain⟨y5,h5,e5⟩:=hfs 5 _ rfl;obtain⟨a5,r5,g5,t5⟩:=(OpnT.less (OpnT.slice Tryz.underlying27 (by kernel_rfl) rfl (Opn.t (o54 n)))) n (Nat.le_refl _) _ _ h5;have r5:(rSl rArr2Int).R (HW W) [c5] a5:=r5;obtain⟨v5,q5,k5⟩:=r5;cases q5;have b5:=slT_len t5;obtain⟨y6,h6,e6⟩:=hfs 6 _ rfl;obtain⟨a6,r6,g6,t6⟩:=(OpnT.less (OpnT.slice Tryz.underlying27 (by kernel_rfl) rfl (Opn.t (o54 n)))) n (Nat.le_refl _) _ _ h6;have r6:(rSl rArr2Int).R (HW W) [c6] a6:=r6;obtain⟨v6,q6,k6⟩:=r6;cases q6;have b6:=slT_len t6;have hb:Rows.uptoBulk y0.1≤Rows.uptoBulkAll ds∧Rows.uptoBulk y1.1≤Rows.uptoBulkAll ds∧Rows.uptoBulk y2.1≤Rows.uptoBulkAll ds∧Rows.uptoBulk y3.1≤Rows.uptoBulkAll ds∧Rows.uptoBulk y4.1≤Rows.uptoBulkAll ds∧Rows.uptoBulk y5.1≤Rows.uptoBulkAll ds∧Rows.uptoBulk y6.1≤Rows.uptoBulkAll ds:=by
   match ds,hdl with
   |[d0,d1,d2,d3,d4,d5,d6],_=>
    cases e0;cases e1;cases e2;cases e3;cases e4;cases e5;cases e6;simp only[Rows.uptoBulkAll];omega
  refine⟨⟨a0,a1,a2,a3,a4,a5,a6⟩,rRClause_close ⟨_,_,_,_,_,_,_,rfl,k0,k1,k2,k3,k4,k5,k6,trivial⟩,⟨g0,g1,g2,g3,g4,g5,g6,trivial⟩,?_⟩;have hx2:Rows.uptoBulkAll ds≤Rows.uptoBulk x.1:=by
   rw[hx];show _≤Rows.uptoBulk (.agg ds);simp only[Rows.uptoBulk];omega
  dsimp only;exact⟨by omega,by omega,by omega,by omega,by omega,by omega,by omega⟩
theorem oVars:∀N,OpnT enc Tryz.prog W N (rSl rRVar) 22 (fun xs=>xs.length≤9223372036854775807∧∀x∈xs,G83 x) (SlT fun _ _=>True):=fun N=>OpnT.less (OpnT.slice Tryz.underlying22 (by kernel_rfl) rfl (Opn.t (o83 N)))
theorem limc_of{c:RClause}(h:G29 c):LimC c:=⟨h.1.1,h.2.1.1,fun a ha=>(h.2.2.1.2 a ha).1.2.1.1,fun k hk=>(h.2.2.2.1.2 k hk).1.2.1.1,fun t ht=>(h.2.2.2.2.1.2 t ht).2.2.2.1⟩
theorem lwc_of{c:RClause}{d:DataW H}(hd:Rows.uptoBulk d≤1048576)(h:c.Null.length≤Rows.uptoBulk d∧c.NotNull.length≤Rows.uptoBulk d∧c.Auxiliary.length≤Rows.uptoBulk d∧c.Ints.length≤Rows.uptoBulk d∧c.Tests.length≤Rows.uptoBulk d∧c.Same.length≤Rows.uptoBulk d∧c.Different.length≤Rows.uptoBulk d):LwC c:=by
 obtain⟨h0,h1,h2,h3,h4,h5,h6⟩:=h;exact⟨by omega,by omega,by omega,by omega,by omega,by omega,by omega⟩
end
end Go.Proofs.YtcakdidcpoolcaaGreatDoor.Q25
namespace Go.Proofs
open Go.Shelf
def Tryz.lays171_ren:Go.Shelf.Ren:=⟨fun|171=>67|243=>103|246=>142|283=>161|284=>162|285=>163|286=>164|129=>177|317=>176|318=>178|319=>179|320=>180|337=>193|338=>194|n=>n,fun|3=>3|9=>9|2=>2|4=>4|171=>221|0=>0|53=>149|37=>133|5=>5|173=>224|212=>242|51=>177|20=>20|213=>243|46=>220|232=>256|233=>257|n=>n,fun|17=>0|18=>1|19=>2|n=>n⟩
theorem Tryz.lays171:Go.Proofs.Lays.n171 Tryz.prog Tryz.lays171_ren:={
 mixed:=by kernel_rfl
 f129:=Tryz.func177.trans (congrArg some (by kernel_rfl))
 f171:=Tryz.func67.trans (congrArg some (by kernel_rfl))
 f243:=Tryz.func103.trans (congrArg some (by kernel_rfl))
 f246:=Tryz.func142.trans (congrArg some (by kernel_rfl))
 f283:=Tryz.func161.trans (congrArg some (by kernel_rfl))
 f284:=Tryz.func162.trans (congrArg some (by kernel_rfl))
 f285:=Tryz.func163.trans (congrArg some (by kernel_rfl))
 f286:=Tryz.func164.trans (congrArg some (by kernel_rfl))
 f317:=Tryz.func176.trans (congrArg some (by kernel_rfl))
 f318:=Tryz.func178.trans (congrArg some (by kernel_rfl))
 f319:=Tryz.func179.trans (congrArg some (by kernel_rfl))
 f320:=Tryz.func180.trans (congrArg some (by kernel_rfl))
 f337:=Tryz.func193.trans (congrArg some (by kernel_rfl))
 f338:=Tryz.func194.trans (congrArg some (by kernel_rfl))
 t0:=Tryz.underlying0
 a0:=Tryz.isAgg0
 z0:=Tryz.sizeOf0
 v0:=Tryz.zeroValue0
 t2:=Tryz.underlying2
 a2:=Tryz.isAgg2
 z2:=Tryz.sizeOf2
 v2:=Tryz.zeroValue2
 t3:=Tryz.underlying3
 a3:=Tryz.isAgg3
 z3:=Tryz.sizeOf3
 v3:=Tryz.zeroValue3
 t4:=Tryz.underlying4
 a4:=Tryz.isAgg4
 z4:=Tryz.sizeOf4
 v4:=Tryz.zeroValue4
 t5:=Tryz.underlying5
 a5:=Tryz.isAgg5
 z5:=Tryz.sizeOf5
 v5:=Tryz.zeroValue5
 t9:=Tryz.underlying9
 a9:=Tryz.isAgg9
 z9:=Tryz.sizeOf9
 v9:=Tryz.zeroValue9
 t20:=Tryz.underlying20
 a20:=Tryz.isAgg20
 z20:=Tryz.sizeOf20
 v20:=Tryz.zeroValue20
 t37:=Tryz.underlying133
 a37:=Tryz.isAgg133
 z37:=Tryz.sizeOf133
 v37:=Tryz.zeroValue133
 t46:=Tryz.underlying220
 a46:=Tryz.isAgg220
 z46:=Tryz.sizeOf220
 v46:=Tryz.zeroValue220
 t51:=Tryz.underlying177
 a51:=Tryz.isAgg177
 z51:=Tryz.sizeOf177
 v51:=Tryz.zeroValue177
 t53:=Tryz.underlying149
 a53:=Tryz.isAgg149
 z53:=Tryz.sizeOf149
 v53:=Tryz.zeroValue149
 t171:=Tryz.underlying221
 a171:=Tryz.isAgg221
 z171:=Tryz.sizeOf221
 v171:=Tryz.zeroValue221
 t173:=Tryz.underlying224
 a173:=Tryz.isAgg224
 z173:=Tryz.sizeOf224
 v173:=Tryz.zeroValue224
 t212:=Tryz.underlying242
 a212:=Tryz.isAgg242
 z212:=Tryz.sizeOf242
 v212:=Tryz.zeroValue242
 t213:=Tryz.underlying243
 a213:=Tryz.isAgg243
 z213:=Tryz.sizeOf243
 t232:=Tryz.underlying256
 a232:=Tryz.isAgg256
 z232:=Tryz.sizeOf256
 v232:=Tryz.zeroValue256
 t233:=Tryz.underlying257
 a233:=Tryz.isAgg257
 z233:=Tryz.sizeOf257
 v233:=Tryz.zeroValue257
 g17:=by kernel_rfl
 g18:=by kernel_rfl
 g19:=by kernel_rfl}
open Go.RowKit Go.Sort Go.Lib in
theorem Tryz.strconv_Itoa_small(i:Nat)(hi:i<100)(w:World):
 Calls Tryz.prog 67 #[.int .i64 i] w fun e w'=>e=.returned (.string ⟨(Lib.decDigits i).toArray⟩)∧w'=w:=Any.strconv_Itoa_small Tryz.lays171 i hi w
end Go.Proofs
namespace Go.Proofs.YtcakdidcpoolcaaGreatDoor.WF
open Go Go.X Go.D Go.Lib Go.Proofs
theorem fmtI_w(N:Nat)(n:Int)(w:World)(S:Nat→Prop)(r:List UInt8)(h:fmtI N n=some r):
 Calls Tryz.prog 67 #[.int .i64 n] w (Ret w (fun v w'=>Value.string (s8 r)=v∧True)):=by
 unfold fmtI at h;split at h
 · rename_i hc;cases h;obtain⟨k,rfl⟩:∃k:Nat,n=(k:Int):=⟨n.toNat,by omega⟩;refine(Tryz.strconv_Itoa_small k (by omega) w).mono ?_;rintro e w' ⟨rfl,rfl⟩;exact⟨_,rfl,Ext.refl _,rfl,trivial⟩
 · cases h
end Go.Proofs.YtcakdidcpoolcaaGreatDoor.WF
namespace Go.Proofs.YtcakdidcpoolcaaGreatDoor.FS
open Go Go.RowKit Go.X Go.D Go.Q
theorem en67:Go.X.Enters Tryz.prog 67:=⟨Tryz.f67,Tryz.func67,by kernel_rfl,by kernel_rfl⟩
theorem fmtI_c(N:Nat)(n:Int)(r:List UInt8)(h:fmtI N n=some r):Cn Tryz.prog 67 [sI .i64 n] [] [sT r]:=by
 refine in_calls en67 fun ν H w l hl=>?_;obtain⟨a,b,rfl,⟨h1,h2⟩,rfl⟩:=hl;rw[h1];refine(WF.fmtI_w N n w (fun _=>True) r h).mono ?_;rintro e w' ⟨v,rfl,hE,hv,_⟩;exact⟨[v],rfl,hE,fun ν' H'=>⟨v,[],rfl,⟨hv.symm,rfl⟩,rfl⟩⟩
end Go.Proofs.YtcakdidcpoolcaaGreatDoor.FS
